import Derived.Test.YtcdjheiccefcdaaJ1
import Derived.Laws.BytesString
import Derived.Laws.IdiomStrings
import Derived.Laws.MakeOwn
import Derived.Laws.StructEq
import Derived.ChangeKeysEq
set_option linter.unusedSimpArgs false
set_option linter.unusedVariables false
/-
What an operation that calls nothing does to what a frame holds, ninth part: copy, conversions, what is let go, literals.
-/
set_option linter.unusedSimpArgs false
set_option linter.unusedVariables false
namespace Go.Sym

/-! ### Small things -/

def aUn (op : UnOp) : AV → Option Res
  | .d (.bool b) => match op with
    | .not => some ⟨True, .d (.bool (!b)), []⟩
    | _ => none
  | .d (.int k n) => match op with
    | .neg => some ⟨True, .d (.int k (k.wrap (0 - n))), []⟩
    | .xor => some ⟨True, .d (.int k (aBits .xor k (if k.signed then -1 else k.max) n)), []⟩
    | _ => none
  | _ => none

theorem aUn_sound {P : Program} {op : UnOp} {T : TypeId} {o : Oper} {x : Operand} {S : St} {res : Res} (ho : o.op = .unOp op T x) (h : aUn op (S.ev x) = some res) : StepsTo P o S (S.upd o.dst res.r res.ws) := by
  unfold aUn at h
  split at h <;> try (cases h; done)
  · rename_i b hx
    split at h <;> cases h
    refine steps_value fun ρ X a w hs => ?_
    have he := hs.ev x
    rw [hx] at he
    refine ⟨.bool !b, ?_, ⟨_, .d (.bool _), rfl⟩, fun m hm => by cases hm⟩
    simp only [execOp, ho, repA_bool he]
    rfl
  · rename_i k n hx
    split at h <;> cases h
    · refine steps_value fun ρ X a w hs => ?_
      have he := hs.ev x
      rw [hx] at he
      refine ⟨.int k (k.wrap (0 - n)), ?_, ⟨_, .d (.int _ _), rfl⟩, fun m hm => by cases hm⟩
      simp only [execOp, ho, repA_int he]
      rfl
    · refine steps_value fun ρ X a w hs => ?_
      have he := hs.ev x
      rw [hx] at he
      refine ⟨.int k (aBits .xor k (if k.signed then -1 else k.max) n), ?_, ⟨_, .d (.int _ _), rfl⟩, fun m hm => by cases hm⟩
      simp only [execOp, ho, repA_int he]
      rfl

def aMove (x : AV) : Option Res := some ⟨True, x, []⟩

theorem aMove_sound {P : Program} {o : Oper} {x : Operand} {S : St} {res : Res} (ho : o.op = .move x ∨ o.op = .assign x) (h : aMove (S.ev x) = some res) : StepsTo P o S (S.upd o.dst res.r res.ws) := by
  cases h
  refine steps_value fun ρ X a w hs => ⟨a.eval x, ?_, hs.ev x, hs.evNames x⟩
  rcases ho with ho | ho <;> simp only [execOp, ho] <;> rfl

def aPick (c x y : AV) : Option Res := match c, x, y with
  | .d (.bool c), .d (.bool x), .d (.bool y) => some ⟨True, .d (.bool (bif c then x else y)), []⟩
  | .d (.bool true), x, _ => some ⟨True, x, []⟩
  | .d (.bool false), _, y => some ⟨True, y, []⟩
  | _, _, _ => none

theorem aPick_sound {P : Program} {o : Oper} {c x y : Operand} {S : St} {res : Res} (ho : o.op = .pick c x y) (h : aPick (S.ev c) (S.ev x) (S.ev y) = some res) : StepsTo P o S (S.upd o.dst res.r res.ws) := by
  unfold aPick at h
  split at h <;> cases h
  · rename_i c' x' y' hc hx hy
    refine steps_value fun ρ X a w hs => ?_
    have h1 := hs.ev c
    have h2 := hs.ev x
    have h3 := hs.ev y
    rw [hc] at h1; rw [hx] at h2; rw [hy] at h3
    refine ⟨.bool (bif c' then x' else y'), ?_, ⟨_, .d (.bool _), rfl⟩, fun m hm => by cases hm⟩
    simp only [execOp, ho, repA_bool h1, repA_bool h2, repA_bool h3, asBool]
    cases c' <;> rfl
  · rename_i hc _
    refine steps_value fun ρ X a w hs => ⟨a.eval x, ?_, hs.ev x, hs.evNames x⟩
    have h1 := hs.ev c
    rw [hc] at h1
    simp only [execOp, ho, repA_bool h1, asBool]
    rfl
  · rename_i hc _
    refine steps_value fun ρ X a w hs => ⟨a.eval y, ?_, hs.ev y, hs.evNames y⟩
    have h1 := hs.ev c
    rw [hc] at h1
    simp only [execOp, ho, repA_bool h1, asBool]
    rfl

def aExtract (i : Nat) : AV → Option Res
  | .tup vs => match vs[i]? with
    | some x => bif x.plain then some ⟨True, x, []⟩ else none
    | none => none
  | _ => none

theorem RepT.get {ρ : Nat → Option Nat} {X : Nat → Prop} {w : World} : ∀ {xs : List AV} {vs : List Value} {i : Nat} {x : AV}, RepT ρ X w xs vs → xs[i]? = some x → ∃ v, vs[i]? = some v ∧ RepA1 ρ X w x v
  | x :: _, v :: _, 0, _, ⟨h, _⟩, hi => by simp only [List.getElem?_cons_zero, Option.some.injEq] at hi; subst hi; exact ⟨v, rfl, h⟩
  | _ :: _, _ :: _, i + 1, _, ⟨_, hs⟩, hi => by simp only [List.getElem?_cons_succ] at hi ⊢; exact RepT.get hs hi
  | [], _, _, _, _, hi => by simp at hi
  | _ :: _, [], _, _, h, _ => h.elim

theorem aExtract_sound {P : Program} {i : Nat} {o : Oper} {x : Operand} {S : St} {res : Res} (ho : o.op = .extract x i) (h : aExtract i (S.ev x) = some res) : StepsTo P o S (S.upd o.dst res.r res.ws) := by
  unfold aExtract at h
  split at h <;> try (cases h; done)
  rename_i vs hx
  split at h <;> try (cases h; done)
  rename_i y hy
  cases hp : y.plain <;> simp only [hp, cond_true, cond_false] at h <;> cases h
  refine steps_value fun ρ X a w hs => ?_
  have h1 := hs.ev x
  have h2 := hs.evNames x
  rw [hx] at h1 h2
  obtain ⟨us, hu, hr⟩ := h1
  obtain ⟨v, hv, hrv⟩ := hr.get hy
  refine ⟨v, ?_, ?_, fun m hm => h2 m ?_⟩
  · simp only [execOp, ho, hu]
    refine run_map ?_
    simp only [Instr.extract, List.getElem?_toArray, hv]
    rfl
  · cases y <;> first | exact hrv | cases hp
  · show m ∈ AV.namesL vs
    have : ∀ {l : List AV} {j : Nat}, l[j]? = some y → m ∈ AV.namesL l := by
      intro l
      induction l with
      | nil => intro j h; simp at h
      | cons b l ih =>
        intro j h
        simp only [AV.namesL, List.mem_append]
        cases j with
        | zero => simp only [List.getElem?_cons_zero, Option.some.injEq] at h; subst h; exact .inl hm
        | succ j => simp only [List.getElem?_cons_succ] at h; exact .inr (ih h)
    exact this hy

def AV.single : AV → Bool
  | .ptr _ _ => true
  | .fn _ _ => true
  | .dptr _ => true
  | .sl _ _ _ _ _ => true
  | _ => false

def aMakeFunc (fn : Fn) (first : Array Operand) (ins : List AV) : Option Res := match fn with
  | .func f => bif first.isEmpty && ins.all AV.single then some ⟨True, .fn (.func f) ins, []⟩ else none
  | _ => none

theorem aMakeFunc_sound {P : Program} {fn : Fn} {o : Oper} {first caps : Array Operand} {S : St} {res : Res} (ho : o.op = .makeFunc fn first caps) (h : aMakeFunc fn first (caps.toList.map S.ev) = some res) :
    StepsTo P o S (S.upd o.dst res.r res.ws) := by
  unfold aMakeFunc at h
  split at h <;> try (cases h; done)
  rename_i f
  cases hb : first.isEmpty && (caps.toList.map S.ev).all AV.single <;> simp only [hb, cond_true, cond_false] at h <;> cases h
  simp only [Bool.and_eq_true] at hb
  have hfe : first = #[] := by simpa using hb.1
  refine steps_value fun ρ X a w hs => ⟨.func (.func f) #[] (caps.map a.eval), ?_, ?_, fun m hm => ?_⟩
  · simp only [execOp, ho, hfe, Array.map_empty]
    rfl
  · have : ∀ (l : List Operand), (l.map S.ev).all AV.single = true → RepCs ρ X w (l.map S.ev) (l.map a.eval) := by
      intro l
      induction l with
      | nil => intro _; exact .nil
      | cons x l ih =>
        intro h
        simp only [List.map_cons, List.all_cons, Bool.and_eq_true] at h
        have hx : RepC ρ X w (S.ev x) [a.eval x] := by
          have := hs.ev x
          generalize S.ev x = y at *
          have hp : y.plain = true := by cases y <;> first | rfl | cases h.1
          obtain ⟨cs, h1, h2, _⟩ := repA_cells hp this
          have hag : y.isAgg = false := by cases y <;> first | rfl | cases h.1
          have hl := notAgg_size h1 hag
          obtain ⟨v, rfl⟩ := List.length_eq_one_iff.1 hl
          rw [hag] at h2
          rw [h2]; exact h1
        exact .cons hx (ih h.2)
    have := RepC.fn (f := .func f) (this caps.toList hb.2)
    refine ⟨_, this, ?_⟩
    show _ = Value.func (.func f) #[] (caps.toList.map a.eval).toArray
    congr 1
    apply Array.ext'; simp
  · have : ∀ (l : List Operand), m ∈ AV.namesL (l.map S.ev) → S.hp m ≠ none := by
      intro l
      induction l with
      | nil => intro h; cases h
      | cons x l ih =>
        intro h
        simp only [List.map_cons, AV.namesL, List.mem_append] at h
        rcases h with h | h
        · exact hs.evNames x m h
        · exact ih h
    exact this caps.toList hm

def aMakeIface (P : Program) (T : TypeId) (x : AV) : Option Res := match P.underlying T, x with
  | some (.struct _), .d (.st []) => some ⟨True, .cst (.iface T (.agg #[])), []⟩
  | _, _ => none

theorem aMakeIface_sound {P : Program} {T : TypeId} {o : Oper} {x : Operand} {S : St} {res : Res} (ho : o.op = .makeInterface T x) (h : aMakeIface P T (S.ev x) = some res) : StepsTo P o S (S.upd o.dst res.r res.ws) := by
  unfold aMakeIface at h
  split at h <;> cases h
  rename_i fs hu hx
  refine steps_value fun ρ X a w hs => ⟨.iface T (.agg #[]), ?_, ⟨_, .cst rfl, rfl⟩, fun m hm => by cases hm⟩
  have he := hs.ev x
  rw [hx] at he
  obtain ⟨cs, h1, h2⟩ := he
  have hcs : cs = [] := by
    cases h1 with
    | d h1 => cases h1 with
      | st h1 => cases h1; rfl
  subst hcs
  have hv : a.eval x = .agg #[] := h2
  simp only [execOp, ho, hv, Instr.makeInterface]
  refine run_map (v := .iface T (.agg #[])) ?_
  rw [run_bind_ok (run_underlying hu w)]
  rfl

def aNilCheck (x : AV) : Option Res := match x with
  | .ptr _ _ => some ⟨True, x, []⟩
  | .dptr _ => some ⟨True, x, []⟩
  | .fn (.func _) _ => some ⟨True, x, []⟩
  | _ => none

theorem aNilCheck_sound {P : Program} {o : Oper} {x : Operand} {S : St} {res : Res} (ho : o.op = .nilCheck x) (h : aNilCheck (S.ev x) = some res) : StepsTo P o S (S.upd o.dst res.r res.ws) := by
  have : res = ⟨True, S.ev x, []⟩ ∧ ((∃ n p, S.ev x = .ptr n p) ∨ (∃ y, S.ev x = .dptr y) ∨ ∃ f cs, S.ev x = .fn (.func f) cs) := by
    unfold aNilCheck at h
    split at h <;> cases h
    · rename_i n p hx; rw [hx]; exact ⟨rfl, .inl ⟨_, _, rfl⟩⟩
    · rename_i y hx; rw [hx]; exact ⟨rfl, .inr (.inl ⟨_, rfl⟩)⟩
    · rename_i f cs hx; rw [hx]; exact ⟨rfl, .inr (.inr ⟨_, _, rfl⟩)⟩
  obtain ⟨rfl, hk⟩ := this
  refine steps_value fun ρ X a w hs => ⟨a.eval x, ?_, hs.ev x, hs.evNames x⟩
  have he := hs.ev x
  simp only [execOp, ho]
  rcases hk with ⟨n, p, hx⟩ | ⟨y, hx⟩ | ⟨f, cs, hx⟩
  · rw [hx] at he
    obtain ⟨b, _, hv⟩ := repA_ptr he
    rw [hv]; rfl
  · rw [hx] at he
    obtain ⟨b, q, cs, hv, _⟩ := repA_dptr he
    rw [hv]; rfl
  · rw [hx] at he
    obtain ⟨cs', h1, h2⟩ := he
    cases h1 with
    | fn _ => rw [h2]; rfl

/-! ### Conversions -/

def byteD (b : UInt8) : D := .int .u8 b.toNat
def bytesOf (xs : List D) : List UInt8 := xs.map fun y => UInt8.ofNat y.toInt.toNat

theorem bytesOf_map (l : List UInt8) : bytesOf (l.map byteD) = l := by
  unfold bytesOf
  rw [List.map_map]
  have : (fun y => UInt8.ofNat (D.toInt y).toNat) ∘ byteD = id := by
    funext b; simp [byteD, D.toInt]
  rw [this, List.map_id]

def aConv (P : Program) (nm : Nat) (src dst : TypeId) (hp : Nat → Option AObj) (x : AV) : Option Res :=
  match P.underlying src, P.underlying dst, x with
  | some _, some (.int k), .d (.int _ n) => some ⟨True, .d (.int k (k.wrap n)), []⟩
  | some (.slice e), some .string, x => match P.underlying e, elsOf hp x with
    | some (.int .u8), some (s, xs) => some ⟨s ∧ xs = (bytesOf xs).map byteD, .d (.str ⟨(bytesOf xs).toArray⟩), []⟩
    | _, _ => none
  | some .string, some (.slice e), .d (.str s) => match P.underlying e with
    | some (.int .u8) => some ⟨True, .sl nm [] 1 0 s.size, [(nm, .row 1 (s.data.toList.map byteD))]⟩
    | _ => none
  | some (.slice _), some (.slice e), .sl o [] e1 0 len => bif src.beq dst then match P.underlying e, hp o with
    | some (.int .u8), some (.row e2 xs) => some ⟨0 < len ∧ len = xs.length, .sl o [] e1 0 len, [(o, .row e2 xs)]⟩
    | _, _ => none
    else none
  | _, _, _ => none

theorem foldl_push_int : ∀ (l : List UInt8) (r : ByteArray), (l.map fun b => (b.toNat : Int)).foldl (fun r n => r.push (UInt8.ofNat n.toNat)) r = ⟨r.data ++ l.toArray⟩ := foldl_push_byteCells

theorem RepL.ofBytes {X : Nat → Prop} {w : World} : ∀ {l : List UInt8} {cs : List Value}, RepL X w (l.map byteD) cs → cs = (l.map fun b => (b.toNat : Int)).map (Value.int .u8)
  | [], _, h => by cases h; rfl
  | b :: l, _, h => by
    cases h with
    | cons h1 h2 => cases h1; rw [RepL.ofBytes h2]; rfl

/-- A cell behind a block's last one is frozen. -/
theorem freeze_end {w : World} {b : Nat} {c : Array Value} {T : TypeId} {z : Nat × Nat} (h : w.heap[b]? = some (.cells c T z)) (hz : unfrozen z c.size) :
    ∃ z', (w.freeze ⟨b, c.size, none⟩ 1).heap[b]? = some (.cells c T z') ∧ unfrozen z' c.size ∧ Ext (fun k => k = b) w (w.freeze ⟨b, c.size, none⟩ 1) := by
  obtain ⟨lo, hi⟩ := z
  have hlt : b < w.heap.size := (Array.getElem?_eq_some_iff.1 h).1
  have hother : ∀ k, k ≠ b → (w.freeze ⟨b, c.size, none⟩ 1).heap[k]? = w.heap[k]? := fun k hk => by
    unfold World.freeze
    rw [if_neg (by decide)]
    show (w.heap.modify b _)[k]? = _
    rw [Array.getElem?_modify, if_neg (fun e => hk e.symm)]
  have hb : (w.freeze ⟨b, c.size, none⟩ 1).heap[b]? = some (.cells c T (if lo == hi then (c.size, c.size + 1) else (min lo c.size, max hi (c.size + 1)))) := by
    unfold World.freeze
    rw [if_neg (by decide)]
    show (w.heap.modify b _)[b]? = _
    rw [Array.getElem?_modify, if_pos rfl, h]
    rfl
  refine ⟨_, hb, ?_, ⟨?_, ?_, ?_, ?_, fun k _ hk => hother k hk, fun k c' T' z' hc' => ?_⟩⟩
  · unfold unfrozen at hz ⊢
    simp only at hz
    by_cases he : lo = hi
    · subst he; simp
    · have : (lo == hi) = false := by simpa using he
      rw [this]
      right
      simp only [Bool.false_eq_true, if_false]
      omega
  · unfold World.freeze; rw [if_neg (by decide)]
  · unfold World.freeze; rw [if_neg (by decide)]
  · unfold World.freeze; rw [if_neg (by decide)]
  · unfold World.freeze; rw [if_neg (by decide)]; simp
  · by_cases hk : k = b
    · subst hk
      rw [h] at hc'
      simp only [Option.some.injEq, Obj.cells.injEq] at hc'
      obtain ⟨rfl, rfl, rfl⟩ := hc'
      exact ⟨_, _, hb, rfl⟩
    · exact ⟨c', z', by rw [hother k hk]; exact hc', rfl⟩

theorem aConv_sound {P : Program} {src dst : TypeId} {o : Oper} {x : Operand} {S : St} {res : Res} {nm : Nat} {hp : Nat → Option AObj} (hle : ∀ n x, hp n = some x → S.hp n = some x) (ho : o.op = .convert src dst x) (h : aConv P nm src dst hp (S.ev x) = some res) (hside : res.side)
    (hf : S.hp nm = none) : StepsTo P o S (S.upd o.dst res.r res.ws) := by
  unfold aConv at h
  split at h <;> try (cases h; done)
  · rename_i d1 k k' n h1 h2 hx
    cases h
    refine steps_value fun ρ X a w hs => ?_
    have he := hs.ev x
    rw [hx] at he
    refine ⟨.int k (k.wrap n), ?_, ⟨_, .d (.int _ _), rfl⟩, fun m hm => by cases hm⟩
    simp only [execOp, ho, repA_int he]
    refine run_map ?_
    simp only [convert]
    rw [run_bind_ok (run_underlying h1 w), run_bind_ok (run_underlying h2 w)]
    rfl
  · rename_i x' e h1 h2
    split at h <;> cases h
    rename_i s xs h3 hels
    obtain ⟨hs1, hs2⟩ := hside
    refine steps_value fun ρ X a w hs => ⟨.string ⟨(bytesOf xs).toArray⟩, ?_, ⟨_, .d (.str _), rfl⟩, fun m hm => by cases hm⟩
    simp only [execOp, ho]
    refine run_map ?_
    rcases elsOf_rep hs hle hels hs1 (hs.ev x) with ⟨hnil, ad, cap, hv⟩ | ⟨b, q, cap, cs, e', hv, k1, k2, k3, _, _⟩
    · rw [hv, run_convert_bytes_string w src dst e ad 0 cap h1 h3 h2, hnil]
      cases ad <;> rfl
    · rw [hv, run_convert_bytes_string w src dst e _ _ _ h1 h3 h2]
      have hcs : cs = ((bytesOf xs).map fun b => (b.toNat : Int)).map (Value.int .u8) := by rw [hs2] at k2; exact k2.ofBytes
      have hlen : xs.length = cs.length := by rw [hcs]; simp [bytesOf]
      have hload : (loadCells ⟨b, q, none⟩ xs.length).run P w = .ok (((bytesOf xs).map fun b => (b.toNat : Int)).map (Value.int .u8)).toArray w := by
        rw [hlen, ← hcs]; exact run_loadCells k1
      rw [run_bytesToString w _ _ _ _ hload, foldl_push_int]
      congr 3
      apply Array.ext'
      simp
  · rename_i e s h1 h2 hx
    split at h <;> cases h
    rename_i h3
    refine steps_own fun ρ X a w hs => ?_
    have he := hs.ev x
    rw [hx] at he
    have hrun := run_bytes_of_string w src dst e s h1 h2 h3
    have key : (execOp a.eval o).run P w = .ok (.value (.slice (some ⟨w.heap.size, 0, none⟩) s.size (grownCap w s.size 0 e))) (w.drew.alloc (.cells (bytesRow s (grownCap w s.size 0 e)) e ((bytesRow s (grownCap w s.size 0 e)).size, (bytesRow s (grownCap w s.size 0 e)).size + 1))) := by
      simp only [execOp, ho, repA_str he]
      exact run_map hrun
    refine ⟨_, _, key, ?_⟩
    obtain ⟨hext, hnew⟩ := alloc_new w.drew (bytesRow s (grownCap w s.size 0 e)) e ((bytesRow s (grownCap w s.size 0 e)).size, (bytesRow s (grownCap w s.size 0 e)).size + 1)
    have hext := (Ext.drew (fun _ => False) w).trans hext
    have hrow : bytesRow s (grownCap w s.size 0 e) = ((s.data.toList.map fun (b : UInt8) => (Value.int .u8 b.toNat : Value)) ++ List.replicate (grownCap w s.size 0 e - s.size) (Value.int .u8 0)).toArray := by
      unfold bytesRow
      apply Array.ext'
      simp
    have hge := grownCap_ge w s.size 0 e
    refine hs.new hf ⟨hext, hnew⟩ (fun ρ' X' g hρ hρn => .inr ⟨w.heap.size, s.data.toList.map fun (b : UInt8) => (Value.int .u8 b.toNat : Value), List.replicate (grownCap w s.size 0 e - s.size) (Value.int .u8 0), e, ((bytesRow s (grownCap w s.size 0 e)).size, (bytesRow s (grownCap w s.size 0 e)).size + 1), hρn, ?_, .inr (by rw [hrow]; exact Nat.le_refl _), RepL.bytes _, fun y hy => ?_⟩) (fun n hn => by cases hn) (fun ρ' X' g hρ hρn => ?_) (fun n hn => by simp [AV.names] at hn; exact .inr hn)
    · rw [← hrow]
      exact hnew
    · obtain ⟨b, _, rfl⟩ := List.mem_map.1 hy; rfl
    · refine repA_of_c (.sl hρn hnew ?_ hge (.inr (by simp [pOff])))
      rw [hrow]
      simp [pOff]
      have : s.data.size = s.size := rfl
      omega
  · rename_i e1' e nn e1 len h1 h2 hx
    cases hb : src.beq dst <;> simp only [hb, cond_true, cond_false] at h <;> try (cases h; done)
    have hsd := Nat.eq_of_beq_eq_true hb
    subst hsd
    split at h <;> cases h
    rename_i e2 xs h3 ho2
    have hu := hle _ _ ho2
    obtain ⟨hl0, hl1⟩ := hside
    refine steps_own fun ρ X a w hs => ?_
    have he := hs.ev x
    rw [hx] at he
    rcases repA_sl he with ⟨_, g1, _⟩ | ⟨b, cap, q, c, T', z, g0, g1, g2, g3, g4, g5⟩
    · omega
    rcases hs.objs nn _ hu with ⟨k0, _⟩ | ⟨b', os, rest, T2, z2, k0, k1, k2, k3, k4⟩
    · rw [g0] at k0; cases k0
    rw [g0] at k0; cases k0
    obtain ⟨z', hz1, hz2, hz3⟩ := freeze_end k1 (by simpa using k2)
    have hrun : (convert src src (.slice (some ⟨b, q, none⟩) len cap)).run P w = .ok (.slice (some ⟨b, q, none⟩) len cap) (w.freeze ⟨b, (os ++ rest).toArray.size, none⟩ 1) := by
      have hsh : w.shape? b = some (T2, (os ++ rest).toArray.size) := by unfold World.shape?; rw [k1]
      simp [convert, run_underlying h2, run_underlying h3, markStringish, hsh]
    refine ⟨.slice (some ⟨b, q, none⟩) len cap, w.freeze ⟨b, (os ++ rest).toArray.size, none⟩ 1, ?_, ρ, X, hs.turn hu rfl g0 hz3 (fun Y g => .inr ⟨b, os, rest, T2, z', g0, hz1, by simpa using hz2, k3.mono g.ext g.off g.own, k4⟩) (fun n hn => by cases hn) (fun Y g => ?_) (fun n hn => ?_)⟩
    · simp only [execOp, ho, g1]
      exact run_map hrun
    · have := he.mono g (fun _ _ => rfl)
      rw [g1] at this
      exact this
    · simp [AV.names] at hn
      subst hn
      rw [hu]; simp

end Go.Sym

/-
What an operation that calls nothing does to what a frame holds, tenth part: literals, make, copy.
-/
set_option linter.unusedSimpArgs false
set_option linter.unusedVariables false
namespace Go.Sym

/-! ### Literals -/

/-- Parts laid at their places, one behind the other. -/
def layParts (pl : Nat → Option (Stp × Nat)) : AV → List (Nat × AV) → Option (Prop × AV)
  | x, [] => some (True, x)
  | x, (i, v) :: l => match pl i with
    | some (st, sz) => bif v.size.beq sz && v.plain then match AV.set x [st] v with
        | some (s, y) => match layParts pl y l with
          | some (s', z) => some (s ∧ s', z)
          | none => none
        | none => none
      else none
    | none => none

theorem foldl_splice (pre old post : List Value) : ∀ (v mid : List Value) (cells : Array Value) (k : Nat), old.length = v.length → cells.toList = pre ++ mid ++ old ++ post → mid.length = k →
    ((v.zipIdx k).foldl (fun cs (c, j) => cs.setIfInBounds (pre.length + j) c) cells).toList = pre ++ mid ++ v ++ post := by
  intro v
  induction v generalizing old with
  | nil =>
    intro mid cells k hl hc _
    have : old = [] := by simpa using hl
    subst this
    simpa using hc
  | cons x v ih =>
    intro mid cells k hl hc hk
    match old, hl with
    | u :: old, hl =>
      simp only [List.length_cons, Nat.add_right_cancel_iff] at hl
      simp only [List.zipIdx_cons, List.foldl_cons]
      have := ih old (mid ++ [x]) (cells.setIfInBounds (pre.length + k) x) (k + 1) hl (by
        rw [Array.toList_setIfInBounds, hc]
        rw [List.append_assoc, List.append_assoc, List.set_append_right _ _ (by omega)]
        have : pre.length + k - pre.length = k := by omega
        rw [this, List.set_append_right _ _ (by omega)]
        have : k - mid.length = 0 := by omega
        rw [this]; simp) (by simp [hk])
      rw [this]; simp

theorem layParts_rep {ρ : Nat → Option Nat} {X : Nat → Prop} {w : World} {pl : Nat → Option (Stp × Nat)} {place : Nat → Option (Nat × Nat)} (hpl : ∀ i st sz, pl i = some (st, sz) → place i = some (st.off, sz)) :
    ∀ {parts : List (Nat × AV)} {vs : List (Nat × Value)} {x y : AV} {s : Prop} {cells : Array Value}, layParts pl x parts = some (s, y) → s →
      parts.length = vs.length → (∀ (k : Nat) (i j : Nat) (a : AV) (v : Value), parts[k]? = some (i, a) → vs[k]? = some (j, v) → i = j ∧ RepA ρ X w a v) →
      RepC ρ X w x cells.toList → ∃ cells', Instr.fill place cells vs = some cells' ∧ RepC ρ X w y cells'.toList := by
  intro parts
  induction parts with
  | nil =>
    intro vs x y s cells h _ hl _ hr
    have : vs = [] := by simpa using hl.symm
    subst this
    simp only [layParts, Option.some.injEq, Prod.mk.injEq] at h
    obtain ⟨_, rfl⟩ := h
    exact ⟨cells, rfl, hr⟩
  | cons pt parts ih =>
    intro vs x y s cells h hs hl hv hr
    match vs, hl with
    | (j, v) :: vs, hl =>
      obtain ⟨i, a⟩ := pt
      simp only [layParts] at h
      split at h <;> try (cases h; done)
      rename_i st sz hpi
      cases hb : a.size.beq sz && a.plain <;> simp only [hb, cond_true, cond_false] at h <;> try (cases h; done)
      simp only [Bool.and_eq_true] at hb
      have hsz := Nat.eq_of_beq_eq_true hb.1
      split at h <;> try (cases h; done)
      rename_i s1 z hset
      split at h <;> cases h
      rename_i s2 hrest
      obtain ⟨hij, hra⟩ := hv 0 i j a v rfl rfl
      subst hij
      obtain ⟨cs, c1, _, c3⟩ := repA_cells hb.2 hra
      obtain ⟨pre, old, post, e1, e2, e3, e4⟩ := AV.set_rep hset hs.1 hr
      have hvs : v.cells.size = sz := by rw [← Array.length_toList, c3, c1.length, hsz]
      have hpre : pre.length = st.off := by rw [e2]; rfl
      have hold : old.length = v.cells.toList.length := by rw [c3, e3, c1.length]
      have hspl := foldl_splice pre old post v.cells.toList [] cells 0 hold (by simpa using e1) rfl
      simp only [List.append_nil] at hspl
      obtain ⟨cells', f1, f2⟩ := ih (vs := vs) (cells := (v.cells.zipIdx).foldl (fun cs (c, j) => cs.setIfInBounds (st.off + j) c) cells) hrest hs.2 (by simpa using hl)
        (fun k i j a v h1 h2 => hv (k + 1) i j a v (by simpa using h1) (by simpa using h2)) (by
          have : ((v.cells.zipIdx).foldl (fun cs (c, j) => cs.setIfInBounds (st.off + j) c) cells).toList = pre ++ cs ++ post := by
            rw [← c3, ← hspl, hpre, ← Array.foldl_toList, Array.toList_zipIdx]
          rw [this]; exact e4 cs c1)
      refine ⟨cells', ?_, f2⟩
      simp only [Instr.fill, hpl i st sz hpi]
      have h1 : (v.cells.size ≠ sz || decide (st.off + v.cells.size > cells.size)) = false := by
        have : cells.size = (pre ++ old ++ post).length := by rw [← e1]; simp
        simp only [Bool.or_eq_false_iff, decide_eq_false_iff_not, ne_eq, Decidable.not_not]
        refine ⟨hvs, ?_⟩
        rw [this, hvs]
        have : old.length = sz := by rw [hold, Array.length_toList, hvs]
        simp; omega
      rw [if_neg (by rw [h1]; simp)]
      exact f1

def plOf (P : Program) (T : TypeId) (i : Nat) : Option (Stp × Nat) :=
  match P.underlying T with
  | some (.struct fields) => match fields[i]? with
    | some fd => match P.info? fd.type with
      | some j => some (.fld i fd.offset, j.size)
      | none => none
    | none => none
  | some (.array _ e) => match P.info? e with
    | some j => some (.ix i j.size, j.size)
    | none => none
  | _ => none

def aBuild (P : Program) (T : TypeId) (parts : List (Nat × AV)) : Option Res :=
  match zeroD P T, P.info? T with
  | some x, some it => match it.zero with
    | some z => bif zeqs z.cells.toList x.flat && x.isAgg && (match P.underlying T with
        | some (.struct fields) => fields.toList.all fun f => (P.info? f.type).isSome
        | some (.array _ e) => (P.info? e).isSome
        | _ => false) then match layParts (plOf P T) (.d x) parts with
        | some (s, y) => bif y.isAgg then some ⟨s, y, []⟩ else none
        | none => none
      else none
    | none => none
  | _, _ => none

theorem mapM_places {P : Program} : ∀ (fs : List Field), (fs.all fun f => (P.info? f.type).isSome) = true → ∃ places, fs.mapM (fun f => (P.info? f.type).map fun i => (f.offset, i.size)) = some places ∧
    ∀ (i : Nat) (fd : Field) (j : TypeInfo), fs[i]? = some fd → P.info? fd.type = some j → places[i]? = some (fd.offset, j.size)
  | [], _ => ⟨[], rfl, fun i fd j h => by simp at h⟩
  | f :: fs, h => by
    simp only [List.all_cons, Bool.and_eq_true] at h
    obtain ⟨places, h1, h2⟩ := mapM_places fs h.2
    obtain ⟨j, hj⟩ := Option.isSome_iff_exists.1 h.1
    refine ⟨(f.offset, j.size) :: places, ?_, fun i fd j' hi hj' => ?_⟩
    · simp [List.mapM_cons, hj, h1]
    · cases i with
      | zero => simp only [List.getElem?_cons_zero, Option.some.injEq] at hi; subst hi; rw [hj] at hj'; cases hj'; rfl
      | succ i => simp only [List.getElem?_cons_succ] at hi ⊢; exact h2 i fd j' hi hj'

theorem aBuild_sound {P : Program} {T : TypeId} {o : Oper} {parts : Array (Nat × Operand)} {S : St} {res : Res} (ho : o.op = .build T parts) (h : aBuild P T (parts.toList.map fun p => (p.1, S.ev p.2)) = some res) (hside : res.side) :
    StepsTo P o S (S.upd o.dst res.r res.ws) := by
  unfold aBuild at h
  split at h <;> try (cases h; done)
  rename_i x it hx hit
  split at h <;> try (cases h; done)
  rename_i z hz
  generalize hok : (match P.underlying T with
        | some (.struct fields) => fields.toList.all fun f => (P.info? f.type).isSome
        | some (.array _ e) => (P.info? e).isSome
        | _ => false) = ok at h
  cases hb : zeqs z.cells.toList x.flat && x.isAgg && ok <;> simp only [hb, cond_true, cond_false] at h <;> try (cases h; done)
  simp only [Bool.and_eq_true] at hb
  obtain ⟨⟨hb1, hb2⟩, rfl⟩ := hb
  split at h <;> try (cases h; done)
  rename_i s y hlay
  cases hy : y.isAgg <;> simp only [hy, cond_true, cond_false] at h <;> cases h
  have hzx := zeqs_eq hb1
  have hnosl : x.noSl = true := by
    unfold zeroD at hx
    split at hx <;> try (cases hx; done)
    rename_i v hv
    cases hc : zeqs v.cells.toList (D.zero P 8 T).flat && (D.zero P 8 T).noSl <;> simp only [hc, cond_true, cond_false] at hx <;> cases hx
    simp only [Bool.and_eq_true] at hc
    exact hc.2
  refine steps_value fun ρ X a w hs => ?_
  let vs : List (Nat × Value) := (parts.map fun (i, x) => (i, a.eval x)).toList
  have hvs : vs = parts.toList.map fun p => (p.1, a.eval p.2) := by simp [vs]
  have hlen : (parts.toList.map fun p => (p.1, S.ev p.2)).length = vs.length := by rw [hvs]; simp
  have hrel : ∀ (k : Nat) (i j : Nat) (u : AV) (v : Value), (parts.toList.map fun p => (p.1, S.ev p.2))[k]? = some (i, u) → vs[k]? = some (j, v) → i = j ∧ RepA ρ X w u v := by
    intro k i j u v h1 h2
    rw [hvs] at h2
    rw [List.getElem?_map] at h1 h2
    cases hp : parts.toList[k]? with
    | none => rw [hp] at h1; cases h1
    | some p =>
      rw [hp] at h1 h2
      simp only [Option.map_some, Option.some.injEq, Prod.mk.injEq] at h1 h2
      obtain ⟨rfl, rfl⟩ := h1
      obtain ⟨rfl, rfl⟩ := h2
      exact ⟨rfl, hs.ev p.2⟩
  have hrx : RepC ρ X w (.d x) z.cells.toList := by rw [hzx]; exact .d (D.flat_rep x hnosl)
  have hnames : ∀ n, n ∈ y.names → S.hp n ≠ none := by
    have : ∀ (l : List (Nat × Operand)) (u : AV) (s : Prop), (∀ n, n ∈ u.names → S.hp n ≠ none) → layParts (plOf P T) u (l.map fun p => (p.1, S.ev p.2)) = some (s, y) → ∀ n, n ∈ y.names → S.hp n ≠ none := by
      intro l
      induction l with
      | nil => intro u s hu h; simp only [List.map_nil, layParts, Option.some.injEq, Prod.mk.injEq] at h; rw [← h.2]; exact hu
      | cons p l ih =>
        intro u s hu h
        simp only [List.map_cons, layParts] at h
        split at h <;> try (cases h; done)
        rename_i st sz _
        cases hb : (S.ev p.2).size.beq sz && (S.ev p.2).plain <;> simp only [hb, cond_true, cond_false] at h <;> try (cases h; done)
        split at h <;> try (cases h; done)
        rename_i s1 u' hset
        split at h <;> cases h
        rename_i s2 hrest
        refine ih u' s2 (fun n hn => ?_) hrest
        rcases AV.set_names hset n hn with h | h
        · exact hu n h
        · exact hs.evNames p.2 n h
    exact this parts.toList (.d x) _ (fun n hn => by cases hn) hlay
  have run : ∀ cells, P.built T vs = some cells → (execOp a.eval o).run P w = .ok (.value (.agg cells)) w := fun cells hc => by
    simp only [execOp, ho]
    exact run_map (run_build w T _ cells hc)
  cases hu : P.underlying T with
  | none => rw [hu] at hok; cases hok
  | some d =>
    rw [hu] at hok
    cases d <;> try (cases hok; done)
    case array n e =>
      obtain ⟨ie, hie⟩ := Option.isSome_iff_exists.1 hok
      obtain ⟨cells, c1, c2⟩ := layParts_rep (ρ := ρ) (X := X) (w := w) (pl := plOf P T) (place := fun i => some (i * ie.size, ie.size)) (fun i st sz h => by
        simp only [plOf, hu, hie, Option.some.injEq, Prod.mk.injEq] at h
        obtain ⟨rfl, rfl⟩ := h; rfl) hlay hside hlen hrel hrx
      refine ⟨.agg cells, run cells ?_, ?_, hnames⟩
      · simp only [Program.built, hit, hu, hz, hie]; exact c1
      · have := repA_of_c c2; rw [hy] at this; exact this
    case struct fields =>
      obtain ⟨places, p1, p2⟩ := mapM_places fields.toList hok
      obtain ⟨cells, c1, c2⟩ := layParts_rep (ρ := ρ) (X := X) (w := w) (pl := plOf P T) (place := (places.toArray[·]?)) (fun i st sz h => by
        simp only [plOf, hu] at h
        split at h <;> try (cases h; done)
        rename_i fd hfd
        split at h <;> cases h
        rename_i j hj
        have := p2 i fd j (by simpa using hfd) hj
        simpa [Stp.off] using this) hlay hside hlen hrel hrx
      refine ⟨.agg cells, run cells ?_, ?_, hnames⟩
      · simp only [Program.built, hit, hu, hz, p1]; exact c1
      · have := repA_of_c c2; rw [hy] at this; exact this

/-! ### A slice written out -/

def dsOf : List AV → Option (List D)
  | [] => some []
  | .d x :: l => match dsOf l with
    | some xs => some (x :: xs)
    | none => none
  | _ :: _ => none

def aBuildSlice (P : Program) (nm : Nat) (T : TypeId) (len : Nat) (parts : List (Nat × AV)) : Option Res :=
  match elTy P T with
  | some el => match P.info? el, dsOf (parts.map (·.2)) with
    | some i, some xs => bif (parts.map (·.1) == List.range len) && xs.all (fun x => x.size.beq i.size) && i.zero.isSome && Nat.ble (len * i.size) 16777216 && !i.size.beq 0 && Nat.beq xs.length len then
        some ⟨True, .sl nm [] i.size 0 xs.length, [(nm, .row i.size xs)]⟩ else none
    | _, _ => none
  | none => none

theorem fill_row {ρ : Nat → Option Nat} {X : Nat → Prop} {w : World} {e : Nat} : ∀ (xs : List D) (vs : List (Nat × Value)) (k : Nat) (done rest : List Value), vs.map (·.1) = (List.range xs.length).map (· + k) → done.length = k * e →
    rest.length = xs.length * e → (∀ (j : Nat) (x : D) (p : Nat × Value), xs[j]? = some x → vs[j]? = some p → RepA ρ X w (.d x) p.2) → (∀ x, x ∈ xs → x.size = e) →
    ∃ cs, Instr.fill (fun i => some (i * e, e)) (done ++ rest).toArray vs = some (done ++ cs).toArray ∧ RepL X w xs cs := by
  intro xs
  induction xs with
  | nil =>
    intro vs k done rest hvs hd hr _ _
    have : vs = [] := by simpa using hvs
    subst this
    have : rest = [] := List.eq_nil_of_length_eq_zero (by simpa using hr)
    subst this
    exact ⟨[], rfl, .nil⟩
  | cons x xs ih =>
    intro vs k done rest hvs hd hr hrel hsz
    cases vs with
    | nil => simp at hvs
    | cons p vs =>
      obtain ⟨i, v⟩ := p
      have hi : i = k ∧ vs.map (·.1) = (List.range xs.length).map (· + (k + 1)) := by
        simp only [List.map_cons, List.length_cons, List.range_succ_eq_map, List.map_map, List.cons.injEq, Nat.zero_add] at hvs
        refine ⟨hvs.1, hvs.2.trans ?_⟩
        apply List.map_congr_left
        intro a _; simp; omega
      obtain ⟨rfl, hvs'⟩ := hi
      have hrx := hrel 0 x (i, v) rfl rfl
      obtain ⟨c, hc1, _, hc3⟩ := repA_cells rfl hrx
      have hxe : x.size = e := hsz x (by simp)
      have hcl : c.length = e := by rw [hc1.length]; exact hxe
      have hvc : v.cells.size = e := by rw [← Array.length_toList, hc3, hcl]
      have hre : e ≤ rest.length := by rw [hr]; simp [Nat.succ_mul]
      have hspl := foldl_splice done (rest.take e) (rest.drop e) v.cells.toList [] (done ++ rest).toArray 0 (by rw [hc3]; simp; omega) (by simp) rfl
      simp only [List.append_nil] at hspl
      have hnew : ((v.cells.zipIdx).foldl (fun cs (c, j) => cs.setIfInBounds (i * e + j) c) (done ++ rest).toArray) = ((done ++ c) ++ rest.drop e).toArray := by
        apply Array.ext'
        rw [← hd, ← Array.foldl_toList, Array.toList_zipIdx, hspl, hc3]
      obtain ⟨cs, f1, f2⟩ := ih vs (i + 1) (done ++ c) (rest.drop e) hvs' (by simp [hd, hcl, Nat.succ_mul]) (by simp [hr, Nat.succ_mul])
        (fun j y q h1 h2 => hrel (j + 1) y q (by simpa using h1) (by simpa using h2)) (fun y hy => hsz y (by simp [hy]))
      refine ⟨c ++ cs, ?_, ?_⟩
      · simp only [Instr.fill]
        have h1 : (v.cells.size ≠ e || decide (i * e + v.cells.size > (done ++ rest).toArray.size)) = false := by
          simp only [Bool.or_eq_false_iff, decide_eq_false_iff_not, ne_eq, Decidable.not_not]
          refine ⟨hvc, ?_⟩
          simp [hvc, hd]; omega
        rw [if_neg (by rw [h1]; simp), hnew, f1]
        simp
      · cases hc1 with
        | d hc1 => exact .cons hc1 f2

theorem dsOf_spec : ∀ {l : List AV} {xs : List D}, dsOf l = some xs → l = xs.map AV.d
  | [], xs, h => by cases h; rfl
  | .d x :: l, xs, h => by
    simp only [dsOf] at h
    split at h <;> cases h
    rename_i hl
    rw [List.map_cons, ← dsOf_spec hl]
  | .ptr _ _ :: _, _, h | .sl _ _ _ _ _ :: _, _, h | .st _ :: _, _, h | .dptr _ :: _, _, h | .fn _ _ :: _, _, h | .cst _ :: _, _, h | .tup _ :: _, _, h | .top :: _, _, h => by cases h

theorem buildSlice_core {P : Program} {T : TypeId} {len : Nat} {o : Oper} {parts : Array (Nat × Operand)} {S : St} {res : Res} {nm : Nat} {l : List (Nat × AV)} {xs : List D} (ho : o.op = .buildSlice T len parts)
    (h : aBuildSlice P nm T len l = some res) (hl1 : l.map (·.1) = parts.toList.map (·.1)) (hds : dsOf (l.map (·.2)) = some xs) (hf : S.hp nm = none) {ρ : Nat → Option Nat} {X : Nat → Prop} {a : Act} {w : World} (hs : Sim S ρ X a w)
    (hrel0 : ∀ (j : Nat) (x : D) (q : Nat × Operand), xs[j]? = some x → parts.toList[j]? = some q → RepA ρ X w (.d x) (a.eval q.2)) :
    ∃ v w', (execOp a.eval o).run P w = .ok (.value v) w' ∧ ∃ ρ' X', Sim (S.upd o.dst res.r res.ws) ρ' X' (a.put o.dst v) w' ∧ Evo S (S.upd o.dst res.r res.ws) ρ ρ' X X' w w' := by
  unfold aBuildSlice at h
  split at h <;> try (cases h; done)
  rename_i el hel
  have hu := elTy_spec hel
  rw [hds] at h
  split at h <;> try (cases h; done)
  rename_i i xs' hi hds'
  cases hds'
  generalize hb : ((l.map (·.1) == List.range len) && xs.all (fun x => x.size.beq i.size) && i.zero.isSome && Nat.ble (len * i.size) 16777216 && !i.size.beq 0 && Nat.beq xs.length len) = b at h
  cases b <;> simp only [cond_true, cond_false] at h <;> cases h
  simp only [Bool.and_eq_true, beq_iff_eq, Bool.not_eq_true', List.all_eq_true] at hb
  obtain ⟨⟨⟨⟨⟨hb1, hb2⟩, hb3⟩, hb4⟩, hb5⟩, hb6⟩ := hb
  rw [hl1] at hb1
  obtain ⟨z, hz⟩ := Option.isSome_iff_exists.1 hb3
  have hxl : xs.length = len := Nat.eq_of_beq_eq_true hb6
  have hsz : ∀ x, x ∈ xs → x.size = i.size := fun x hx => Nat.eq_of_beq_eq_true (hb2 x hx)
  have hle : len * i.size ≤ 16777216 := Nat.le_of_ble_eq_true hb4
  let vs : List (Nat × Value) := (parts.map fun (i, x) => (i, a.eval x)).toList
  have hvs : vs = parts.toList.map fun p => (p.1, a.eval p.2) := by simp [vs]
  have hzv : ∀ w : World, (do pure (← zeroValue el).cells : Sem (Array Value)).run P w = .ok z.cells w := fun w => by
    simp only [zeroValue, typeInfo, program]
    simp [Sem.run, Sem.run_bind, hi, hz]
  have hzv' : ∀ w : World, (zeroValue el).run P w = .ok z w := fun w => by
    simp only [zeroValue, typeInfo, program]
    simp [Sem.run, Sem.run_bind, hi, hz]
  have hsv : ∀ w : World, (sizeOf el).run P w = .ok i.size w := fun w => by
    simp only [sizeOf, typeInfo, program]
    simp [Sem.run, Sem.run_bind, hi]
  have hrel : ∀ (j : Nat) (x : D) (p : Nat × Value), xs[j]? = some x → vs[j]? = some p → RepA ρ X w (.d x) p.2 := by
    intro j x p h1 h2
    rw [hvs, List.getElem?_map] at h2
    cases hp : parts.toList[j]? with
    | none => rw [hp] at h2; cases h2
    | some q =>
      rw [hp] at h2
      simp only [Option.map_some, Option.some.injEq] at h2
      subst h2
      exact hrel0 j x q h1 hp
  have fin : ∀ (c0 : Array Value), c0.size = len * i.size → (∀ w : World, ((if len * i.size = 0 then pure #[] else do pure (← zeroValue el).cells : Sem (Array Value)) >>= fun zero =>
      pure ((Array.range (len * i.size)).map (zero[· % zero.size]!))).run P w = .ok c0 w) →
      ∃ v w', (execOp a.eval o).run P w = .ok (.value v) w' ∧ ∃ ρ' X', Sim (S.upd o.dst (.sl nm [] i.size 0 xs.length) [(nm, .row i.size xs)]) ρ' X' (a.put o.dst v) w' ∧ Evo S (S.upd o.dst (.sl nm [] i.size 0 xs.length) [(nm, .row i.size xs)]) ρ ρ' X X' w w' := by
    intro c0 hc0 hrun0
    obtain ⟨cs, f1, f2⟩ := fill_row (ρ := ρ) (X := X) (w := w) (e := i.size) xs vs 0 [] c0.toList (by
      rw [hvs, List.map_map, hxl]
      have : (fun x => x + 0) = (id : Nat → Nat) := by funext n; rfl
      rw [this, List.map_id]
      exact hb1) (by simp) (by simp [hc0, hxl]) hrel hsz
    simp only [List.nil_append] at f1
    have hcl : cs.length = len * i.size := by rw [f2.length, D.sizes_const xs hsz, hxl]
    have hrun : (Instr.buildSlice T len (parts.map fun (i, x) => (i, a.eval x))).run P w = .ok (.slice (some ⟨w.heap.size, 0, none⟩) len len) (w.alloc (.cells cs.toArray el)) := by
      simp only [Instr.buildSlice]
      rw [run_bind_ok (run_underlying hu w)]
      dsimp only
      rw [run_bind_ok (hsv w), if_neg (by omega)]
      have h0 := hrun0 w
      by_cases hz0 : len * i.size = 0
      · rw [if_pos hz0] at h0 ⊢
        rw [run_bind_ok (run_pure _ w)] at h0 ⊢
        cases h0
        have : Instr.fill (fun j => some (j * i.size, i.size)) ((Array.range (len * i.size)).map fun x => (#[] : Array Value)[x % (#[] : Array Value).size]!) (parts.map fun (i, x) => (i, a.eval x)).toList = some cs.toArray := f1
        rw [this]
        rfl
      · rw [if_neg hz0] at h0 ⊢
        rw [run_bind_ok (hzv w)] at h0
        rw [run_bind_ok (hzv' w), run_bind_ok (run_pure _ w)]
        cases h0
        have : Instr.fill (fun j => some (j * i.size, i.size)) ((Array.range (len * i.size)).map fun x => z.cells[x % z.cells.size]!) (parts.map fun (i, x) => (i, a.eval x)).toList = some cs.toArray := f1
        rw [this]
        rfl
    refine ⟨.slice (some ⟨w.heap.size, 0, none⟩) len len, w.alloc (.cells cs.toArray el), ?_, ?_⟩
    · simp only [execOp, ho]
      exact run_map hrun
    · obtain ⟨hext, hnew⟩ := alloc_new w cs.toArray el (0, 0)
      refine hs.new hf ⟨hext, hnew⟩ (fun ρ' X' g hρ hρn => .inr ⟨w.heap.size, cs, [], el, (0, 0), hρn, ?_, .inl rfl, f2.mono g.ext g.off g.own, hsz⟩) (fun n hn => by cases hn) (fun ρ' X' g hρ hρn => ?_) (fun n hn => by simp [AV.names] at hn; exact .inr hn)
      · simpa using hnew
      · rw [hxl]
        refine repA_of_c (.sl hρn hnew ?_ (Nat.le_refl _) (.inr (by simp [pOff])))
        simp [pOff, hcl]
  by_cases hz0 : len * i.size = 0
  · refine fin ((Array.range (len * i.size)).map fun x => (#[] : Array Value)[x % (#[] : Array Value).size]!) (by simp) (fun w => ?_)
    rw [if_pos hz0, run_bind_ok (run_pure _ w)]; rfl
  · refine fin ((Array.range (len * i.size)).map fun x => z.cells[x % z.cells.size]!) (by simp) (fun w => ?_)
    rw [if_neg hz0, run_bind_ok (hzv w)]; rfl

theorem aBuildSlice_sound {P : Program} {T : TypeId} {len : Nat} {o : Oper} {parts : Array (Nat × Operand)} {S : St} {res : Res} {nm : Nat} (ho : o.op = .buildSlice T len parts)
    (h : aBuildSlice P nm T len (parts.toList.map fun p => (p.1, S.ev p.2)) = some res) (hf : S.hp nm = none) : StepsTo P o S (S.upd o.dst res.r res.ws) := by
  have hds : ∃ xs, dsOf ((parts.toList.map fun p => (p.1, S.ev p.2)).map (·.2)) = some xs := by
    unfold aBuildSlice at h
    split at h <;> try (cases h; done)
    split at h <;> try (cases h; done)
    rename_i h1; exact ⟨_, h1⟩
  obtain ⟨xs, hds⟩ := hds
  have hds' := dsOf_spec hds
  refine steps_own fun ρ X a w hs => buildSlice_core ho h (by rw [List.map_map]; rfl) hds hf hs fun j x q h1 h2 => ?_
  have h3 : ((parts.toList.map fun p => (p.1, S.ev p.2)).map (·.2))[j]? = (xs.map AV.d)[j]? := by rw [hds']
  rw [List.map_map, List.getElem?_map, List.getElem?_map, h2, h1] at h3
  simp only [Option.map_some, Option.some.injEq, Function.comp] at h3
  rw [← h3]
  exact hs.ev q.2

/-! ### make -/

def aMakeSlice (P : Program) (nm : Nat) (T : TypeId) (l c : AV) : Option Res :=
  match elTy P T, l, c with
  | some el, .d (.int _ l), .d (.int _ c) => match P.info? el, zeroD P el with
    | some i, some z => match i.zero with
      | some zv => bif zeqs zv.cells.toList z.flat && z.size.beq i.size && !i.size.beq 0 then
          some ⟨0 ≤ l ∧ l ≤ c ∧ (i.bytes : Int) * c ≤ 281474976710656 ∧ c ≤ 281474976710656, .sl nm [] i.size 0 (List.replicate l.toNat z).length, [(nm, .row i.size (List.replicate l.toNat z))]⟩ else none
      | none => none
    | _, _ => none
  | _, _, _ => none

theorem made_split {z : List Value} (hz : z ≠ []) : ∀ (k n : Nat), ((List.range (k * z.length + n)).map fun i => z.toArray[i % z.toArray.size]!) = (List.replicate k z).flatten ++ (List.range n).map fun i => z.toArray[i % z.toArray.size]! := by
  intro k
  have hpos : 0 < z.length := by cases z with | nil => exact absurd rfl hz | cons _ _ => simp
  induction k with
  | zero => intro n; simp
  | succ k ih =>
    intro n
    have e : (k + 1) * z.length + n = z.length + (k * z.length + n) := by rw [Nat.succ_mul]; omega
    rw [e, List.range_add, List.map_append, List.map_map]
    have h1 : (List.range z.length).map (fun i => z.toArray[i % z.toArray.size]!) = z := by
      apply List.ext_getElem
      · simp
      · intro i h1 h2
        have hi : i < z.length := by simpa using h2
        simp only [List.getElem_map, List.getElem_range, List.size_toArray]
        rw [Nat.mod_eq_of_lt hi]
        simp [hi]
    have h2 : ((fun i => z.toArray[i % z.toArray.size]!) ∘ fun x => z.length + x) = fun i => z.toArray[i % z.toArray.size]! := by
      funext i
      simp only [Function.comp, List.size_toArray, Nat.add_mod_left]
    rw [h1, h2, ih n]
    simp [List.replicate_succ]

theorem RepL.replicate {X : Nat → Prop} {w : World} {x : D} {cs : List Value} (h : RepD X w x cs) : ∀ (n : Nat), RepL X w (List.replicate n x) (List.replicate n cs).flatten
  | 0 => .nil
  | n + 1 => by
    rw [List.replicate_succ, List.replicate_succ, List.flatten_cons]
    exact .cons h (RepL.replicate h n)

theorem aMakeSlice_sound {P : Program} {T : TypeId} {o : Oper} {l c : Operand} {S : St} {res : Res} {nm : Nat} (ho : o.op = .makeSlice T l c) (h : aMakeSlice P nm T (S.ev l) (S.ev c) = some res) (hside : res.side)
    (hf : S.hp nm = none) : StepsTo P o S (S.upd o.dst res.r res.ws) := by
  unfold aMakeSlice at h
  split at h <;> try (cases h; done)
  rename_i el k ln k' cn hel hl hc
  have hu := elTy_spec hel
  split at h <;> try (cases h; done)
  rename_i i z hi hz
  split at h <;> try (cases h; done)
  rename_i zv hzv
  cases hb : zeqs zv.cells.toList z.flat && z.size.beq i.size && !i.size.beq 0 <;> simp only [hb, cond_true, cond_false] at h <;> cases h
  simp only [Bool.and_eq_true, Bool.not_eq_true'] at hb
  obtain ⟨⟨hb1, hb2⟩, hb3⟩ := hb
  have hzf := zeqs_eq hb1
  have hzs := Nat.eq_of_beq_eq_true hb2
  have hne : i.size ≠ 0 := fun e => by rw [e] at hb3; cases hb3
  obtain ⟨h0, h1, h2, h3⟩ := hside
  refine steps_own fun ρ X a w hs => ?_
  obtain ⟨_, _, _, hnosl⟩ := zeroD_run hz w
  have hel1 := hs.ev l
  have hec := hs.ev c
  rw [hl] at hel1; rw [hc] at hec
  have hrun := run_make w T el i zv hu hi hzv k k' ln cn h0 h1 h2 (by omega)
  have hflen : z.flat.length = i.size := by rw [← hzs]; exact (D.flat_rep (X := X) (w := w) z hnosl).length
  have hcells : (madeCells zv.cells (cn.toNat * i.size)) = ((List.replicate ln.toNat z.flat).flatten ++ (List.range ((cn.toNat - ln.toNat) * i.size)).map fun i => z.flat.toArray[i % z.flat.toArray.size]!).toArray := by
    have hzc : zv.cells = z.flat.toArray := by rw [← hzf]
    unfold madeCells
    rw [hzc]
    apply Array.ext'
    rw [← made_split (by intro e; rw [e] at hflen; simp at hflen; omega)]
    have : ln.toNat * z.flat.length + (cn.toNat - ln.toNat) * i.size = cn.toNat * i.size := by
      rw [hflen, ← Nat.add_mul]; congr 1; omega
    rw [this]
    simp
  refine ⟨.slice (some ⟨w.heap.size, 0, none⟩) ln.toNat cn.toNat, w.alloc (.cells (madeCells zv.cells (cn.toNat * i.size)) el), ?_, ?_⟩
  · simp only [execOp, ho, repA_int hel1, repA_int hec]
    exact run_map hrun
  · obtain ⟨hext, hnew⟩ := alloc_new w (madeCells zv.cells (cn.toNat * i.size)) el (0, 0)
    refine hs.new hf ⟨hext, hnew⟩ (fun ρ' X' g hρ hρn => .inr ⟨w.heap.size, (List.replicate ln.toNat z.flat).flatten, (List.range ((cn.toNat - ln.toNat) * i.size)).map (fun i => z.flat.toArray[i % z.flat.toArray.size]!), el, (0, 0), hρn, ?_, .inl rfl, RepL.replicate (D.flat_rep z hnosl) _, fun y hy => ?_⟩) (fun n hn => by cases hn) (fun ρ' X' g hρ hρn => ?_)
      (fun n hn => by simp [AV.names] at hn; exact .inr hn)
    · rw [← hcells]; exact hnew
    · rw [List.eq_of_mem_replicate hy]; exact hzs
    · rw [List.length_replicate]
      refine repA_of_c (.sl hρn hnew ?_ (by omega) (.inr (by simp [pOff])))
      rw [size_madeCells]
      simp [pOff]

end Go.Sym

/-
What an operation that calls nothing does to what a frame holds, eleventh part: '==' and '!='.
-/
set_option linter.unusedSimpArgs false
set_option linter.unusedVariables false
namespace Go.Sym

mutual
def D.beq : D → D → Bool
  | .int _ a, .int _ b => a == b
  | .bool a, .bool b => a == b
  | .str a, .str b => a.toList == b.toList
  | .st fs, .st gs => D.beqs fs gs
  | .arr _ _ xs, .arr _ _ ys => D.beqs xs ys
  | _, _ => false
def D.beqs : List D → List D → Bool
  | [], [] => true
  | x :: xs, y :: ys => D.beq x y && D.beqs xs ys
  | _, _ => false
end

def fitsWith (P : Program) (F : TypeId → D → Prop) : List Field → Nat → List D → Prop
  | [], _, [] => True
  | fd :: fds, off, x :: xs => (fd.name ≠ "_" ∧ fd.offset = off ∧ tyOK P fd.type x.size x.isAgg = true) ∧ F fd.type x ∧ fitsWith P F fds (off + x.size) xs
  | _, _, _ => False

/-- Data of a type that can be compared. -/
def D.fits (P : Program) : Nat → TypeId → D → Prop
  | 0, _, _ => False
  | f + 1, T, x => match P.underlying T with
    | some (.int k) => match x with
      | .int k' _ => k' = k
      | _ => False
    | some .bool => match x with
      | .bool _ => True
      | _ => False
    | some .string => match x with
      | .str _ => True
      | _ => False
    | some (.array n e) => match x with
      | .arr m s xs => m = n ∧ s = szOf P e ∧ (P.info? e).isSome = true ∧ (∀ y, y ∈ xs → tyOK P e y.size y.isAgg = true) ∧ ∀ y, y ∈ xs → D.fits P f e y
      | _ => False
    | some (.struct fields) => P.stoodInHeld T = false ∧ match x with
      | .st fs => fitsWith P (D.fits P f) fields.toList 0 fs
      | _ => False
    | _ => False

theorem isAgg_len {X : Nat → Prop} {w : World} {x : D} {cs : List Value} (h : RepD X w x cs) (ha : x.isAgg = false) : cs.length = 1 := notAgg_size (ρ := fun _ => none) (.d h) ha

theorem eqItems_run {P : Program} {X : Nat → Prop} {w : World} {e : TypeId} {c d : Nat} (ih : ∀ (x y : D) (cs ds : List Value), D.fits P d e x → D.fits P d e y → RepD X w x cs → RepD X w y ds → ∀ k, (Op.equalIn (k + d) e (wrapV x.isAgg cs) (wrapV y.isAgg ds)).run P w = .ok (D.beq x y) w) (k : Nat) :
    ∀ (xs ys : List D) (i : Nat) (px py cs ds : List Value), xs.length = ys.length → px.length = i * c → py.length = i * c → RepL X w xs cs → RepL X w ys ds →
      (∀ x, x ∈ xs → x.size = c ∧ tyOK P e x.size x.isAgg = true ∧ D.fits P d e x) → (∀ x, x ∈ ys → x.size = c ∧ tyOK P e x.size x.isAgg = true ∧ D.fits P d e x) →
      (Op.eqItems (k + d) e c (px ++ cs).toArray (py ++ ds).toArray (List.range' i xs.length)).run P w = .ok (D.beqs xs ys) w := by
  intro xs
  induction xs with
  | nil =>
    intro ys i px py cs ds hl _ _ _ _ _ _
    have : ys = [] := List.eq_nil_of_length_eq_zero hl.symm
    subst this
    rfl
  | cons x xs ihx =>
    intro ys i px py cs ds hl h1 h2 hr1 hr2 hx hy
    cases ys with
    | nil => cases hl
    | cons y ys =>
      cases hr1 with
      | cons r1 rs1 =>
        rename_i c1 cs
        cases hr2 with
        | cons r2 rs2 =>
          rename_i c2 ds
          obtain ⟨a1, a2, a3⟩ := hx x (by simp)
          obtain ⟨b1, b2, b3⟩ := hy y (by simp)
          have p1 := run_part (P := P) (T := e) (w := w) (pre := px) (c := c1) (post := cs) (agg := x.isAgg) (by rw [r1.length]; exact a2) h1 (isAgg_len r1)
          have p2 := run_part (P := P) (T := e) (w := w) (pre := py) (c := c2) (post := ds) (agg := y.isAgg) (by rw [r2.length]; exact b2) h2 (isAgg_len r2)
          simp only [List.length_cons, List.range'_succ, Op.eqItems]
          rw [List.append_assoc] at p1 p2
          rw [run_bind_ok p1, run_bind_ok p2, run_bind_ok (ih x y c1 c2 a3 b3 r1 r2 k)]
          have := ihx ys (i + 1) (px ++ c1) (py ++ c2) cs ds (by simpa using hl) (by simp [h1, r1.length, a1, Nat.succ_mul]) (by simp [h2, r2.length, b1, Nat.succ_mul]) rs1 rs2
            (fun z hz => hx z (by simp [hz])) (fun z hz => hy z (by simp [hz]))
          simp only [List.append_assoc] at this
          simp only [D.beqs]
          cases hb : D.beq x y with
          | true => simp only [Bool.not_true, Bool.false_eq_true, if_false, Bool.true_and]; exact this
          | false => rfl

theorem eqFields_run {P : Program} {X : Nat → Prop} {w : World} {d : Nat} (ih : ∀ (T : TypeId) (x y : D) (cs ds : List Value), D.fits P d T x → D.fits P d T y → RepD X w x cs → RepD X w y ds → ∀ k, (Op.equalIn (k + d) T (wrapV x.isAgg cs) (wrapV y.isAgg ds)).run P w = .ok (D.beq x y) w) (k : Nat) :
    ∀ (fds : List Field) (xs ys : List D) (off : Nat) (px py cs ds : List Value), px.length = off → py.length = off → RepL X w xs cs → RepL X w ys ds → fitsWith P (D.fits P d) fds off xs → fitsWith P (D.fits P d) fds off ys →
      (Op.eqFields (k + d) (px ++ cs).toArray (py ++ ds).toArray fds).run P w = .ok (D.beqs xs ys) w := by
  intro fds
  induction fds with
  | nil =>
    intro xs ys off px py cs ds _ _ _ _ h1 h2
    cases xs with
    | nil => cases ys with
      | nil => rfl
      | cons _ _ => simp [fitsWith] at h2
    | cons _ _ => simp [fitsWith] at h1
  | cons fd fds ihf =>
    intro xs ys off px py cs ds l1 l2 hr1 hr2 h1 h2
    cases xs with
    | nil => simp [fitsWith] at h1
    | cons x xs =>
      cases ys with
      | nil => simp [fitsWith] at h2
      | cons y ys =>
        simp only [fitsWith] at h1 h2
        obtain ⟨⟨hn, ho, t1⟩, f1, g1⟩ := h1
        obtain ⟨⟨_, _, t2⟩, f2, g2⟩ := h2
        cases hr1 with
        | cons r1 rs1 =>
          rename_i c1 cs
          cases hr2 with
          | cons r2 rs2 =>
            rename_i c2 ds
            have p1 := run_part (P := P) (T := fd.type) (w := w) (pre := px) (c := c1) (post := cs) (agg := x.isAgg) (by rw [r1.length]; exact t1) (l1.trans ho.symm) (isAgg_len r1)
            have p2 := run_part (P := P) (T := fd.type) (w := w) (pre := py) (c := c2) (post := ds) (agg := y.isAgg) (by rw [r2.length]; exact t2) (l2.trans ho.symm) (isAgg_len r2)
            have hsz : x.size = y.size := by
              have := tyOK_size t1 w
              rw [tyOK_size t2 w] at this
              simp only [Result.ok.injEq, and_true] at this
              exact this.symm
            simp only [Op.eqFields]
            rw [if_pos hn]
            rw [List.append_assoc] at p1 p2
            rw [run_bind_ok p1, run_bind_ok p2, run_bind_ok (ih fd.type x y c1 c2 f1 f2 r1 r2 k)]
            have := ihf xs ys (off + x.size) (px ++ c1) (py ++ c2) cs ds (by simp [l1, r1.length]) (by simp [l2, r2.length, hsz]) rs1 rs2 g1 (by rw [hsz]; exact g2)
            simp only [List.append_assoc] at this
            simp only [D.beqs]
            cases hb : D.beq x y with
            | true => simp only [Bool.not_true, Bool.false_eq_true, if_false, Bool.true_and]; exact this
            | false => rfl

theorem D.eq_run {P : Program} {X : Nat → Prop} {w : World} : ∀ (f : Nat) (T : TypeId) (x y : D) (cs ds : List Value), D.fits P f T x → D.fits P f T y → RepD X w x cs → RepD X w y ds →
    ∀ k, (Op.equalIn (k + f) T (wrapV x.isAgg cs) (wrapV y.isAgg ds)).run P w = .ok (D.beq x y) w := by
  intro f
  induction f with
  | zero => intro T x y cs ds h; simp [D.fits] at h
  | succ f ih =>
    intro T x y cs ds h1 h2 r1 r2 k
    simp only [D.fits] at h1 h2
    cases hu : P.underlying T with
    | none => rw [hu] at h1; exact h1.elim
    | some t =>
      rw [hu] at h1 h2
      rw [show k + (f + 1) = (k + f) + 1 from rfl]
      cases t <;> try (exact h1.elim)
      case bool =>
        cases x <;> try (exact h1.elim)
        cases y <;> try (exact h2.elim)
        cases r1; cases r2
        exact run_equalIn_bool w _ T _ _ hu
      case int q =>
        cases x <;> try (exact h1.elim)
        cases y <;> try (exact h2.elim)
        cases r1; cases r2
        simp only at h1 h2
        subst h1; subst h2
        exact run_equalIn_int w _ T _ _ _ _ hu
      case string =>
        cases x <;> try (exact h1.elim)
        cases y <;> try (exact h2.elim)
        cases r1; cases r2
        exact run_equalIn_string w _ T _ _ hu
      case array n e =>
        cases x <;> try (exact h1.elim)
        rename_i m s xs
        cases y <;> try (exact h2.elim)
        rename_i m' s' ys
        obtain ⟨rfl, rfl, hi, h3, h4⟩ := h1
        obtain ⟨rfl, rfl, _, h5, h6⟩ := h2
        obtain ⟨i, hi⟩ := Option.isSome_iff_exists.1 hi
        have hc : P.cellsOf e = szOf P e := by simp [Program.cellsOf, szOf, hi]
        cases r1 with
        | arr l1 e1 r1 =>
          cases r2 with
          | arr l2 e2 r2 =>
            simp only [wrapV, D.isAgg, if_true]
            rw [run_equalIn_array w (k + f) cs.toArray ds.toArray hu hi, hc]
            have := eqItems_run (fun x y cs ds => ih e x y cs ds) k xs ys 0 [] [] cs ds (by rw [l1, l2]) (by simp) (by simp) r1 r2 (c := szOf P e) (fun x hx => ⟨e1 x hx, h3 x hx, h4 x hx⟩) (fun x hx => ⟨e2 x hx, h5 x hx, h6 x hx⟩)
            simp only [List.nil_append] at this
            rw [List.range_eq_range', ← l1]
            exact this
      case struct fields =>
        cases x <;> try (exact h1.2.elim)
        cases y <;> try (exact h2.2.elim)
        rename_i fs gs
        have hf : P.fieldsOf T = fields := by simp [Program.fieldsOf, hu]
        cases r1 with
        | st r1 =>
          cases r2 with
          | st r2 =>
            simp only [wrapV, D.isAgg, if_true]
            rw [run_equalIn_struct w (k + f) T cs.toArray ds.toArray (by rw [hf]; exact hu) h1.1, hf]
            have := eqFields_run (fun T x y cs ds => ih T x y cs ds) k fields.toList fs gs 0 [] [] cs ds rfl rfl r1 r2 h1.2 h2.2
            show _ = Result.ok (D.beqs fs gs) w
            simpa using this

def aEqNil (P : Program) (T : TypeId) (x y : AV) (neg : Bool) : Option Res := match P.underlying T, x, y with
  | some (.pointer _), .ptr _ _, .d .nilp => some ⟨True, .d (.bool neg), []⟩
  | some (.pointer _), .dptr _, .d .nilp => some ⟨True, .d (.bool neg), []⟩
  | some (.func _ _ _), .fn _ _, .d .nilf => some ⟨True, .d (.bool neg), []⟩
  | some (.slice _), .cst (.slice none _ _), .d .nils => some ⟨True, .d (.bool (!neg)), []⟩
  | some (.slice _), .cst (.slice (some _) _ _), .d .nils => some ⟨True, .d (.bool neg), []⟩
  | some (.slice _), .d (.sl (_ :: _)), .d .nils => some ⟨True, .d (.bool neg), []⟩
  | _, _, _ => none

def aEq (P : Program) (T : TypeId) (x y : AV) (neg : Bool) : Option Res := match x, y with
  | .d (.st a), .d (.st b) => some ⟨P.eqGuardType P.depth T = false ∧ D.fits P 8 T (.st a) ∧ D.fits P 8 T (.st b), .d (.bool (bif neg then !D.beq (.st a) (.st b) else D.beq (.st a) (.st b))), []⟩
  | .d (.sl (z :: zs)), .d .nils => aEqNil P T (.d (.sl (z :: zs))) (.d .nils) neg
  | .d a, .d b => bif a.isAgg && b.isAgg && !P.eqGuardType P.depth T then some ⟨D.fits P 8 T a ∧ D.fits P 8 T b, .d (.bool (bif neg then !D.beq a b else D.beq a b)), []⟩ else none
  | x, y => aEqNil P T x y neg

/-- '==', '!=' of structs and arrays; of references and nil. -/
def aCmp (P : Program) (op : BinOp) (T : TypeId) (x y : AV) : Option Res :=
  match op with
  | .eql => aEq P T x y false
  | .neq => aEq P T x y true
  | _ => none

theorem aCmp_sound {P : Program} {op : BinOp} {T T2 : TypeId} {o : Oper} {x y : Operand} {S : St} {res : Res} (ho : o.op = .binOp op T x y T2) (h : aCmp P op T (S.ev x) (S.ev y) = some res) (hside : res.side) :
    StepsTo P o S (S.upd o.dst res.r res.ws) := by
  have bo : ∀ {ρ : Nat → Option Nat} {X : Nat → Prop} {w : World} {b : Bool}, RepA ρ X w (.d (.bool b)) (.bool b) := fun {_ _ _ b} => ⟨_, .d (.bool b), rfl⟩
  have key : ∀ neg, (op = .eql ∧ neg = false ∨ op = .neq ∧ neg = true) → aEq P T (S.ev x) (S.ev y) neg = some res → StepsTo P o S (S.upd o.dst res.r res.ws) := by
    intro neg hop h
    have agg : ∀ (a b : D), S.ev x = .d a → S.ev y = .d b → a.isAgg = true → b.isAgg = true → P.eqGuardType P.depth T = false → D.fits P 8 T a → D.fits P 8 T b →
        res = ⟨res.side, .d (.bool (bif neg then !D.beq a b else D.beq a b)), []⟩ → StepsTo P o S (S.upd o.dst res.r res.ws) := by
      intro a b hx hy ha hb hg hf1 hf2 hres
      rw [hres]
      refine steps_value fun ρ X e w hs => ⟨.bool (bif neg then !D.beq a b else D.beq a b), ?_, bo, fun m hm => by cases hm⟩
      have h1 := hs.ev x
      have h2 := hs.ev y
      rw [hx] at h1; rw [hy] at h2
      obtain ⟨cs, c1, c2⟩ := repA_d h1
      obtain ⟨ds, d1, d2⟩ := repA_d h2
      have heq : (Op.equal T (e.eval x) (e.eval y)).run P w = .ok (D.beq a b) w := by
        rw [c2, d2]
        exact D.eq_run 8 T a b cs ds hf1 hf2 c1 d1 9992
      rw [ha] at c2; rw [hb] at d2
      simp only [wrapV, if_true] at c2 d2
      have hgd : (eqGuard op T x y (e.eval x) (e.eval y)).run P w = .ok () w := by
        rw [c2, d2]
        have hp : (program >>= fun p => program >>= fun q => if (!Program.eqGuardType p q.depth T) = true then pure () else (do if ← Op.eqGuardIn Op.maxDepth T (.agg cs.toArray) (.agg ds.toArray) then unsupported (.noEntry "binop/eql: two nil values of an interface type with methods, in a part of a struct or an array") : Sem Unit)).run P w = .ok () w := by
          simp [program, Sem.run, Sem.run_bind, hg]
        rcases hop with ⟨rfl, _⟩ | ⟨rfl, _⟩
        · simpa [eqGuard] using hp
        · simpa [eqGuard] using hp
      simp only [execOp, ho]
      refine run_map ?_
      rw [run_bind_ok hgd]
      rw [c2, d2] at heq ⊢
      rcases hop with ⟨rfl, rfl⟩ | ⟨rfl, rfl⟩
      · simp only [binOp]; rw [run_bind_ok heq]; rfl
      · simp only [binOp]; rw [run_bind_ok heq]; rfl
    have nl : ∀ r : Res, aEqNil P T (S.ev x) (S.ev y) neg = some r → StepsTo P o S (S.upd o.dst r.r r.ws) := by
      intro r h
      unfold aEqNil at h
      split at h <;> cases h
      · rename_i el n p hu hx hy
        refine steps_value fun ρ X e w hs => ⟨.bool neg, ?_, bo, fun m hm => by cases hm⟩
        have h1 := hs.ev x
        have h2 := hs.ev y
        rw [hx] at h1; rw [hy] at h2
        obtain ⟨b, _, hv⟩ := repA_ptr h1
        obtain ⟨ds, d1, d2⟩ := repA_d h2
        cases d1
        simp only [wrapV, D.isAgg, Bool.false_eq_true, if_false, List.headD_cons] at d2
        have heq : (Op.equal T (e.eval x) (e.eval y)).run P w = .ok false w := by
          rw [hv, d2]
          have key : ∀ d, (Op.equalIn (d + 1) T (.pointer (some ⟨b, pOff p, none⟩)) (.pointer none)).run P w = .ok false w := fun d => by
            simp only [Op.equalIn]
            rw [run_bind_ok (run_underlying hu w)]; rfl
          exact key 9999
        simp only [execOp, ho]
        refine run_map ?_
        rw [hv, d2] at heq ⊢
        rcases hop with ⟨rfl, rfl⟩ | ⟨rfl, rfl⟩
        · rw [run_bind_ok (x := ()) (w' := w) (by simp [eqGuard])]; simp only [binOp]; rw [run_bind_ok heq]; rfl
        · rw [run_bind_ok (x := ()) (w' := w) (by simp [eqGuard])]; simp only [binOp]; rw [run_bind_ok heq]; rfl
      · rename_i el z hu hx hy
        refine steps_value fun ρ X e w hs => ⟨.bool neg, ?_, bo, fun m hm => by cases hm⟩
        have h1 := hs.ev x
        have h2 := hs.ev y
        rw [hx] at h1; rw [hy] at h2
        obtain ⟨b, q, cs, hv, _⟩ := repA_dptr h1
        obtain ⟨ds, d1, d2⟩ := repA_d h2
        cases d1
        simp only [wrapV, D.isAgg, Bool.false_eq_true, if_false, List.headD_cons] at d2
        have heq : (Op.equal T (e.eval x) (e.eval y)).run P w = .ok false w := by
          rw [hv, d2]
          have key : ∀ d, (Op.equalIn (d + 1) T (.pointer (some ⟨b, q, none⟩)) (.pointer none)).run P w = .ok false w := fun d => by
            simp only [Op.equalIn]
            rw [run_bind_ok (run_underlying hu w)]; rfl
          exact key 9999
        simp only [execOp, ho]
        refine run_map ?_
        rw [hv, d2] at heq ⊢
        rcases hop with ⟨rfl, rfl⟩ | ⟨rfl, rfl⟩
        · rw [run_bind_ok (x := ()) (w' := w) (by simp [eqGuard])]; simp only [binOp]; rw [run_bind_ok heq]; rfl
        · rw [run_bind_ok (x := ()) (w' := w) (by simp [eqGuard])]; simp only [binOp]; rw [run_bind_ok heq]; rfl
      · rename_i f cs hu hx hy
        refine steps_value fun ρ X e w hs => ⟨.bool neg, ?_, bo, fun m hm => by cases hm⟩
        have h1 := hs.ev x
        have h2 := hs.ev y
        rw [hx] at h1; rw [hy] at h2
        obtain ⟨us, u1, u2⟩ := h1
        obtain ⟨ds, d1, d2⟩ := repA_d h2
        cases d1
        cases u1 with
        | fn _ =>
          rename_i vs _
          simp only [wrapV, D.isAgg, AV.isAgg, Bool.false_eq_true, if_false, List.headD_cons] at d2 u2
          have heq : (Op.equal T (e.eval x) (e.eval y)).run P w = .ok false w := by
            rw [u2, d2]
            have key : ∀ d, (Op.equalIn (d + 1) T (.func (f) #[] vs.toArray) .nilFunc).run P w = .ok false w := fun d => by
              simp only [Op.equalIn]
              rw [run_bind_ok (run_underlying hu w)]; rfl
            exact key 9999
          simp only [execOp, ho]
          refine run_map ?_
          rw [u2, d2] at heq ⊢
          rcases hop with ⟨rfl, rfl⟩ | ⟨rfl, rfl⟩
          · rw [run_bind_ok (x := ()) (w' := w) (by simp [eqGuard])]; simp only [binOp]; rw [run_bind_ok heq]; rfl
          · rw [run_bind_ok (x := ()) (w' := w) (by simp [eqGuard])]; simp only [binOp]; rw [run_bind_ok heq]; rfl
      · rename_i el len cap hu hx hy
        refine steps_value fun ρ X e w hs => ⟨.bool (!neg), ?_, bo, fun m hm => by cases hm⟩
        have h1 := hs.ev x
        have h2 := hs.ev y
        rw [hx] at h1; rw [hy] at h2
        obtain ⟨us, u1, u2⟩ := h1
        obtain ⟨ds, d1, d2⟩ := repA_d h2
        cases d1
        cases u1
        simp only [wrapV, D.isAgg, AV.isAgg, Bool.false_eq_true, if_false, List.headD_cons] at d2 u2
        have heq : (Op.equal T (e.eval x) (e.eval y)).run P w = .ok true w := by
          rw [u2, d2]
          have key : ∀ d, (Op.equalIn (d + 1) T (.slice none len cap) (.slice none 0 0)).run P w = .ok true w := fun d => by
            simp only [Op.equalIn]
            rw [run_bind_ok (run_underlying hu w)]; rfl
          exact key 9999
        simp only [execOp, ho]
        refine run_map ?_
        rw [u2, d2] at heq ⊢
        rcases hop with ⟨rfl, rfl⟩ | ⟨rfl, rfl⟩
        · rw [run_bind_ok (x := ()) (w' := w) (by simp [eqGuard])]; simp only [binOp]; rw [run_bind_ok heq]; rfl
        · rw [run_bind_ok (x := ()) (w' := w) (by simp [eqGuard])]; simp only [binOp]; rw [run_bind_ok heq]; rfl
      · rename_i el ad len cap hu hx hy
        refine steps_value fun ρ X e w hs => ⟨.bool neg, ?_, bo, fun m hm => by cases hm⟩
        have h1 := hs.ev x
        have h2 := hs.ev y
        rw [hx] at h1; rw [hy] at h2
        obtain ⟨us, u1, u2⟩ := h1
        obtain ⟨ds, d1, d2⟩ := repA_d h2
        cases d1
        cases u1
        simp only [wrapV, D.isAgg, AV.isAgg, Bool.false_eq_true, if_false, List.headD_cons] at d2 u2
        have heq : (Op.equal T (e.eval x) (e.eval y)).run P w = .ok false w := by
          rw [u2, d2]
          have key : ∀ d, (Op.equalIn (d + 1) T (.slice (some ad) len cap) (.slice none 0 0)).run P w = .ok false w := fun d => by
            simp only [Op.equalIn]
            rw [run_bind_ok (run_underlying hu w)]; rfl
          exact key 9999
        simp only [execOp, ho]
        refine run_map ?_
        rw [u2, d2] at heq ⊢
        rcases hop with ⟨rfl, rfl⟩ | ⟨rfl, rfl⟩
        · rw [run_bind_ok (x := ()) (w' := w) (by simp [eqGuard])]; simp only [binOp]; rw [run_bind_ok heq]; rfl
        · rw [run_bind_ok (x := ()) (w' := w) (by simp [eqGuard])]; simp only [binOp]; rw [run_bind_ok heq]; rfl
      · rename_i el z zs hu hx hy
        refine steps_value fun ρ X e w hs => ⟨.bool neg, ?_, bo, fun m hm => by cases hm⟩
        have h1 := hs.ev x
        have h2 := hs.ev y
        rw [hx] at h1; rw [hy] at h2
        obtain ⟨us, u1, u2⟩ := repA_d h1
        obtain ⟨ds, d1, d2⟩ := repA_d h2
        cases d1
        cases u1 with
        | sl a1 a2 a3 a4 a5 a6 =>
        rename_i b off cap e2 cs
        simp only [wrapV, D.isAgg, Bool.false_eq_true, if_false, List.headD_cons] at d2 u2
        have heq : (Op.equal T (e.eval x) (e.eval y)).run P w = .ok false w := by
          rw [u2, d2]
          have key : ∀ d, (Op.equalIn (d + 1) T (.slice (some ⟨b, off, none⟩) (z :: zs).length cap) (.slice none 0 0)).run P w = .ok false w := fun d => by
            simp only [Op.equalIn]
            rw [run_bind_ok (run_underlying hu w)]; rfl
          exact key 9999
        simp only [execOp, ho]
        refine run_map ?_
        rw [u2, d2] at heq ⊢
        rcases hop with ⟨rfl, rfl⟩ | ⟨rfl, rfl⟩
        · rw [run_bind_ok (x := ()) (w' := w) (by simp [eqGuard])]; simp only [binOp]; rw [run_bind_ok heq]; rfl
        · rw [run_bind_ok (x := ()) (w' := w) (by simp [eqGuard])]; simp only [binOp]; rw [run_bind_ok heq]; rfl
    unfold aEq at h
    split at h
    · rename_i a b hx hy
      cases h
      exact agg _ _ hx hy rfl rfl hside.1 hside.2.1 hside.2.2 rfl
    · rename_i z zs hx hy
      rw [← hx, ← hy] at h
      exact nl _ h
    · rename_i a b _ _ hx hy
      cases hb : a.isAgg && b.isAgg && !P.eqGuardType P.depth T <;> simp only [hb, cond_true, cond_false] at h <;> cases h
      simp only [Bool.and_eq_true, Bool.not_eq_true'] at hb
      exact agg a b hx hy hb.1.1 hb.1.2 hb.2 hside.1 hside.2 rfl
    · exact nl _ h
  unfold aCmp at h
  split at h
  · exact key false (.inl ⟨rfl, rfl⟩) h
  · exact key true (.inr ⟨rfl, rfl⟩) h
  · cases h

end Go.Sym

/-
What an operation that calls nothing does to what a frame holds: copy.
-/
set_option linter.unusedSimpArgs false
set_option linter.unusedVariables false
namespace Go.Sym

/-- A row of which a part is written over. -/
def overD (xs ys : List D) (off k : Nat) : List D := xs.take off ++ ys.take k ++ xs.drop (off + k)

theorem overD_length {xs ys : List D} {off k : Nat} (h : off + k ≤ xs.length) (hk : k ≤ ys.length) : (overD xs ys off k).length = xs.length := by
  unfold overD; simp; omega

def aCopy (P : Program) (T : TypeId) (hp : Nat → Option AObj) (d x : AV) : Option Res :=
  match elTy P T with
  | some el => bif (szOf P el).beq 0 then none else match d with
    | .sl o p e off len => match elsOf hp x with
      | some (sd, ys) => bif (szOf P el).beq e then match hp o with
        | some (.var u) => match AV.nav u p with
          | some (s, .d (.arr n e' xs)) => bif e.beq e' then match AV.set u p (.d (.arr n e (overD xs ys off (min ys.length len)))) with
            | some (s2, z) => some ⟨((sd ∧ s ∧ s2) ∧ off + len ≤ xs.length) ∧ ∀ y, y ∈ ys → y.size = e, .d (.int .i64 (min ys.length len : Nat)), [(o, .var z)]⟩
            | none => none
            else none
          | _ => none
        | some (.row e' xs) => match p with
          | [] => bif e.beq e' then some ⟨(sd ∧ off + len ≤ xs.length) ∧ ∀ y, y ∈ ys → y.size = e, .d (.int .i64 (min ys.length len : Nat)), [(o, .row e (overD xs ys off (min ys.length len)))]⟩ else none
          | _ => none
        | _ => none
        else none
      | none => none
    | _ => none
  | none => none

theorem elsOf_first {P : Program} {S : St} {ρ : Nat → Option Nat} {X : Nat → Prop} {a : Act} {w : World} (hs : Sim S ρ X a w) {x : AV} {s : Prop} {ys : List D} {hp : Nat → Option AObj} (hle : ∀ n x, hp n = some x → S.hp n = some x) (h : elsOf hp x = some (s, ys)) (hside : s) {v : Value}
    (hv : RepA ρ X w x v) {e : Nat} (he : ∀ y, y ∈ ys → y.size = e) {k : Nat} (hk : k ≤ ys.length) :
    ∃ cs : List Value, (Builtin.lenOf v).run P w = .ok ys.length w ∧ (Builtin.firstCells e k v).run P w = .ok cs.toArray w ∧ RepL X w (ys.take k) cs := by
  rcases elsOf_rep hs hle h hside hv with ⟨rfl, ad, cap, rfl⟩ | ⟨b, q, cap, cs, e', rfl, h2, h3, h4, _, _⟩
  · have : k = 0 := by simpa using hk
    subst this
    refine ⟨[], rfl, ?_, .nil⟩
    have h0 : 0 * e = 0 := by simp
    cases ad with
    | none => rfl
    | some ad => simp only [Builtin.firstCells]; rw [h0]; rfl
  · have hsp : ys = ys.take k ++ ys.drop k := (List.take_append_drop k ys).symm
    rw [hsp] at h3
    obtain ⟨c, d, rfl, k1, k2⟩ := RepL.split h3
    refine ⟨c, rfl, ?_, k1⟩
    simp only [Builtin.firstCells]
    have hl : k * e = c.length := by
      rw [k1.length, D.sizes_const _ (fun y hy => he y (List.mem_of_mem_take hy)), List.length_take, Nat.min_eq_left hk]
    rw [hl]
    refine run_loadCells fun i v hv => h2 i v ?_
    rw [List.getElem?_append_left (List.getElem?_eq_some_iff.1 hv).1]; exact hv

theorem run_copy {P : Program} {T T2 ty el : TypeId} {e : Nat} {w w' : World} (hu : P.underlying T = some (.slice el)) (hsz : (sizeOf el).run P w = .ok e w) {a : Addr} {len cap n : Nat} {x : Value} {news : Array Value}
    (hlen : (Builtin.lenOf x).run P w = .ok n w) (hnew : (Builtin.firstCells e (min n len) x).run P w = .ok news w) (hst : (storeCells a news.toList).run P w = .ok () w') :
    (Builtin.copy_ #[T, T2] ty #[.slice (some a) len cap, x]).run P w = .ok (.int .i64 (min n len : Nat)) w' := by
  simp only [Builtin.copy_]
  rw [show (#[T, T2] : Array TypeId)[0]? = some T from rfl, show (#[Value.slice (some a) len cap, x] : Array Value)[0]? = some (.slice (some a) len cap) from rfl,
    show (#[Value.slice (some a) len cap, x] : Array Value)[1]? = some x from rfl]
  simp only []
  rw [run_bind_ok (run_underlying hu w)]
  simp only []
  rw [run_bind_ok hlen, run_bind_ok hsz]
  have hnew' : (Builtin.firstCells e (Nat.min n len) x).run P w = .ok news w := hnew
  rw [run_bind_ok hnew', run_bind_ok hst]
  rfl

theorem run_copy0 {P : Program} {T T2 ty el : TypeId} {e : Nat} {w : World} (hu : P.underlying T = some (.slice el)) (hsz : (sizeOf el).run P w = .ok e w) {len cap n : Nat} {x : Value} {news : Array Value}
    (hlen : (Builtin.lenOf x).run P w = .ok n w) (hnew : (Builtin.firstCells e (min n len) x).run P w = .ok news w) :
    (Builtin.copy_ #[T, T2] ty #[.slice none len cap, x]).run P w = .ok (.int .i64 (min n len : Nat)) w := by
  simp only [Builtin.copy_]
  rw [show (#[T, T2] : Array TypeId)[0]? = some T from rfl, show (#[Value.slice none len cap, x] : Array Value)[0]? = some (.slice none len cap) from rfl,
    show (#[Value.slice none len cap, x] : Array Value)[1]? = some x from rfl]
  simp only []
  rw [run_bind_ok (run_underlying hu w)]
  simp only []
  rw [run_bind_ok hlen, run_bind_ok hsz]
  have hnew' : (Builtin.firstCells e (Nat.min n len) x).run P w = .ok news w := hnew
  rw [run_bind_ok hnew']
  rfl

/-- Cells written over. -/
theorem store_over {P : Program} {w : World} {b q pl : Nat} {T : TypeId} {z : Nat × Nat} {pre old post vs : List Value} (h : w.heap[b]? = some (.cells (pre ++ old ++ post).toArray T z)) (hz : unfrozen z (pre ++ old ++ post).length)
    (hp : pre.length = pl) (hl : old.length = vs.length) (hc : ∀ v, v ∈ vs → isCell v = true) (hq : vs = [] ∨ q = pl) :
    (storeCells ⟨b, q, none⟩ vs).run P w = .ok () (World.lay w b (pre ++ vs ++ post)) := by
  rcases hq with rfl | rfl
  · have : old = [] := by simpa using hl
    subst this
    simp only [storeCells, run_pure]
    congr 1
    unfold World.lay
    rw [setRow_self _ _ _ _ _ h]
  · subst hp
    have := run_storeCells (P := P) (b := b) (T := T) (z := z) pre pre.length vs old post [] w (by simpa using h) (by simpa using hz) rfl hl hc
    simpa using this

theorem RepL.over {X : Nat → Prop} {w : World} {xs ys : List D} {cs ds : List Value} {e : Nat} (h : RepL X w xs cs) (he : ∀ x, x ∈ xs → x.size = e) (hy : ∀ y, y ∈ ys → y.size = e) {off k : Nat} (hk : k ≤ ys.length) (hl : off + k ≤ xs.length) (hd : RepL X w (ys.take k) ds) :
    ∃ pre old post, cs = pre ++ old ++ post ∧ pre.length = off * e ∧ old.length = ds.length ∧ RepL X w (overD xs ys off k) (pre ++ ds ++ post) ∧ ∀ x, x ∈ overD xs ys off k → x.size = e := by
  have hsp : xs = xs.take off ++ ((xs.drop off).take k ++ xs.drop (off + k)) := by
    rw [← List.drop_drop, List.take_append_drop, List.take_append_drop]
  have h' := h
  rw [hsp] at h'
  obtain ⟨pre, r, rfl, g1, g2⟩ := RepL.split h'
  obtain ⟨old, post, rfl, g3, g4⟩ := RepL.split g2
  refine ⟨pre, old, post, by simp, ?_, ?_, (g1.append hd).append g4, fun x hx => ?_⟩
  · rw [g1.length, D.sizes_const _ (fun x hx => he x (List.mem_of_mem_take hx)), List.length_take]
    congr 1; omega
  · rw [g3.length, hd.length, D.sizes_const _ (fun x hx => he x (List.mem_of_mem_drop (List.mem_of_mem_take hx))), D.sizes_const _ (fun x hx => hy x (List.mem_of_mem_take hx)), List.length_take, List.length_take, List.length_drop]
    congr 1; omega
  · unfold overD at hx
    rcases List.mem_append.1 hx with hx | hx
    · rcases List.mem_append.1 hx with hx | hx
      · exact he x (List.mem_of_mem_take hx)
      · exact hy x (List.mem_of_mem_take hx)
    · exact he x (List.mem_of_mem_drop hx)

theorem aCopy_sound {P : Program} {tys : Array TypeId} {T T2 : TypeId} {o : Oper} {d x : Operand} {S : St} {res : Res} {hp : Nat → Option AObj} (hle : ∀ n x, hp n = some x → S.hp n = some x) (ho : o.op = .call { callee := .builtin .copy, args := #[d, x], argTypes := tys })
    (hT : tys = #[T, T2]) (h : aCopy P T hp (S.ev d) (S.ev x) = some res) (hside : res.side) : StepsTo P o S (S.upd o.dst res.r res.ws) := by
  subst hT
  have key : ∀ {w w' : World} {ev : Operand → Value} {v : Value}, (Builtin.copy_ #[T, T2] o.type #[ev d, ev x]).run P w = .ok v w' → (execOp ev o).run P w = .ok (.value v) w' := fun hr => by
    refine run_builtin ho ?_
    simp only [builtin, List.map_toArray, List.map_cons, List.map_nil]
    exact run_map hr
  unfold aCopy at h
  split at h <;> try (cases h; done)
  rename_i el hel
  have hu := elTy_spec hel
  cases hz0 : (szOf P el).beq 0 <;> simp only [hz0, cond_true, cond_false] at h <;> try (cases h; done)
  have hsz0 : szOf P el ≠ 0 := fun e => by rw [e] at hz0; cases hz0
  split at h <;> try (cases h; done)
  rename_i m p e off len hd
  split at h <;> try (cases h; done)
  rename_i sd ys hels
  cases hbe : (szOf P el).beq e <;> simp only [hbe, cond_true, cond_false] at h <;> try (cases h; done)
  have hse := Nat.eq_of_beq_eq_true hbe
  have hsz : ∀ w : World, (sizeOf el).run P w = .ok e w := fun w => by rw [← hse]; exact szOf_run hsz0 w
  split at h <;> try (cases h; done)
  · rename_i u hu2
    have hu2 := hle _ _ hu2
    split at h <;> try (cases h; done)
    rename_i s n e' xs hnav
    cases hb : e.beq e' <;> simp only [hb, cond_true, cond_false] at h <;> try (cases h; done)
    have hee := Nat.eq_of_beq_eq_true hb
    subst hee
    split at h <;> cases h
    rename_i s2 z hset
    refine steps_own fun ρ X a w hs => ?_
    obtain ⟨⟨⟨h1, h2, h3⟩, h4⟩, h5⟩ := hside
    have hk1 : min ys.length len ≤ ys.length := Nat.min_le_left _ _
    have hk2 : off + min ys.length len ≤ xs.length := by have := Nat.min_le_right ys.length len; omega
    have hxv := hs.ev x
    obtain ⟨cs, c1, c2, c3⟩ := elsOf_first (P := P) hs hle hels h1 hxv h5 hk1
    have hdv := hs.ev d
    rw [hd] at hdv
    obtain ⟨b, os, T', z', k0, k1, k2, k3⟩ := hs.objs m _ hu2
    rcases repA_sl hdv with ⟨g0, _, _⟩ | ⟨b2, cap, q, c, T3, z3, g0, g1, g2, g3, g4, g5⟩
    · rw [g0] at k0; cases k0
    rw [g0] at k0; cases k0
    obtain ⟨pre, c, post, e1, e2, e3⟩ := AV.nav_rep hnav h2 k3
    obtain ⟨pre2, c2', post2, f1, f2, f3, f4⟩ := AV.set_rep hset h3 k3
    cases e3 with
    | d e3 =>
      cases e3 with
      | arr d1 d2 d3 =>
        obtain ⟨pr, old, po, i1, i2, i3, i4, i5⟩ := d3.over d2 h5 hk1 hk2 c3
        have hpp : pre = pre2 ∧ c = c2' ∧ post = post2 := by
          have hle1 : pre.length = pre2.length := by rw [e2, f2]
          have hc12 : c.length = c2'.length := by
            rw [f3, d3.length, D.sizes_const _ d2, d1]; rfl
          rw [e1, List.append_assoc, List.append_assoc] at f1
          have q1 := List.append_inj f1 hle1
          have q2 := List.append_inj q1.2 hc12
          exact ⟨q1.1, q2.1, q2.2⟩
        obtain ⟨rfl, rfl, rfl⟩ := hpp
        have hrow : w.heap[b]? = some (.cells ((pre ++ pr) ++ old ++ (po ++ post)).toArray T' z') := by rw [k1, e1, i1]; simp
        have hq : cs = [] ∨ q = pOff p + off * e := by
          by_cases hc0 : cs = []
          · exact .inl hc0
          · right
            rcases g5 with g5 | g5
            · exfalso
              have hl0 : len = 0 := by omega
              have : cs.length = 0 := by
                rw [c3.length, hl0]; simp [D.sizes]
              exact hc0 (List.eq_nil_of_length_eq_zero this)
            · exact g5
        have hst := store_over (P := P) (q := q) (pl := pOff p + off * e) hrow (by
            have : ((pre ++ pr) ++ old ++ (po ++ post)).length = os.length := by rw [e1, i1]; simp
            rw [this]; exact k2) (by rw [List.length_append, e2, i2]) i3 c3.cell hq
        have hlen : ((pre ++ pr) ++ cs ++ (po ++ post)).length = os.length := by rw [e1, i1]; simp [i3]
        refine ⟨_, _, key ?_, ρ, X, hs.lay hu2 rfl g0 k1 hlen (fun Y g hh => ⟨b, _, T', z', g0, hh, ?_, ?_⟩) (fun n hn => ?_) (fun _ _ => ⟨_, .d (.int .i64 _), rfl⟩) (fun n hn => by cases hn)⟩
        · rw [g1]
          exact run_copy hu (hsz w) c1 c2 hst
        · rw [hlen]; exact k2
        · have h6 := f4 (pr ++ cs ++ po) (.d (.arr (overD_length hk2 hk1 ▸ d1) i5 i4))
          have h7 := h6.mono g (fun _ _ => rfl)
          simpa [List.append_assoc] using h7
        · rcases AV.set_names hset n hn with h | h
          · exact hs.closedH m _ hu2 n h
          · cases h
  · rename_i e' xs hu2
    have hu2 := hle _ _ hu2
    split at h <;> try (cases h; done)
    cases hb : e.beq e' <;> simp only [hb, cond_true, cond_false] at h <;> cases h
    have hee := Nat.eq_of_beq_eq_true hb
    subst hee
    refine steps_own fun ρ X a w hs => ?_
    obtain ⟨⟨h1, h4⟩, h5⟩ := hside
    have hk1 : min ys.length len ≤ ys.length := Nat.min_le_left _ _
    have hk2 : off + min ys.length len ≤ xs.length := by have := Nat.min_le_right ys.length len; omega
    have hxv := hs.ev x
    obtain ⟨cs, c1, c2, c3⟩ := elsOf_first (P := P) hs hle hels h1 hxv h5 hk1
    have hdv := hs.ev d
    rw [hd] at hdv
    rcases hs.objs m _ hu2 with ⟨k0, rfl⟩ | ⟨b, os, rest, T', z', k0, k1, k2, k3, k4⟩
    · -- nothing is there
      rcases repA_sl hdv with ⟨g0, rfl, g1⟩ | ⟨b2, cap, q, c, T3, z3, g0, _⟩
      rotate_left
      · rw [g0] at k0; cases k0
      have hoff : off = 0 := by simpa using h4
      subst hoff
      have hov : overD ([] : List D) ys 0 (min ys.length 0) = [] := by simp [overD]
      rw [hov]
      refine ⟨.int .i64 (min ys.length 0 : Nat), w, key (?_ : (Builtin.copy_ #[T, T2] o.type #[a.eval d, a.eval x]).run P w = _), ?_⟩
      · rw [g1]
        exact run_copy0 hu (hsz w) c1 c2
      · have hlk : ∀ o' y, lkp [(m, AObj.row e [])] o' = some y → o' = m ∧ y = .row e [] := fun o' y h => by
          have := lkp_mem h
          simp at this
          exact this
        have hlk0 : lkp [(m, AObj.row e [])] m = some (.row e []) := by simp [lkp]
        refine ⟨ρ, X, hs.step (Y := fun _ => False) (.refl _ _) (fun _ h => h.elim) (fun _ _ => rfl) (fun _ _ h => h) (fun o x b _ h1 h2 h3 => hs.own o x b h1 h2 h3) ?_ ?_ ?_ ?_ ?_ ⟨_, .d (.int .i64 _), rfl⟩ (fun n h => by cases h), ?_⟩
        · intro o' y h; obtain ⟨rfl, rfl⟩ := hlk o' y h; exact .inl ⟨k0, rfl⟩
        · intro o' y k h _ hk; obtain ⟨rfl, rfl⟩ := hlk o' y h; rw [k0] at hk; cases hk
        · intro o1 y1 o2 y2 k h1 _ h2 _ _ _; rw [(hlk _ _ h1).1, (hlk _ _ h2).1]
        · intro o1 y1 o2 y2 k h1 _ h2 h3 h4 he he'
          obtain ⟨rfl, rfl⟩ := hlk _ _ h1
          rw [k0] at he; cases he
        · intro o' y h n hn'; obtain ⟨rfl, rfl⟩ := hlk o' y h; cases hn'
        · refine ⟨Ext.refl _ _, fun _ _ => ⟨id, .inl⟩, fun o' y k hy hay hk => ?_, fun _ _ => rfl⟩
          rw [St.hp_upd] at hy
          cases hl : lkp [(m, AObj.row e [])] o' with
          | some y' =>
            obtain ⟨rfl, _⟩ := hlk o' y' hl
            rw [k0] at hk; cases hk
          | none =>
            simp only [hl] at hy
            exact .inr ⟨o', y, hy, hay, hk⟩
    · rcases repA_sl hdv with ⟨g0, _, _⟩ | ⟨b2, cap, q, c, T3, z3, g0, g1, g2, g3, g4, g5⟩
      · rw [g0] at k0; cases k0
      rw [g0] at k0; cases k0
      obtain ⟨pr, old, po, i1, i2, i3, i4, i5⟩ := k3.over k4 h5 hk1 hk2 c3
      have hrow : w.heap[b]? = some (.cells (pr ++ old ++ (po ++ rest)).toArray T' z') := by rw [k1, i1]; simp
      have hq : cs = [] ∨ q = pOff [] + off * e := by
        by_cases hc0 : cs = []
        · exact .inl hc0
        · right
          rcases g5 with g5 | g5
          · exfalso
            have hl0 : len = 0 := by omega
            have : cs.length = 0 := by
              rw [c3.length, hl0]; simp [D.sizes]
            exact hc0 (List.eq_nil_of_length_eq_zero this)
          · exact g5
      have hst := store_over (P := P) (q := q) (pl := pOff [] + off * e) hrow (by
          have : (pr ++ old ++ (po ++ rest)).length = (os ++ rest).length := by rw [i1]; simp
          rw [this]; exact k2) (by rw [i2]; simp [pOff]) i3 c3.cell hq
      have hlen : (pr ++ cs ++ (po ++ rest)).length = (os ++ rest).length := by rw [i1]; simp [i3]
      refine ⟨_, _, key ?_, ρ, X, hs.lay hu2 rfl g0 k1 hlen (fun Y g hh => .inr ⟨b, pr ++ cs ++ po, rest, T', z', g0, ?_, ?_, ?_, i5⟩) (fun n hn => by cases hn) (fun _ _ => ⟨_, .d (.int .i64 _), rfl⟩) (fun n hn => by cases hn)⟩
      · rw [g1]
        exact run_copy hu (hsz w) c1 c2 hst
      · rw [hh]; simp
      · have : (pr ++ cs ++ po ++ rest).length = (os ++ rest).length := by rw [i1]; simp [i3]
        rw [this]; exact k2
      · exact i4.mono g.ext g.off g.own

end Go.Sym

/-
What is handed over as data; slices cut with a bound, slices of what is owned, the smaller of two numbers.
-/
set_option linter.unusedSimpArgs false
set_option linter.unusedVariables false
namespace Go.Sym

def wr (hp : Nat → Option AObj) (ws : List (Nat × AObj)) : Nat → Option AObj := fun o => match lkp ws o with
  | some x => some x
  | none => hp o

theorem wr_ne {hp : Nat → Option AObj} {ws : List (Nat × AObj)} {n : Nat} (h : hp n ≠ none) : wr hp ws n ≠ none := by
  unfold wr
  split
  · simp
  · exact h

/-! ### What is handed over as data -/

mutual
def toD (hp : Nat → Option AObj) : AV → Option (Prop × D × List Nat)
  | .d .nils => some (True, .sl [], [])
  | .d x => some (True, x, [])
  | .sl o p e off len => match elsOf hp (.sl o p e off len) with
    | some (s, xs) => some (s, .sl xs, [o])
    | none => none
  | .st fs => match toDs hp fs with
    | some (s, ys, fz) => some (s, .st ys, fz)
    | none => none
  | _ => none
def toDs (hp : Nat → Option AObj) : List AV → Option (Prop × List D × List Nat)
  | [] => some (True, [], [])
  | x :: xs => match toD hp x, toDs hp xs with
    | some (s, y, fz), some (s', ys, fz') => some (s ∧ s', y :: ys, fz ++ fz')
    | _, _ => none
end

def cvt (hp : Nat → Option AObj) : List Bool → List AV → Option (Prop × List AV × List Nat)
  | _, [] => some (True, [], [])
  | [], x :: xs => match cvt hp [] xs with
    | some (s, ys, fz) => bif x.plain then some (s, x :: ys, fz) else none
    | none => none
  | m :: ms, x :: xs => match cvt hp ms xs with
    | some (s, ys, fz) => bif m then match toD hp x with
        | some (s', y, fz') => some (s' ∧ s, .d y :: ys, fz' ++ fz)
        | none => none
      else bif x.plain then some (s, x :: ys, fz) else none
    | none => none

/-- Names let go. -/
def deads (fz : List Nat) : List (Nat × AObj) := fz.map fun n => (n, .dead)

theorem lkp_deads {fz : List Nat} {n : Nat} {x : AObj} (h : lkp (deads fz) n = some x) : x = .dead ∧ n ∈ fz := by
  have := lkp_mem h
  simp [deads] at this
  obtain ⟨m, h1, rfl, h3⟩ := this
  exact ⟨h3.symm, h1⟩

theorem lkp_deads_mem {fz : List Nat} {n : Nat} (h : n ∈ fz) : lkp (deads fz) n = some .dead := by
  induction fz with
  | nil => cases h
  | cons m fz ih =>
    simp only [deads, List.map_cons, lkp]
    cases hb : m.beq n with
    | true => rfl
    | false =>
      rcases List.mem_cons.1 h with rfl | h
      · simp at hb
      · exact ih h

/-- What is owned, less some of it. -/
def less (hp : Nat → Option AObj) (ρ : Nat → Option Nat) (X : Nat → Prop) (fz : List Nat) : Nat → Prop := fun b => X b ∧ ¬ ∃ o x, o ∈ fz ∧ hp o = some x ∧ x.alive = true ∧ ρ o = some b

theorem Sim.kill {S : St} {ρ : Nat → Option Nat} {X : Nat → Prop} {a : Act} {w : World} (hs : Sim S ρ X a w) (fz : List Nat) :
    Sim (S.write (deads fz)) ρ (less S.hp ρ X fz) a w := by
  have g : Goes ρ ρ X (less S.hp ρ X fz) (fun _ => False) w w := ⟨.refl _ _, fun _ _ _ h => h, fun _ _ h => h.1⟩
  have hhp : ∀ o x, (S.write (deads fz)).hp o = some x → (x = .dead ∧ o ∈ fz) ∨ (S.hp o = some x ∧ o ∉ fz) := fun o x h => by
    simp only [St.write] at h
    cases hl : lkp (deads fz) o with
    | some y => simp only [hl, Option.some.injEq] at h; subst h; exact .inl (lkp_deads hl)
    | none =>
      simp only [hl] at h
      refine .inr ⟨h, fun hm => ?_⟩
      rw [lkp_deads_mem hm] at hl; cases hl
  have hdom : ∀ o, S.hp o ≠ none → (S.write (deads fz)).hp o ≠ none := fun o h => wr_ne (ws := deads fz) h
  refine ⟨hs.n, fun t v h => (hs.slots t v h).mono g (fun _ _ => rfl), fun o x h => ?_, fun o o' x x' b h1 h2 h3 h4 h5 h6 => ?_, fun o x b h1 h2 h3 => ?_, fun t o ho => hdom o (hs.closedS t o ho), fun o x h o' ho' => ?_⟩
  · rcases hhp o x h with ⟨rfl, _⟩ | ⟨h, _⟩
    · trivial
    · exact (hs.objs o x h).mono g rfl (fun _ _ => rfl) (fun _ _ => rfl)
  · rcases hhp o x h1 with ⟨rfl, _⟩ | ⟨h1, _⟩
    · cases h2
    · rcases hhp o' x' h3 with ⟨rfl, _⟩ | ⟨h3, _⟩
      · cases h4
      · exact hs.inj o o' x x' b h1 h2 h3 h4 h5 h6
  · rcases hhp o x h1 with ⟨rfl, _⟩ | ⟨h1, hn⟩
    · cases h2
    · refine ⟨hs.own o x b h1 h2 h3, ?_⟩
      rintro ⟨o', x', hm, k1, k2, k3⟩
      have := hs.inj _ _ _ _ _ h1 h2 k1 k2 h3 k3
      subst this; exact hn hm
  · rcases hhp o x h with ⟨rfl, _⟩ | ⟨h, _⟩
    · cases ho'
    · exact hdom o' (hs.closedH o x h o' ho')

theorem elsOf_some {hp : Nat → Option AObj} {o : Nat} {p : List Stp} {e off len : Nat} {s : Prop} {xs : List D} (h : elsOf hp (.sl o p e off len) = some (s, xs)) : ∃ x, hp o = some x ∧ x.alive = true := by
  simp only [elsOf] at h
  split at h
  · exact ⟨_, by assumption, rfl⟩
  · exact ⟨_, by assumption, rfl⟩
  · cases h

mutual
theorem toDC_rep {S : St} {ρ : Nat → Option Nat} {X : Nat → Prop} {a : Act} {w : World} (hs : Sim S ρ X a w) {F : List Nat} : ∀ {x : AV} {s : Prop} {y : D} {fz : List Nat} {cs : List Value}, toD S.hp x = some (s, y, fz) → s → (∀ n, n ∈ fz → n ∈ F) →
    RepC ρ X w x cs → RepD (less S.hp ρ X F) w y cs ∧ y.isAgg = x.isAgg
  | .d x, s, y, fz, cs, h, _, _, hc => by
    cases hc with
    | d hc =>
      cases x with
      | nils =>
        simp only [toD, Option.some.injEq, Prod.mk.injEq] at h
        obtain ⟨_, rfl, _⟩ := h
        cases hc
        exact ⟨.slnil, rfl⟩
      | _ =>
        simp only [toD, Option.some.injEq, Prod.mk.injEq] at h
        obtain ⟨_, rfl, _⟩ := h
        exact ⟨hc.mono (Ext.refl (fun _ => False) w) (fun _ _ _ h => h) (fun _ _ h => h.1), rfl⟩
  | .sl o p e off len, s, y, fz, cs, h, hside, hF, hc => by
    have hv := repA_of_c hc
    obtain ⟨v, rfl⟩ := List.length_eq_one_iff.1 (show cs.length = 1 from hc.length)
    have hv : RepA ρ X w (.sl o p e off len) v := hv
    simp only [toD] at h
    split at h <;> cases h
    rename_i hels
    obtain ⟨ob, ho1, ho2⟩ := elsOf_some hels
    refine ⟨?_, rfl⟩
    rcases elsOf_rep hs (fun _ _ h => h) hels hside hv with ⟨rfl, ad, cap, rfl⟩ | ⟨b, q, cap, cs, e', rfl, k1, k2, k3, k4, k5⟩
    · exact .slnil
    · have hb : ρ o = some b := by
        rcases repA_sl hv with ⟨_, _, g1⟩ | ⟨b', _, _, _, _, _, g0, g1, _⟩
        · cases g1
        · cases g1; exact g0
      exact .sl (fun hx => hx.2 ⟨o, ob, hF o (by simp), ho1, ho2, hb⟩) k5 k3 k4 k1 (k2.mono (Ext.refl (fun _ => False) w) (fun _ _ _ h => h) (fun _ _ h => h.1))
  | .st fs, s, y, fz, cs, h, hside, hF, hc => by
    simp only [toD] at h
    split at h <;> cases h
    rename_i hds
    cases hc with
    | st hc => exact ⟨.st (toDCs_rep hs hds hside hF hc), rfl⟩
  | .ptr _ _, s, y, fz, cs, h, _, _, _ => by simp only [toD] at h; cases h
  | .dptr _, s, y, fz, cs, h, _, _, _ => by simp only [toD] at h; cases h
  | .fn _ _, s, y, fz, cs, h, _, _, _ => by simp only [toD] at h; cases h
  | .tup _, s, y, fz, cs, h, _, _, _ => by simp only [toD] at h; cases h
  | .top, s, y, fz, cs, h, _, _, _ => by simp only [toD] at h; cases h
  | .cst _, s, y, fz, cs, h, _, _, _ => by simp only [toD] at h; cases h
theorem toDCs_rep {S : St} {ρ : Nat → Option Nat} {X : Nat → Prop} {a : Act} {w : World} (hs : Sim S ρ X a w) {F : List Nat} : ∀ {xs : List AV} {s : Prop} {ys : List D} {fz : List Nat} {cs : List Value}, toDs S.hp xs = some (s, ys, fz) → s → (∀ n, n ∈ fz → n ∈ F) →
    RepCs ρ X w xs cs → RepL (less S.hp ρ X F) w ys cs
  | [], s, ys, fz, cs, h, _, _, hc => by
    simp only [toDs, Option.some.injEq, Prod.mk.injEq] at h
    obtain ⟨_, rfl, _⟩ := h
    cases hc; exact .nil
  | x :: xs, s, ys, fz, cs, h, hside, hF, hc => by
    simp only [toDs] at h
    split at h <;> cases h
    rename_i h1 h2
    cases hc with
    | cons hx hxs => exact .cons (toDC_rep hs h1 hside.1 (fun n hn => hF n (List.mem_append.2 (.inl hn))) hx).1 (toDCs_rep hs h2 hside.2 (fun n hn => hF n (List.mem_append.2 (.inr hn))) hxs)
end

theorem toD_plain {hp : Nat → Option AObj} {x : AV} {s : Prop} {y : D} {fz : List Nat} (h : toD hp x = some (s, y, fz)) : x ≠ .top ∧ ∀ vs, x ≠ .tup vs := by
  refine ⟨fun e => ?_, fun vs e => ?_⟩ <;> subst e <;> simp only [toD] at h <;> cases h

theorem toD_rep {S : St} {ρ : Nat → Option Nat} {X : Nat → Prop} {a : Act} {w : World} (hs : Sim S ρ X a w) {x : AV} {s : Prop} {y : D} {fz F : List Nat} (h : toD S.hp x = some (s, y, fz)) (hside : s) (hF : ∀ n, n ∈ fz → n ∈ F) {v : Value}
    (hv : RepA ρ X w x v) : RepA1 ρ (less S.hp ρ X F) w (.d y) v := by
  have hv1 : RepA1 ρ X w x v := by
    obtain ⟨p1, p2⟩ := toD_plain h
    cases x with
    | top => exact absurd rfl p1
    | tup vs => exact absurd rfl (p2 vs)
    | _ => exact hv
  obtain ⟨cs, h1, h2⟩ := hv1
  obtain ⟨k1, k2⟩ := toDC_rep hs h hside hF h1
  exact ⟨cs, .d k1, by rw [h2]; show _ = wrapV y.isAgg cs; rw [k2]⟩

mutual
theorem toD_names {hp : Nat → Option AObj} : ∀ {x : AV} {s : Prop} {y : D} {fz : List Nat}, toD hp x = some (s, y, fz) → ∀ n, n ∈ fz → n ∈ x.names
  | .d x, s, y, fz, h, n, hn => by
    cases x <;> (simp only [toD, Option.some.injEq, Prod.mk.injEq] at h; obtain ⟨_, _, rfl⟩ := h; cases hn)
  | .sl o p e off len, s, y, fz, h, n, hn => by
    simp only [toD] at h
    split at h <;> cases h
    exact hn
  | .st fs, s, y, fz, h, n, hn => by
    simp only [toD] at h
    split at h <;> cases h
    rename_i hds
    simp only [AV.names]
    exact toDs_names hds n hn
  | .ptr _ _, s, y, fz, h, _, _ => by simp only [toD] at h; cases h
  | .dptr _, s, y, fz, h, _, _ => by simp only [toD] at h; cases h
  | .fn _ _, s, y, fz, h, _, _ => by simp only [toD] at h; cases h
  | .tup _, s, y, fz, h, _, _ => by simp only [toD] at h; cases h
  | .top, s, y, fz, h, _, _ => by simp only [toD] at h; cases h
  | .cst _, s, y, fz, h, _, _ => by simp only [toD] at h; cases h
theorem toDs_names {hp : Nat → Option AObj} : ∀ {xs : List AV} {s : Prop} {ys : List D} {fz : List Nat}, toDs hp xs = some (s, ys, fz) → ∀ n, n ∈ fz → n ∈ AV.namesL xs
  | [], s, ys, fz, h, n, hn => by
    simp only [toDs, Option.some.injEq, Prod.mk.injEq] at h
    obtain ⟨_, _, rfl⟩ := h
    cases hn
  | x :: xs, s, ys, fz, h, n, hn => by
    simp only [toDs] at h
    split at h <;> cases h
    rename_i h1 h2
    simp only [AV.namesL, List.mem_append]
    rcases List.mem_append.1 hn with hn | hn
    · exact .inl (toD_names h1 n hn)
    · exact .inr (toDs_names h2 n hn)
end

theorem cvt_rep {S : St} {ρ : Nat → Option Nat} {X : Nat → Prop} {a : Act} {w : World} (hs : Sim S ρ X a w) {F : List Nat} : ∀ {ms : List Bool} {xs ys : List AV} {s : Prop} {fz : List Nat} {vs : List Value}, cvt S.hp ms xs = some (s, ys, fz) → s →
    (∀ n, n ∈ fz → n ∈ F) → xs.length = vs.length → (∀ (i : Nat) (x : AV) (v : Value), xs[i]? = some x → vs[i]? = some v → RepA ρ X w x v) → RepT ρ (less S.hp ρ X F) w ys vs := by
  have g : Goes ρ ρ X (less S.hp ρ X F) (fun _ => False) w w := ⟨.refl _ _, fun _ _ _ h => h, fun _ _ h => h.1⟩
  intro ms xs
  induction xs generalizing ms with
  | nil =>
    intro ys s fz vs h _ _ hl _
    have : vs = [] := List.eq_nil_of_length_eq_zero hl.symm
    subst this
    have : ys = [] := by cases ms <;> (simp only [cvt, Option.some.injEq, Prod.mk.injEq] at h; exact h.2.1.symm)
    subst this; trivial
  | cons x xs ih =>
    intro ys s fz vs h hside hF hl hr
    cases vs with
    | nil => cases hl
    | cons v vs =>
      have hx := hr 0 x v rfl rfl
      have keep : x.plain = true → RepA1 ρ (less S.hp ρ X F) w x v := fun hp => by
        obtain ⟨cs, c1, c2, _⟩ := repA_cells hp hx
        exact ⟨cs, c1.mono g (fun _ _ => rfl), c2⟩
      cases ms with
      | nil =>
        simp only [cvt] at h
        split at h <;> try (cases h; done)
        rename_i s' ys' fz' hrest
        cases hp : x.plain <;> simp only [hp, cond_true, cond_false] at h <;> cases h
        exact ⟨keep hp, ih hrest hside hF (by simpa using hl) (fun i y u h1 h2 => hr (i + 1) y u (by simpa using h1) (by simpa using h2))⟩
      | cons m ms =>
        simp only [cvt] at h
        split at h <;> try (cases h; done)
        rename_i s' ys' fz' hrest
        cases m with
        | true =>
          simp only [cond_true] at h
          split at h <;> cases h
          rename_i s2 y fz2 htd
          exact ⟨toD_rep hs htd hside.1 (fun n hn => hF n (List.mem_append.2 (.inl hn))) hx, ih hrest hside.2 (fun n hn => hF n (List.mem_append.2 (.inr hn))) (by simpa using hl) (fun i y u h1 h2 => hr (i + 1) y u (by simpa using h1) (by simpa using h2))⟩
        | false =>
          simp only [cond_false] at h
          cases hp : x.plain <;> simp only [hp, cond_true, cond_false] at h <;> cases h
          exact ⟨keep hp, ih hrest hside hF (by simpa using hl) (fun i y u h1 h2 => hr (i + 1) y u (by simpa using h1) (by simpa using h2))⟩

theorem cvt_names {hp : Nat → Option AObj} {n : Nat} : ∀ {xs : List AV} {ms : List Bool} {ys : List AV} {s : Prop} {fz : List Nat}, cvt hp ms xs = some (s, ys, fz) → (n ∈ AV.namesL ys → n ∈ AV.namesL xs) ∧ (n ∈ fz → n ∈ AV.namesL xs)
  | [], ms, ys, s, fz, h => by
    have : ys = [] ∧ fz = [] := by cases ms <;> (simp only [cvt, Option.some.injEq, Prod.mk.injEq] at h; exact ⟨h.2.1.symm, h.2.2.symm⟩)
    obtain ⟨rfl, rfl⟩ := this
    exact ⟨id, fun h => by cases h⟩
  | x :: xs, ms, ys, s, fz, h => by
    simp only [AV.namesL, List.mem_append]
    cases ms with
    | nil =>
      simp only [cvt] at h
      split at h <;> try (cases h; done)
      rename_i hrest
      cases hp : x.plain <;> simp only [hp, cond_true, cond_false] at h <;> cases h
      have ih := cvt_names (n := n) hrest
      refine ⟨fun h => ?_, fun h => .inr (ih.2 h)⟩
      simp only [AV.namesL, List.mem_append] at h
      exact h.imp id ih.1
    | cons m ms =>
      simp only [cvt] at h
      split at h <;> try (cases h; done)
      rename_i hrest
      have ih := cvt_names (n := n) hrest
      cases m with
      | true =>
        simp only [cond_true] at h
        split at h <;> cases h
        rename_i s2 y fz2 htd
        refine ⟨fun h => ?_, fun h => ?_⟩
        · simp only [AV.namesL, AV.names, List.nil_append] at h
          exact .inr (ih.1 h)
        · rcases List.mem_append.1 h with h | h
          · exact .inl (toD_names htd n h)
          · exact .inr (ih.2 h)
      | false =>
        simp only [cond_false] at h
        cases hp : x.plain <;> simp only [hp, cond_true, cond_false] at h <;> cases h
        refine ⟨fun h => ?_, fun h => .inr (ih.2 h)⟩
        simp only [AV.namesL, List.mem_append] at h
        exact h.imp id ih.1

theorem lkp_append {α : Type} : ∀ (l m : List (Nat × α)) (n : Nat), lkp (l ++ m) n = match lkp l n with
    | some x => some x
    | none => lkp m n
  | [], _, _ => rfl
  | (k, v) :: l, m, n => by
    simp only [List.cons_append, lkp]
    cases k.beq n with
    | true => rfl
    | false => exact lkp_append l m n

theorem St.upd_append (S : St) (dst : Option Tmp) (r : AV) (ws ds : List (Nat × AObj)) : (S.write ds).upd dst r ws = S.upd dst r (ws ++ ds) := by
  have : (S.write ds).write ws = S.write (ws ++ ds) := by
    simp only [St.write]
    congr 1
    funext o
    rw [lkp_append]
    cases lkp ws o <;> rfl
  simp only [St.upd, this]


/-- What was let go ahead of a step. -/
theorem Evo.killed {S S2 : St} {ρ ρ' : Nat → Option Nat} {X X' : Nat → Prop} {w w' : World} {fz : List Nat} (h2 : Evo (S.write (deads fz)) S2 ρ ρ' (less S.hp ρ X fz) X' w w') : Evo S S2 ρ ρ' X X' w w' := by
  have hal : ∀ o x, (S.write (deads fz)).hp o = some x → x.alive = true → S.hp o = some x := fun o x h ha => by
    simp only [St.write] at h
    cases hl : lkp (deads fz) o with
    | some y => simp only [hl, Option.some.injEq] at h; subst h; rw [(lkp_deads hl).1] at ha; cases ha
    | none => simpa only [hl] using h
  refine ⟨h2.ext.mono fun b _ hb => ?_, fun b hb => ⟨fun h => ((h2.xs b hb).1 h).1, fun h => ?_⟩, fun o x b k1 k2 k3 => ?_, fun n hn => h2.same n (wr_ne (ws := deads fz) hn)⟩
  · obtain ⟨o, x, k1, k2, k3⟩ := hb; exact ⟨o, x, hal o x k1 k2, k2, k3⟩
  · by_cases hl : less S.hp ρ X fz b
    · rcases (h2.xs b hb).2 hl with h | ⟨o, x, k1, k2, k3⟩
      · exact .inl h
      · exact .inr ⟨o, x, hal o x k1 k2, k2, k3⟩
    · right
      have : ∃ o x, o ∈ fz ∧ S.hp o = some x ∧ x.alive = true ∧ ρ o = some b := Classical.byContradiction fun hn => hl ⟨h, hn⟩
      obtain ⟨o, x, _, k1, k2, k3⟩ := this
      exact ⟨o, x, k1, k2, k3⟩
  · rcases h2.own o x b k1 k2 k3 with h | ⟨o', x', k1, k2, k3⟩
    · exact .inl h
    · exact .inr ⟨o', x', hal o' x' k1 k2, k2, k3⟩

/-! ### A slice written out, of slices of what is owned -/

theorem elsOf_le {hp hp' : Nat → Option AObj} (hle : ∀ n x, hp n = some x → hp' n = some x) {x : AV} {r : Prop × List D} (h : elsOf hp x = some r) : elsOf hp' x = some r := by
  unfold elsOf at h ⊢
  split at h <;> try (cases h; done)
  · exact h
  · exact h
  · rename_i o p e off len
    cases ho : hp o with
    | none => rw [ho] at h; cases h
    | some y => rw [ho] at h; rw [hle _ _ ho]; exact h
  · exact h

mutual
theorem toD_le {hp hp' : Nat → Option AObj} (hle : ∀ n x, hp n = some x → hp' n = some x) : ∀ {x : AV} {r : Prop × D × List Nat}, toD hp x = some r → toD hp' x = some r
  | .d x, r, h => by cases x <;> simpa only [toD] using h
  | .sl o p e off len, r, h => by
    simp only [toD] at h ⊢
    split at h
    · rename_i s xs hx; rw [elsOf_le hle hx]; exact h
    · cases h
  | .st fs, r, h => by
    simp only [toD] at h ⊢
    split at h
    · rename_i s ys fz hx; rw [toDs_le hle hx]; exact h
    · cases h
  | .ptr _ _, r, h => by simp only [toD] at h; cases h
  | .dptr _, r, h => by simp only [toD] at h; cases h
  | .fn _ _, r, h => by simp only [toD] at h; cases h
  | .tup _, r, h => by simp only [toD] at h; cases h
  | .top, r, h => by simp only [toD] at h; cases h
  | .cst _, r, h => by simp only [toD] at h; cases h
theorem toDs_le {hp hp' : Nat → Option AObj} (hle : ∀ n x, hp n = some x → hp' n = some x) : ∀ {xs : List AV} {r : Prop × List D × List Nat}, toDs hp xs = some r → toDs hp' xs = some r
  | [], r, h => by simpa only [toDs] using h
  | x :: xs, r, h => by
    simp only [toDs] at h ⊢
    split at h
    · rename_i s y fz s' ys fz' h1 h2; rw [toD_le hle h1, toDs_le hle h2]; exact h
    · cases h
end

theorem toDs_at {hp : Nat → Option AObj} : ∀ {l : List AV} {s : Prop} {ys : List D} {fz : List Nat}, toDs hp l = some (s, ys, fz) → s → ys.length = l.length ∧ ∀ (j : Nat) (y : D) (x : AV), ys[j]? = some y → l[j]? = some x → ∃ s' fz', toD hp x = some (s', y, fz') ∧ s' ∧ ∀ n, n ∈ fz' → n ∈ fz
  | [], s, ys, fz, h, _ => by
    simp only [toDs, Option.some.injEq, Prod.mk.injEq] at h
    obtain ⟨_, rfl, _⟩ := h
    exact ⟨rfl, fun j y x h => by simp at h⟩
  | x :: xs, s, ys, fz, h, hs => by
    simp only [toDs] at h
    split at h <;> cases h
    rename_i s1 y fz1 s2 ys fz2 h1 h2
    obtain ⟨e, ih⟩ := toDs_at h2 hs.2
    refine ⟨by simp [e], fun j y' x' k1 k2 => ?_⟩
    cases j with
    | zero =>
      simp only [List.getElem?_cons_zero, Option.some.injEq] at k1 k2
      subst k1 k2
      exact ⟨s1, fz1, h1, hs.1, fun n hn => List.mem_append_left _ hn⟩
    | succ j =>
      simp only [List.getElem?_cons_succ] at k1 k2
      obtain ⟨s', fz', g1, g2, g3⟩ := ih j y' x' k1 k2
      exact ⟨s', fz', g1, g2, fun n hn => List.mem_append_right _ (g3 n hn)⟩

def aBuildSliceF (P : Program) (nm : Nat) (T : TypeId) (len : Nat) (hp : Nat → Option AObj) (parts : List (Nat × AV)) : Option Res :=
  match dsOf (parts.map (·.2)) with
  | some _ => aBuildSlice P nm T len parts
  | none => match toDs hp (parts.map (·.2)) with
    | some (s, xs, fz) => match aBuildSlice P nm T len ((parts.map (·.1)).zip (xs.map AV.d)) with
      | some res => some ⟨s, res.r, res.ws ++ deads fz⟩
      | none => none
    | none => none

theorem dsOf_map : ∀ (xs : List D), dsOf (xs.map AV.d) = some xs
  | [] => rfl
  | x :: xs => by simp only [List.map_cons, dsOf, dsOf_map xs]

theorem aBuildSliceF_sound {P : Program} {T : TypeId} {len : Nat} {o : Oper} {parts : Array (Nat × Operand)} {S : St} {res : Res} {nm : Nat} {hp : Nat → Option AObj} (hle : ∀ n x, hp n = some x → S.hp n = some x) (ho : o.op = .buildSlice T len parts)
    (h : aBuildSliceF P nm T len hp (parts.toList.map fun p => (p.1, S.ev p.2)) = some res) (hside : res.side) (hf : S.hp nm = none) : StepsTo P o S (S.upd o.dst res.r res.ws) := by
  unfold aBuildSliceF at h
  split at h
  · exact aBuildSlice_sound ho h hf
  · split at h <;> try (cases h; done)
    rename_i s xs fz hds
    have hds := toDs_le hle hds
    split at h <;> cases h
    rename_i r1 hb
    obtain ⟨hl, hat⟩ := toDs_at hds hside
    have hl : xs.length = parts.toList.length := by simpa using hl
    have hz1 : (((parts.toList.map fun p => (p.1, S.ev p.2)).map (·.1)).zip (xs.map AV.d)).map (·.1) = parts.toList.map (·.1) := by
      rw [List.map_map, List.map_fst_zip (by simp [hl])]
      rfl
    have hz2 : (((parts.toList.map fun p => (p.1, S.ev p.2)).map (·.1)).zip (xs.map AV.d)).map (·.2) = xs.map AV.d := by
      rw [List.map_snd_zip (by simp [hl])]
    have hxs : dsOf ((((parts.toList.map fun p => (p.1, S.ev p.2)).map (·.1)).zip (xs.map AV.d)).map (·.2)) = some xs := by rw [hz2, dsOf_map]
    intro ρ X a w hs
    have hk := hs.kill fz
    have hnone : (S.write (deads fz)).hp nm = none := by
      simp only [St.write]
      cases hlk : lkp (deads fz) nm with
      | none => exact hf
      | some y =>
        have hm := (lkp_deads hlk).2
        have := toDs_names hds nm hm
        obtain ⟨q, hq, hq2⟩ : ∃ q, q ∈ parts.toList ∧ nm ∈ (S.ev q.2).names := by
          have key : ∀ l : List (Nat × Operand), nm ∈ AV.namesL ((l.map fun p => (p.1, S.ev p.2)).map (·.2)) → ∃ q, q ∈ l ∧ nm ∈ (S.ev q.2).names := by
            intro l
            induction l with
            | nil => intro h; cases h
            | cons q l ih =>
              intro h
              simp only [List.map_cons, AV.namesL, List.mem_append] at h
              rcases h with h | h
              · exact ⟨q, by simp, h⟩
              · obtain ⟨q', h1, h2⟩ := ih h; exact ⟨q', by simp [h1], h2⟩
          exact key _ this
        exact absurd hf (hs.evNames q.2 nm hq2)
    obtain ⟨v, w', k1, ρ', X', k2, k3⟩ := buildSlice_core (nm := nm) (S := S.write (deads fz)) ho hb hz1 hxs hnone hk (fun j x q h1 h2 => by
      have h3 : ((parts.toList.map fun p => (p.1, S.ev p.2)).map (·.2))[j]? = some (S.ev q.2) := by
        rw [List.map_map, List.getElem?_map, h2]; rfl
      obtain ⟨s', fz', g1, g2, g3⟩ := hat j x _ h1 h3
      exact toD_rep hs g1 g2 g3 (hs.ev q.2))
    unfold Does
    rw [k1]
    rw [St.upd_append] at k2 k3
    exact ⟨ρ', X', k2, k3.killed⟩

/-! ### The smaller of two numbers -/

def aMin : AV → AV → Option Res
  | .d (.int k x), .d (.int k' y) => if k = k' then some ⟨True, .d (.int k (min x y)), []⟩ else none
  | _, _ => none

theorem aMin_sound {P : Program} {tys : Array TypeId} {o : Oper} {x y : Operand} {S : St} {res : Res} (ho : o.op = .call { callee := .builtin .min, args := #[x, y], argTypes := tys }) (h : aMin (S.ev x) (S.ev y) = some res) : StepsTo P o S (S.upd o.dst res.r res.ws) := by
  unfold aMin at h
  split at h <;> try (cases h; done)
  rename_i k a k' b hx hy
  split at h <;> cases h
  rename_i hk
  subst hk
  refine steps_value fun ρ X e w hs => ⟨.int k (min a b), ?_, ⟨_, .d (.int k (min a b)), rfl⟩, fun m hm => by cases hm⟩
  have h1 := hs.ev x
  have h2 := hs.ev y
  rw [hx] at h1; rw [hy] at h2
  have hm : (if b < a then b else a) = min a b := by
    split <;> omega
  refine run_builtin ho ?_
  simp only [builtin, List.map_toArray, List.map_cons, List.map_nil, repA_int h1, repA_int h2]
  refine run_map ?_
  simp only [Builtin.min_, List.foldlM_cons, List.foldlM_nil, Builtin.min2, hm]
  rfl

/-! ### A slice cut, with a bound -/

def bdOf : Option AV → Option Int
  | some (.d (.int _ i)) => some i
  | _ => none

def aSlice3 (P : Program) (T : TypeId) (x : AV) (lo hi mx : Option AV) : Option Res :=
  match P.underlying T with
  | some (.slice el) => bif (szOf P el).beq 0 then none else match x with
    | .d (.sl xs) => match loOf lo, bdOf hi, bdOf mx with
      | some l, some h, some m => some ⟨(0 ≤ l ∧ l ≤ h ∧ h ≤ m ∧ m ≤ xs.length) ∧ ∀ y, y ∈ xs → y.size = szOf P el, .d (.sl (cutD xs l h)), []⟩
      | _, _, _ => none
    | .sl o p e off len => match loOf lo, bdOf hi, bdOf mx with
      | some l, some h, some m => bif (szOf P el).beq e then some ⟨0 ≤ l ∧ l ≤ h ∧ h ≤ m ∧ m ≤ len, .sl o p e (off + l.toNat) (h.toNat - l.toNat), []⟩ else none
      | _, _, _ => none
    | _ => none
  | _ => none

theorem bdOf_rep {hi : Option Operand} {S : St} {ρ : Nat → Option Nat} {X : Nat → Prop} {a : Act} {w : World} (hs : Sim S ρ X a w) {l : Int} (h : bdOf (hi.map S.ev) = some l) : ∃ k, hi.map a.eval = some (.int k l) := by
  cases hi with
  | none => cases h
  | some x =>
    simp only [Option.map_some] at h ⊢
    generalize hx : S.ev x = y at h
    unfold bdOf at h
    split at h <;> cases h
    rename_i k h'
    have := hs.ev x
    cases h'
    rw [hx] at this
    exact ⟨k, by rw [repA_int this]⟩

theorem run_sliceBounds3 {P : Program} {b : Bool} {len cap : Nat} {lo hi mx : Option Value} {l h m : Int} (w : World) (hl : lo = none ∧ l = 0 ∨ ∃ k, lo = some (.int k l)) (hh : ∃ k, hi = some (.int k h)) (hm : ∃ k, mx = some (.int k m))
    (h0 : 0 ≤ l) (h1 : l ≤ h) (h2 : h ≤ m) (h3 : m ≤ cap) : (Instr.sliceBounds b len cap lo hi mx).run P w = .ok (l.toNat, h.toNat, m.toNat) w := by
  have bd : ∀ (k : IntKind) (i : Int) (y : Nat) (c : BoundsCode), 0 ≤ i → i ≤ y → (Instr.sliceBound (.int k i) y c).run P w = .ok i.toNat w := fun k i y c h0 h1 => by
    simp only [Instr.sliceBound, asIntOf]
    rw [run_bind_ok (run_pure _ w)]
    dsimp only
    rw [if_pos ⟨h0, h1⟩]; rfl
  obtain ⟨k1, rfl⟩ := hh
  obtain ⟨k2, rfl⟩ := hm
  simp only [Instr.sliceBounds]
  rw [run_bind_ok (bd k2 m cap _ (by omega) h3), run_bind_ok (bd k1 h m.toNat _ (by omega) (by omega))]
  rcases hl with ⟨rfl, rfl⟩ | ⟨k', rfl⟩
  · rw [run_bind_ok (run_pure 0 w)]; rfl
  · rw [run_bind_ok (bd k' l h.toNat _ h0 (by omega))]; rfl

theorem aSlice3_sound {P : Program} {T : TypeId} {o : Oper} {x : Operand} {lo hi mx : Option Operand} {S : St} {res : Res} (ho : o.op = .slice T x lo hi mx)
    (h : aSlice3 P T (S.ev x) (lo.map S.ev) (hi.map S.ev) (mx.map S.ev) = some res) (hside : res.side) : StepsTo P o S (S.upd o.dst res.r res.ws) := by
  unfold aSlice3 at h
  split at h <;> try (cases h; done)
  rename_i el hu
  cases hz : (szOf P el).beq 0 <;> simp only [hz, cond_true, cond_false] at h <;> try (cases h; done)
  have hne : szOf P el ≠ 0 := fun e => by rw [e] at hz; cases hz
  have run : ∀ (w : World) (ev : Operand → Value) (base : Option Addr) (len cap : Nat) (l k m : Int), ev x = .slice base len cap → (lo.map ev = none ∧ l = 0 ∨ ∃ k, lo.map ev = some (.int k l)) →
      (∃ j, hi.map ev = some (.int j k)) → (∃ j, mx.map ev = some (.int j m)) → 0 ≤ l → l ≤ k → k ≤ m → m ≤ cap →
      (execOp ev o).run P w = .ok (.value (.slice (if m.toNat = l.toNat then base else base.map (·.add (l.toNat * szOf P el))) (k.toNat - l.toNat) (m.toNat - l.toNat))) w := by
    intro w ev base len cap l k m hx hl hk hm h0 h1 h2 h3
    simp only [execOp, ho]
    refine run_map ?_
    simp only [Instr.sliceAt]
    rw [run_bind_ok (run_underlying hu w)]
    dsimp only
    simp only [Instr.slice, hx]
    rw [run_bind_ok (run_underlying hu w)]
    dsimp only
    rw [run_bind_ok (run_sliceBounds3 w hl hk hm h0 h1 h2 h3)]
    dsimp only
    rw [run_bind_ok (szOf_run hne w)]
    rfl
  split at h <;> try (cases h; done)
  · rename_i xs hx
    split at h <;> try (cases h; done)
    rename_i l k m hl hk hm
    cases h
    obtain ⟨⟨h0, h1, h2, h3⟩, hsz⟩ := hside
    refine steps_value fun ρ X a w hs => ?_
    have he := hs.ev x
    rw [hx] at he
    obtain ⟨cs, g1, g2⟩ := repA_d he
    cases g1 with
    | slnil =>
      simp only [List.length_nil] at h3
      obtain rfl : l = 0 := by omega
      obtain rfl : k = 0 := by omega
      obtain rfl : m = 0 := by omega
      rename_i ad cap
      refine ⟨_, run w a.eval ad 0 cap 0 0 0 g2 (loOf_rep hs hl) (bdOf_rep hs hk) (bdOf_rep hs hm) (by omega) (by omega) (by omega) (by omega), ?_, fun m hm => by cases hm⟩
      exact ⟨_, .d .slnil, rfl⟩
    | sl a1 a2 a3 a4 a5 a6 =>
      rename_i b off cap e cs
      refine ⟨_, run w a.eval (some ⟨b, off, none⟩) xs.length cap l k m g2 (loOf_rep hs hl) (bdOf_rep hs hk) (bdOf_rep hs hm) h0 h1 h2 (by omega), ?_, fun m hm => by cases hm⟩
      obtain ⟨pre, c, post, e1, e2, e3, e4, e5⟩ := a6.cut a3 (l := l.toNat) (k := k.toNat) (by omega) (by omega)
      have hlen : (cutD xs l k).length = k.toNat - l.toNat := e5
      by_cases hemp : cutD xs l k = []
      · rw [hemp] at hlen ⊢
        rw [← hlen]
        show RepA ρ X w (.d (.sl [])) (.slice _ 0 _)
        exact ⟨_, .d .slnil, rfl⟩
      · have hes : e = szOf P el := by
          cases xs with
          | nil => exact absurd (by unfold cutD; simp) hemp
          | cons y ys => rw [← hsz y (by simp)]; exact (a3 y (by simp)).symm
        subst hes
        have hpos : 0 < (cutD xs l k).length := List.length_pos_iff.2 hemp
        rw [← hlen]
        rw [e1] at a5
        have h5 := a5.part
        rw [e2] at h5
        rw [if_neg (by omega)]
        simp only [Option.map_some, addr_add]
        exact ⟨_, .d (.sl a1 a2 e4 (by omega) h5 e3), rfl⟩
  · rename_i n p e off len hx
    split at h <;> try (cases h; done)
    rename_i l k m hl hk hm
    cases hb : (szOf P el).beq e <;> simp only [hb, cond_true, cond_false] at h <;> cases h
    have hes := Nat.eq_of_beq_eq_true hb
    obtain ⟨h0, h1, h2, h3⟩ := hside
    refine steps_value fun ρ X a w hs => ?_
    have he := hs.ev x
    have hnm := hs.evNames x
    rw [hx] at he hnm
    rcases repA_sl he with ⟨g0, rfl, g1⟩ | ⟨b, cap, q, c, T', z, g0, g1, g2, g3, g4, g5⟩
    · obtain rfl : l = 0 := by omega
      obtain rfl : k = 0 := by omega
      obtain rfl : m = 0 := by omega
      refine ⟨_, run w a.eval none 0 0 0 0 0 g1 (loOf_rep hs hl) (bdOf_rep hs hk) (bdOf_rep hs hm) (by omega) (by omega) (by omega) (by omega), ?_, fun m hm => hnm m hm⟩
      exact ⟨_, .slnil g0, rfl⟩
    refine ⟨_, run w a.eval _ len cap l k m g1 (loOf_rep hs hl) (bdOf_rep hs hk) (bdOf_rep hs hm) h0 h1 h2 (by omega), ?_, fun m hm => hnm m hm⟩
    have hb2 : pOff p + (off + l.toNat + (m.toNat - l.toNat)) * e ≤ c.size := by
      have : off + l.toNat + (m.toNat - l.toNat) ≤ off + cap := by omega
      have := Nat.mul_le_mul_right e this
      omega
    split
    · exact ⟨_, .sl g0 g2 hb2 (by omega) (.inl (by omega)), rfl⟩
    · simp only [Option.map_some, addr_add]
      refine ⟨_, .sl g0 g2 hb2 (by omega) ?_, rfl⟩
      rcases g5 with g5 | g5
      · exact .inl (by omega)
      · right; rw [g5, hes, Nat.add_mul]; omega

end Go.Sym

/-
What an operation that calls nothing does to what a frame holds: all of it ('aOp'); what it looks at.
-/
set_option linter.unusedSimpArgs false
set_option linter.unusedVariables false
namespace Go.Sym

def aBinA (P : Program) (op : BinOp) (T : TypeId) (x y : AV) : Option Res :=
  match x, y with
  | .d a, .d b => match aBin P op T a b with
    | some (s, z) => some ⟨s, .d z, []⟩
    | none => aCmp P op T (.d a) (.d b)
  | x, y => aCmp P op T x y

def aBuiltin (P : Program) (nm : Nat) (b : Builtin) (tys : Array TypeId) (hp : Nat → Option AObj) (ins : List AV) : Option Res :=
  match b, ins, tys.toList with
  | .len, [x], [T] => aLen P T x
  | .append, [s, x], [_, _] => aAppend P nm tys hp s x
  | .copy, [d, x], [T, _] => aCopy P T hp d x
  | .min, [x, y], _ => aMin x y
  | _, _, _ => none

def aOp (P : Program) (nm : Nat) (op : Op) (ev : Operand → AV) (hp : Nat → Option AObj) : Option Res :=
  match op with
  | .move x => aMove (ev x)
  | .assign x => aMove (ev x)
  | .pick c a b => aPick (ev c) (ev a) (ev b)
  | .alloc T => aAlloc P nm T
  | .box _ x => aBox nm (ev x)
  | .build T parts => aBuild P T (parts.toList.map fun p => (p.1, ev p.2))
  | .buildSlice T len parts => aBuildSliceF P nm T len hp (parts.toList.map fun p => (p.1, ev p.2))
  | .load T a => aLoad P T hp (ev a)
  | .store T a v => aStore P T hp (ev a) (ev v)
  | .nilCheck x => aNilCheck (ev x)
  | .binOp op T x y _ => aBinA P op T (ev x) (ev y)
  | .unOp op _ x => aUn op (ev x)
  | .convert s d x => aConv P nm s d hp (ev x)
  | .makeFunc fn first caps => aMakeFunc fn first (caps.toList.map ev)
  | .makeInterface T x => aMakeIface P T (ev x)
  | .makeSlice T l c => aMakeSlice P nm T (ev l) (ev c)
  | .slice T x lo hi mx => match mx with
    | none => aSlice P T hp (ev x) (lo.map ev) (hi.map ev)
    | some _ => aSlice3 P T (ev x) (lo.map ev) (hi.map ev) (mx.map ev)
  | .fieldAddr T x f => aFieldAddr P T f (ev x)
  | .field T x f => aField P T f (ev x)
  | .indexAddr T x i => aIndexAddr P T (ev x) (ev i)
  | .index T x i => aIndex P T (ev x) (ev i)
  | .extract x i => aExtract i (ev x)
  | .call c => match c.callee with
    | .builtin b => aBuiltin P nm b c.argTypes hp (c.args.toList.map ev)
    | _ => none
  | _ => none

theorem aOp_sound {P : Program} {nm : Nat} {o : Oper} {S : St} {hp : Nat → Option AObj} {res : Res} (hle : ∀ n x, hp n = some x → S.hp n = some x) (h : aOp P nm o.op S.ev hp = some res) (hside : res.side) (hf : S.hp nm = none) :
    StepsTo P o S (S.upd o.dst res.r res.ws) := by
  cases ho : o.op <;> rw [ho] at h <;> simp only [aOp] at h <;> try (cases h; done)
  case move x => exact aMove_sound (.inl ho) h
  case assign x => exact aMove_sound (.inr ho) h
  case pick c a b => exact aPick_sound ho h
  case alloc T => exact aAlloc_sound ho h hf
  case box T x => exact aBox_sound ho h hf
  case build T parts => exact aBuild_sound ho h hside
  case buildSlice T len parts => exact aBuildSliceF_sound hle ho h hside hf
  case load T a => exact aLoad_sound hle ho h hside
  case store T a v => exact aStore_sound hle ho h hside
  case nilCheck x => exact aNilCheck_sound ho h
  case binOp op T x y T2 =>
    unfold aBinA at h
    split at h
    · rename_i a b hx hy
      split at h
      · rename_i s z hb
        cases h
        refine steps_value fun ρ X e w hs => ?_
        have h1 := hs.ev x
        have h2 := hs.ev y
        rw [hx] at h1; rw [hy] at h2
        obtain ⟨t, ht, hr⟩ := aBin_run (P := P) hb hside (w := w) (repA_d h1) (repA_d h2) x y
        refine ⟨t, ?_, ?_, fun m hm => by cases hm⟩
        · simp only [execOp, ho]
          exact run_map ht
        · obtain ⟨cs, c1, c2⟩ := hr
          rw [c2]; exact repA_mk c1
      · rw [← hx, ← hy] at h
        exact aCmp_sound ho h hside
    · exact aCmp_sound ho h hside
  case unOp op T x => exact aUn_sound ho h
  case convert s d x => exact aConv_sound hle ho h hside hf
  case makeFunc fn first caps => exact aMakeFunc_sound ho h
  case makeInterface T x => exact aMakeIface_sound ho h
  case makeSlice T l c => exact aMakeSlice_sound ho h hside hf
  case slice T x lo hi mx =>
    cases mx with
    | none => exact aSlice_sound hle ho h hside
    | some _ => exact aSlice3_sound ho h hside
  case fieldAddr T x f => exact aFieldAddr_sound ho h hside
  case field T x f => exact aField_sound ho h hside
  case indexAddr T x i => exact aIndexAddr_sound ho h hside
  case index T x i => exact aIndex_sound ho h hside
  case extract x i => exact aExtract_sound ho h
  case call c =>
    obtain ⟨callee, args, tys⟩ := c
    cases callee <;> simp only at h <;> try (cases h; done)
    rename_i b
    unfold aBuiltin at h
    split at h <;> try (cases h; done)
    · rename_i x T hins htys
      have ha : ∃ y, args = #[y] ∧ S.ev y = x := by
        cases args with
        | mk l =>
          simp only at hins
          match l, hins with
          | [y], hins => simp only [List.map_cons, List.map_nil, List.cons.injEq, and_true] at hins; exact ⟨y, rfl, hins⟩
      obtain ⟨y, rfl, rfl⟩ := ha
      refine aLen_sound ho ?_ h
      cases tys with
      | mk l => simp only at htys; subst htys; rfl
    · rename_i s x T T2 hins htys
      have ha : ∃ u v, args = #[u, v] ∧ S.ev u = s ∧ S.ev v = x := by
        cases args with
        | mk l =>
          simp only at hins
          match l, hins with
          | [u, v], hins => simp only [List.map_cons, List.map_nil, List.cons.injEq, and_true] at hins; exact ⟨u, v, rfl, hins⟩
      obtain ⟨u, v, rfl, rfl, rfl⟩ := ha
      refine aAppend_sound hle ho ?_ h hside hf
      cases tys with
      | mk l => simp only at htys; subst htys; rfl
    · rename_i d x T T2 hins htys
      have ha : ∃ u v, args = #[u, v] ∧ S.ev u = d ∧ S.ev v = x := by
        cases args with
        | mk l =>
          simp only at hins
          match l, hins with
          | [u, v], hins => simp only [List.map_cons, List.map_nil, List.cons.injEq, and_true] at hins; exact ⟨u, v, rfl, hins⟩
      obtain ⟨u, v, rfl, rfl, rfl⟩ := ha
      refine aCopy_sound hle ho (T2 := T2) ?_ h hside
      cases tys with
      | mk l => simp only at htys; subst htys; rfl
    · rename_i x y hins
      have ha : ∃ u v, args = #[u, v] ∧ S.ev u = x ∧ S.ev v = y := by
        cases args with
        | mk l =>
          simp only at hins
          match l, hins with
          | [u, v], hins => simp only [List.map_cons, List.map_nil, List.cons.injEq, and_true] at hins; exact ⟨u, v, rfl, hins⟩
      obtain ⟨u, v, rfl, rfl, rfl⟩ := ha
      exact aMin_sound ho h

theorem aOp_congr {P : Program} {nm : Nat} {op : Op} {ev ev' : Operand → AV} {hp : Nat → Option AObj} (h : ∀ x, x ∈ op.operands → ev x = ev' x) : aOp P nm op ev hp = aOp P nm op ev' hp := by
  cases op <;> simp only [aOp] <;> simp only [Op.operands] at h
  case build T parts =>
    congr 1
    exact List.map_congr_left fun p hp => by rw [h p.2 (by simp; exact ⟨p.1, by simpa using hp⟩)]
  case buildSlice T len parts =>
    congr 1
    exact List.map_congr_left fun p hp => by rw [h p.2 (by simp; exact ⟨p.1, by simpa using hp⟩)]
  case makeFunc fn first caps =>
    congr 1
    exact List.map_congr_left fun p hp => h p (by simp; right; simpa using hp)
  case slice T x lo hi mx =>
    cases mx with
    | some m =>
      have e1 : ev x = ev' x := h x (by simp)
      have e2 : ev m = ev' m := h m (by simp)
      have e3 : lo.map ev = lo.map ev' := by
        cases lo with
        | none => rfl
        | some a => simp only [Option.map_some]; rw [h a (by simp)]
      have e4 : hi.map ev = hi.map ev' := by
        cases hi with
        | none => rfl
        | some a => simp only [Option.map_some]; rw [h a (by simp)]
      simp only [Option.map_some, e1, e2, e3, e4]
    | none =>
      rw [h x (by simp)]
      cases lo with
      | none => cases hi with
        | none => rfl
        | some b => simp only [Option.map_some, Option.map_none]; rw [h b (by simp)]
      | some a => cases hi with
        | none => simp only [Option.map_some, Option.map_none]; rw [h a (by simp)]
        | some b => simp only [Option.map_some]; rw [h a (by simp), h b (by simp)]
  case call c =>
    obtain ⟨callee, args, tys⟩ := c
    cases callee <;> simp only
    congr 1
    exact List.map_congr_left fun p hp => h p (by simp [Call.operands]; simpa using hp)
  all_goals first
    | rfl
    | (rw [h _ (by simp)]; done)
    | (rename_i x y; rw [h x (by simp), h y (by simp)]; done)
    | (rename_i a x y; rw [h x (by simp), h y (by simp)]; done)
    | (rename_i a x y b; rw [h x (by simp), h y (by simp)]; done)
    | (rename_i a b x y c; rw [h x (by simp), h y (by simp)]; done)
    | (rename_i a b x; rw [h x (by simp)]; done)
    | (rename_i a x; rw [h x (by simp)]; done)
    | (rename_i c x y; rw [h c (by simp), h x (by simp), h y (by simp)]; done)
    | skip

/-- A heap of which only some names are seen. -/
def rst (hp : Nat → Option AObj) (l : List Nat) : Nat → Option AObj := fun n => bif l.contains n then hp n else none

theorem rst_le {hp : Nat → Option AObj} {l : List Nat} {n : Nat} {x : AObj} (h : rst hp l n = some x) : hp n = some x := by
  unfold rst at h
  cases hb : l.contains n <;> simp only [hb, cond_true, cond_false] at h
  · cases h
  · exact h

theorem rst_congr {hp hp' : Nat → Option AObj} {l : List Nat} (h : ∀ n, n ∈ l → hp n = hp' n) : rst hp l = rst hp' l := by
  funext n
  unfold rst
  cases hb : l.contains n with
  | false => rfl
  | true => simp only [cond_true]; exact h n (by simpa using hb)

/-- Does it look at memory? -/
def readsMem : Op → Bool
  | .load _ _ => true
  | .store _ _ _ => true
  | .convert _ _ _ => true
  | .slice _ _ _ _ _ => true
  | .buildSlice _ _ _ => true
  | .call _ => true
  | _ => false

def opNames (S : St) (op : Op) : List Nat := bif readsMem op then AV.namesL (op.operands.toList.map S.ev) else []

end Go.Sym

/-
Calls by what they are said to do; regions, step by step ('Tr'), in the order of the text and in any order that the edges let.
-/
set_option linter.unusedSimpArgs false
set_option linter.unusedVariables false
namespace Go.Sym

/-! ### Owned memory by itself -/

structure HSim (hp : Nat → Option AObj) (ρ : Nat → Option Nat) (X : Nat → Prop) (w : World) : Prop where
  objs : ∀ o x, hp o = some x → ObjAt ρ X w o x
  inj : ∀ o o' x x' b, hp o = some x → x.alive = true → hp o' = some x' → x'.alive = true → ρ o = some b → ρ o' = some b → o = o'
  own : ∀ o x b, hp o = some x → x.alive = true → ρ o = some b → X b
  closed : ∀ o x, hp o = some x → ∀ o', o' ∈ x.names → hp o' ≠ none

theorem Sim.heap {S : St} {ρ : Nat → Option Nat} {X : Nat → Prop} {a : Act} {w : World} (hs : Sim S ρ X a w) : HSim S.hp ρ X w := ⟨hs.objs, hs.inj, hs.own, hs.closedH⟩

/-- What is asked of owned memory from one world to the next. -/
structure HEvo (hp hp' : Nat → Option AObj) (ρ ρ' : Nat → Option Nat) (X X' : Nat → Prop) (w w' : World) : Prop where
  ext : Ext (fun b => ∃ o x, hp o = some x ∧ x.alive = true ∧ ρ o = some b) w w'
  xs : ∀ b, b < w.heap.size → (X' b → X b) ∧ (X b → X' b ∨ ∃ o x, hp o = some x ∧ x.alive = true ∧ ρ o = some b)
  own : ∀ o x b, hp' o = some x → x.alive = true → ρ' o = some b → w.heap.size ≤ b ∨ ∃ o' x', hp o' = some x' ∧ x'.alive = true ∧ ρ o' = some b
  same : ∀ n, hp n ≠ none → ρ' n = ρ n

/-- A call hands back what reads as 'r', and leaves what is owned as told by 'ws'. -/
def CallOK (P : Program) (f : FuncId) (args : List AV) (hp : Nat → Option AObj) (r : AV) (ws : List (Nat × AObj)) : Prop :=
  ∀ (ρ : Nat → Option Nat) (X : Nat → Prop) (w : World) (vs : List Value), HSim hp ρ X w → RepT ρ X w args vs → (∀ n, n ∈ AV.namesL args → hp n ≠ none) →
    Calls P f vs.toArray w fun e w' => ∃ v, e = .returned v ∧ ∃ ρ' X', HSim (wr hp ws) ρ' X' w' ∧ HEvo hp (wr hp ws) ρ ρ' X X' w w' ∧ RepA ρ' X' w' r v ∧ ∀ n, n ∈ r.names → wr hp ws n ≠ none

/-- A call panics with a value, and leaves what is owned as told by 'ws'. -/
def PanOK (P : Program) (f : FuncId) (args : List AV) (hp : Nat → Option AObj) (pv : Value) (ws : List (Nat × AObj)) : Prop :=
  ∀ (ρ : Nat → Option Nat) (X : Nat → Prop) (w : World) (vs : List Value), HSim hp ρ X w → RepT ρ X w args vs → (∀ n, n ∈ AV.namesL args → hp n ≠ none) →
    Calls P f vs.toArray w fun e w' => e = .panicked [{ v := pv, recovered := false }] ∧ ∃ ρ' X', HSim (wr hp ws) ρ' X' w' ∧ HEvo hp (wr hp ws) ρ ρ' X X' w w'

theorem St.hp_upd' (S : St) (dst : Option Tmp) (r : AV) (ws : List (Nat × AObj)) : (S.upd dst r ws).hp = wr S.hp ws := by
  funext o
  rw [St.hp_upd]; rfl

/-- From what holds behind a call to the frame behind it. -/
theorem Sim.call {S : St} {ρ ρ' : Nat → Option Nat} {X X' : Nat → Prop} {a : Act} {w w' : World} (hs : Sim S ρ X a w) {dst : Option Tmp} {r : AV} {v : Value} {ws : List (Nat × AObj)}
    (hh : HSim (wr S.hp ws) ρ' X' w') (he : HEvo S.hp (wr S.hp ws) ρ ρ' X X' w w') (hr : RepA ρ' X' w' r v) (hrn : ∀ n, n ∈ r.names → wr S.hp ws n ≠ none) :
    Sim (S.upd dst r ws) ρ' X' (a.put dst v) w' ∧ Evo S (S.upd dst r ws) ρ ρ' X X' w w' := by
  have g : Goes ρ ρ' X X' _ w w' := ⟨he.ext, fun b _ hx hy => by obtain ⟨o, x, h1, h2, h3⟩ := hy; exact hx (hs.own o x b h1 h2 h3), fun b hb h => (he.xs b hb).1 h⟩
  have hhp := St.hp_upd' S dst r ws
  refine ⟨⟨?_, ?_, ?_, ?_, ?_, ?_, ?_⟩, ⟨he.ext, he.xs, fun o x b h1 h2 h3 => he.own o x b (by rw [← hhp]; exact h1) h2 h3, he.same⟩⟩
  · simp only [St.upd, St.n_put, St.write]
    rw [← hs.n]
    cases dst <;> simp [Act.put]
  · intro t u ht
    rcases St.sl_put (S.write ws) dst r t with ⟨h1, h2⟩ | ⟨h1, h2⟩
    · subst h2
      have e : (S.upd (some t) r ws).sl t = r := h1
      rw [e]
      simp only [Act.put, Array.getElem?_setIfInBounds, if_true] at ht
      split at ht
      · cases ht; exact hr
      · cases ht
    · have e : (S.upd dst r ws).sl t = S.sl t := h1
      rw [e]
      have ht' : a.tmps[t]? = some u := by
        cases dst with
        | none => exact ht
        | some d =>
          have hne : d ≠ t := fun e => h2 (by rw [e])
          simpa [Act.put, Array.getElem?_setIfInBounds_ne hne] using ht
      exact (hs.slots t u ht').mono g (fun o ho => he.same o (hs.closedS t o ho))
  · intro o x hx; rw [hhp] at hx; exact hh.objs o x hx
  · intro o o' x x' b h1 h2 h3 h4 h5 h6; rw [hhp] at h1 h3; exact hh.inj o o' x x' b h1 h2 h3 h4 h5 h6
  · intro o x b h1 h2 h3; rw [hhp] at h1; exact hh.own o x b h1 h2 h3
  · intro t o ho
    rw [hhp]
    rcases St.sl_put (S.write ws) dst r t with ⟨h1, _⟩ | ⟨h1, _⟩
    · have e : (S.upd dst r ws).sl t = r := h1
      rw [e] at ho; exact hrn o ho
    · have e : (S.upd dst r ws).sl t = S.sl t := h1
      rw [e] at ho; exact wr_ne (hs.closedS t o ho)
  · intro o x h1 o' ho'; rw [hhp] at h1 ⊢; exact hh.closed o x h1 o' ho'

end Go.Sym

/-
One operation of a region, calls too, by what it looks at: a local step; what is asked of the operations one behind the other ('vcOps').
-/
set_option linter.unusedSimpArgs false
set_option linter.unusedVariables false
namespace Go.Sym

structure Foot where
  rd : List Nat
  wr : List Nat
  nw : List Nat

/-- Two frames are one where an operation looks. -/
structure Agree (ops : Array Oper) (o : Oper) (φ : Foot) (S S' : St) : Prop where
  n : S'.n = S.n
  sl : ∀ t, t ∈ o.looksAt ops → S'.sl t = S.sl t
  rd : ∀ n, n ∈ φ.rd → S'.hp n = S.hp n
  wr : ∀ n, n ∈ φ.wr → S'.hp n = S.hp n
  nw : ∀ n, n ∈ φ.nw → S'.hp n = none

def OpStep (P : Program) (ops : Array Oper) (o : Oper) (S : St) (r : AV) (ws : List (Nat × AObj)) : Prop :=
  ∀ (ρ : Nat → Option Nat) (X : Nat → Prop) (a : Act) (w : World), Sim S ρ X a w →
    (Region.wanted o (yielded ops a.tmps) = true → Does P o a w (fun v w' => ∃ ρ' X', Sim (S.upd o.dst r ws) ρ' X' (a.put o.dst v) w' ∧ Evo S (S.upd o.dst r ws) ρ ρ' X X' w w') (fun _ _ => False)) ∧
    (Region.wanted o (yielded ops a.tmps) = false → r = .tup [] ∧ ws = [])

def OpPan (P : Program) (ops : Array Oper) (o : Oper) (S : St) (pv : Value) (ws : List (Nat × AObj)) : Prop :=
  ∀ (ρ : Nat → Option Nat) (X : Nat → Prop) (a : Act) (w : World), Sim S ρ X a w →
    Region.wanted o (yielded ops a.tmps) = true ∧
    Does P o a w (fun _ _ => False) (fun v w' => v = pv ∧ ∃ ρ' X', Sim (S.upd none .top ws) ρ' X' a w' ∧ Evo S (S.upd none .top ws) ρ ρ' X X' w w')

def LStep (P : Program) (ops : Array Oper) (i : Nat) (S : St) (φ : Foot) (r : AV) (ws : List (Nat × AObj)) : Prop :=
  ∃ o, ops[i]? = some o ∧ (∀ c, o.op ≠ .defer c) ∧ (∀ n, lkp ws n ≠ none → n ∈ φ.wr ∨ n ∈ φ.nw) ∧ (∀ n, n ∈ φ.nw → S.hp n = none) ∧ ∀ S', Agree ops o φ S S' → OpStep P ops o S' r ws

def LPan (P : Program) (ops : Array Oper) (i : Nat) (S : St) (φ : Foot) (pv : Value) (ws : List (Nat × AObj)) : Prop :=
  ∃ o, ops[i]? = some o ∧ (∀ c, o.op ≠ .defer c) ∧ (∀ n, n ∈ φ.nw → S.hp n = none) ∧ ∀ S', Agree ops o φ S S' → OpPan P ops o S' pv ws

/-! ### Calls -/

def calleeOf (S : St) : Op → Option (FuncId × List AV)
  | .call c => match c.callee with
    | .value x => match S.ev x with
      | .fn (.func f) caps => bif caps.all AV.single then some (f, c.args.toList.map S.ev ++ caps) else none
      | _ => none
    | _ => none
  | _ => none

def callable (P : Program) (f : FuncId) : Bool := match P.funcs[f]? with
  | some fn => fn.body.isSome && fn.name != "runtime.NumGoroutine"
  | none => false

theorem callable_run {P : Program} {f : FuncId} (h : callable P f = true) (args : Array Value) (w : World) : (callFunc f args).run P w = .ok (.enter f args) w := by
  unfold callable at h
  split at h <;> try (cases h; done)
  rename_i fn hf
  simp only [Bool.and_eq_true, bne_iff_ne, ne_eq] at h
  simp only [callFunc, program]
  rw [Sem.run_bind]
  simp only [Sem.run, Result.andThen, hf]
  have h1 : (fn.name == "runtime.NumGoroutine") = false := by simpa using h.2
  have h2 : fn.body.isNone = false := by cases hb : fn.body <;> simp [hb] at h ⊢
  simp [h1, h2]

def LocalCall (P : Program) (f : FuncId) (args : List AV) (pre : List (Nat × AObj)) (nw : List Nat) (r : AV) (ws : List (Nat × AObj)) : Prop :=
  ∀ hp : Nat → Option AObj, (∀ p, p ∈ pre → hp p.1 = some p.2) → (∀ n, n ∈ nw → hp n = none) → CallOK P f args hp r ws

def LocalPan (P : Program) (f : FuncId) (args : List AV) (pre : List (Nat × AObj)) (nw : List Nat) (pv : Value) (ws : List (Nat × AObj)) : Prop :=
  ∀ hp : Nat → Option AObj, (∀ p, p ∈ pre → hp p.1 = some p.2) → (∀ n, n ∈ nw → hp n = none) → PanOK P f args hp pv ws

def preOK (hp : Nat → Option AObj) : List (Nat × AObj) → Prop
  | [] => True
  | p :: l => hp p.1 = some p.2 ∧ preOK hp l

theorem preOK_spec {hp : Nat → Option AObj} : ∀ {l : List (Nat × AObj)}, preOK hp l → ∀ p, p ∈ l → hp p.1 = some p.2
  | [], _, p, h => by cases h
  | q :: l, ⟨h1, h2⟩, p, h => by
    rcases List.mem_cons.1 h with rfl | h
    · exact h1
    · exact preOK_spec h2 p h

/-- The names are as they must be. -/
def okNames (hp : Nat → Option AObj) (pre : List (Nat × AObj)) (fz nw : List Nat) (ws : List (Nat × AObj)) : Bool :=
  ws.all (fun p => (pre.map (·.1)).contains p.1 || nw.contains p.1) && pre.all (fun p => !fz.contains p.1) && nw.all (fun n => (hp n).isNone)

theorem elsOf_congr {hp hp' : Nat → Option AObj} {x : AV} (h : ∀ n, n ∈ x.names → hp' n = hp n) : elsOf hp' x = elsOf hp x := by
  cases x with
  | sl o p e off len => simp only [elsOf, h o (by simp [AV.names])]
  | d y => cases y <;> rfl
  | cst v => cases v <;> first | rfl | (rename_i a n c; cases n <;> rfl)
  | _ => rfl

mutual
theorem toD_congr {hp hp' : Nat → Option AObj} : ∀ {x : AV}, (∀ n, n ∈ x.names → hp' n = hp n) → toD hp' x = toD hp x
  | .sl o p e off len, h => by simp only [toD, elsOf_congr h]
  | .d y, _ => by cases y <;> simp only [toD]
  | .st fs, h => by simp only [toD]; rw [toDs_congr (xs := fs) (by simpa only [AV.names] using h)]
  | .ptr _ _, _ => by simp only [toD]
  | .dptr _, _ => by simp only [toD]
  | .fn _ _, _ => by simp only [toD]
  | .tup _, _ => by simp only [toD]
  | .top, _ => by simp only [toD]
  | .cst _, _ => by simp only [toD]
theorem toDs_congr {hp hp' : Nat → Option AObj} : ∀ {xs : List AV}, (∀ n, n ∈ AV.namesL xs → hp' n = hp n) → toDs hp' xs = toDs hp xs
  | [], _ => by simp only [toDs]
  | x :: xs, h => by
    simp only [toDs]
    rw [toD_congr (x := x) fun n hn => h n (by simp [AV.namesL, hn]), toDs_congr (xs := xs) fun n hn => h n (by simp [AV.namesL, hn])]
end

theorem cvt_congr {hp hp' : Nat → Option AObj} : ∀ {xs : List AV} {ms : List Bool}, (∀ n, n ∈ AV.namesL xs → hp' n = hp n) → cvt hp' ms xs = cvt hp ms xs
  | [], ms, _ => by cases ms <;> rfl
  | x :: xs, [], h => by simp only [cvt, cvt_congr (xs := xs) (ms := []) fun n hn => h n (by simp [AV.namesL, hn])]
  | x :: xs, m :: ms, h => by
    simp only [cvt, cvt_congr (xs := xs) (ms := ms) fun n hn => h n (by simp [AV.namesL, hn])]
    rw [toD_congr (x := x) fun n hn => h n (by simp [AV.namesL, hn])]

theorem St.ev_put_ne {S : St} {S' : St} (hn : S'.n = S.n) {x : Operand} (h : ∀ t, x = .tmp t → S'.sl t = S.sl t) : S'.ev x = S.ev x := by
  cases x with
  | tmp t => simp only [St.ev, hn, h t rfl]
  | _ => rfl

theorem Agree.ev {ops : Array Oper} {o : Oper} {φ : Foot} {S S' : St} (h : Agree ops o φ S S') : ∀ x, x ∈ o.op.operands → S'.ev x = S.ev x := by
  intro x hx
  refine St.ev_put_ne h.n fun t ht => h.sl t ?_
  subst ht
  unfold Oper.looksAt
  refine List.mem_append_left _ (List.mem_filterMap.2 ⟨.tmp t, by simpa using hx, rfl⟩)

/-- A frame with what was let go, and a call behind it. -/
theorem Sim.killCall {S : St} {ρ ρ' : Nat → Option Nat} {X X' : Nat → Prop} {a : Act} {w w' : World} (hs : Sim S ρ X a w) {fz : List Nat} {dst : Option Tmp} {r : AV} {v : Value} {ws : List (Nat × AObj)}
    (hh : HSim (wr (wr S.hp (deads fz)) ws) ρ' X' w') (he : HEvo (wr S.hp (deads fz)) (wr (wr S.hp (deads fz)) ws) ρ ρ' (less S.hp ρ X fz) X' w w') (hr : RepA ρ' X' w' r v) (hrn : ∀ n, n ∈ r.names → wr (wr S.hp (deads fz)) ws n ≠ none) :
    Sim (S.upd dst r (ws ++ deads fz)) ρ' X' (a.put dst v) w' ∧ Evo S (S.upd dst r (ws ++ deads fz)) ρ ρ' X X' w w' := by
  have hk := hs.kill fz
  have hal : ∀ o x, wr S.hp (deads fz) o = some x → x.alive = true → S.hp o = some x := fun o x h ha => by
    unfold wr at h
    cases hl : lkp (deads fz) o with
    | some y => simp only [hl, Option.some.injEq] at h; subst h; rw [(lkp_deads hl).1] at ha; cases ha
    | none => simpa only [hl] using h
  obtain ⟨h1, h2⟩ := hk.call (dst := dst) (r := r) (v := v) (ws := ws) hh he hr hrn
  rw [St.upd_append] at h1 h2
  refine ⟨h1, ⟨h2.ext.mono fun b _ hb => ?_, fun b hb => ⟨fun h => ((h2.xs b hb).1 h).1, fun h => ?_⟩, fun o x b k1 k2 k3 => ?_, fun n hn => h2.same n (wr_ne (ws := deads fz) hn)⟩⟩
  · obtain ⟨o, x, k1, k2, k3⟩ := hb; exact ⟨o, x, hal o x k1 k2, k2, k3⟩
  · by_cases hl : less S.hp ρ X fz b
    · rcases (h2.xs b hb).2 hl with h | ⟨o, x, k1, k2, k3⟩
      · exact .inl h
      · exact .inr ⟨o, x, hal o x k1 k2, k2, k3⟩
    · right
      have : ∃ o x, o ∈ fz ∧ S.hp o = some x ∧ x.alive = true ∧ ρ o = some b := Classical.byContradiction fun hn => hl ⟨h, hn⟩
      obtain ⟨o, x, _, k1, k2, k3⟩ := this
      exact ⟨o, x, k1, k2, k3⟩
  · rcases h2.own o x b k1 k2 k3 with h | ⟨o', x', k1, k2, k3⟩
    · exact .inl h
    · exact .inr ⟨o', x', hal o' x' k1 k2, k2, k3⟩

theorem RepCs.singles {ρ : Nat → Option Nat} {X : Nat → Prop} {w : World} : ∀ {caps : List AV} {vs : List Value}, RepCs ρ X w caps vs → caps.all AV.single = true →
    caps.length = vs.length ∧ ∀ (i : Nat) (y : AV) (v : Value), caps[i]? = some y → vs[i]? = some v → RepA ρ X w y v
  | _, _, .nil, _ => ⟨rfl, fun i y v h => by simp at h⟩
  | _, _, .cons (x := x) (c := c) h hs, ha => by
    simp only [List.all_cons, Bool.and_eq_true] at ha
    obtain ⟨h1, h2⟩ := RepCs.singles hs ha.2
    have hag : x.isAgg = false := by cases x <;> first | rfl | cases ha.1
    obtain ⟨u, rfl⟩ := List.length_eq_one_iff.1 (notAgg_size h hag)
    refine ⟨by simp [h1], fun i y v hy hv => ?_⟩
    cases i with
    | zero =>
      simp only [List.getElem?_cons_zero, Option.some.injEq] at hy
      simp at hv
      subst hy; subst hv
      have := repA_of_c h
      rw [hag] at this
      exact this
    | succ i =>
      simp only [List.getElem?_cons_succ] at hy
      simp at hv
      exact h2 i y v hy hv

theorem evals_rep {S : St} {ρ : Nat → Option Nat} {X : Nat → Prop} {a : Act} {w : World} (hs : Sim S ρ X a w) {c : Call} {x : Operand} {f : FuncId} {caps : List AV} (hx : S.ev x = .fn (.func f) caps) (hsg : caps.all AV.single = true) :
    ∃ cvs : List Value, a.eval x = .func (.func f) #[] cvs.toArray ∧ (c.args.toList.map S.ev ++ caps).length = (c.args.toList.map a.eval ++ cvs).length ∧
      (∀ (i : Nat) (y : AV) (v : Value), (c.args.toList.map S.ev ++ caps)[i]? = some y → (c.args.toList.map a.eval ++ cvs)[i]? = some v → RepA ρ X w y v) ∧
      ∀ n, n ∈ AV.namesL (c.args.toList.map S.ev ++ caps) → S.hp n ≠ none := by
  have he := hs.ev x
  have hn := hs.evNames x
  rw [hx] at he hn
  obtain ⟨cs, h1, h2⟩ := he
  have nmApp : ∀ {n : Nat} {l m : List AV}, n ∈ AV.namesL (l ++ m) → n ∈ AV.namesL l ∨ n ∈ AV.namesL m := by
    intro n l m
    induction l with
    | nil => intro h; exact .inr h
    | cons y l ih =>
      intro h
      simp only [List.cons_append, AV.namesL, List.mem_append] at h ⊢
      rcases h with h | h
      · exact .inl (.inl h)
      · rcases ih h with h | h
        · exact .inl (.inr h)
        · exact .inr h
  have nmMap : ∀ {n : Nat} {l : List Operand}, n ∈ AV.namesL (l.map S.ev) → S.hp n ≠ none := by
    intro n l
    induction l with
    | nil => intro h; cases h
    | cons y l ih =>
      intro h
      simp only [List.map_cons, AV.namesL, List.mem_append] at h
      rcases h with h | h
      · exact hs.evNames y n h
      · exact ih h
  cases h1 with
  | fn hcs =>
    rename_i vs
    obtain ⟨k1, k2⟩ := hcs.singles hsg
    refine ⟨vs, h2, by simp [k1], fun i y v hy hv => ?_, fun n h => ?_⟩
    · by_cases hi : i < c.args.toList.length
      · rw [List.getElem?_append_left (by simpa using hi)] at hy hv
        rw [List.getElem?_map] at hy hv
        cases hp : c.args.toList[i]? with
        | none => rw [hp] at hy; cases hy
        | some p =>
          rw [hp] at hy hv
          simp only [Option.map_some, Option.some.injEq] at hy hv
          subst hy; subst hv
          exact hs.ev p
      · rw [List.getElem?_append_right (by simp at hi ⊢; omega)] at hy hv
        simp only [List.length_map] at hy hv
        exact k2 _ y v hy hv
    · rcases nmApp h with h | h
      · exact nmMap h
      · exact hn n h

theorem does_call {P : Program} {o : Oper} {S : St} {c : Call} {x : Operand} {a : Act} {w : World} {ρ : Nat → Option Nat} {X : Nat → Prop} (hs : Sim S ρ X a w) (ho : o.op = .call c) (hc : c.callee = .value x) {f : FuncId} {caps : List AV}
    (hx : S.ev x = .fn (.func f) caps) (hsg : caps.all AV.single = true) (hf : callable P f = true) {ms : List Bool} {args' : List AV} {fz : List Nat} {s : Prop} (hcv : cvt S.hp ms (c.args.toList.map S.ev ++ caps) = some (s, args', fz)) (hside : s)
    {R Rp : Value → World → Prop}
    (h : ∀ vs, RepT ρ (less S.hp ρ X fz) w args' vs → (∀ n, n ∈ AV.namesL args' → wr S.hp (deads fz) n ≠ none) → Calls P f vs.toArray w fun e w' => match e with
      | .returned v => R v w'
      | .panicked ch => ∃ pv, ch = [{ v := pv, recovered := false }] ∧ Rp pv w'
      | .outgrown => False) : Does P o a w R Rp := by
  obtain ⟨cvs, e1, e2, e3, e4⟩ := evals_rep hs (c := c) hx hsg
  have hr := cvt_rep hs hcv hside (F := fz) (fun _ h => h) e2 e3
  have hn : ∀ n, n ∈ AV.namesL args' → wr S.hp (deads fz) n ≠ none := fun n hn => wr_ne (e4 n ((cvt_names hcv).1 hn))
  have key := h _ hr hn
  have hrun : (execOp a.eval o).run P w = .ok (.enter f (c.args.toList.map a.eval ++ cvs).toArray) w := by
    simp only [execOp, ho, resolve, hc, e1, Deferred.ofValue]
    rw [run_bind_ok (run_pure _ w)]
    simp only [invoke]
    have : (#[] ++ c.args.map a.eval) ++ cvs.toArray = (c.args.toList.map a.eval ++ cvs).toArray := by
      apply Array.ext'; simp
    rw [this]
    exact callable_run hf _ w
  unfold Does
  rw [hrun]
  exact key

/-! ### Values forced, head first (so that what is computed stays small) -/

def fN (n : Nat) (K : Nat → Prop) : Prop := match n with
  | 0 => K 0
  | n + 1 => K (n + 1)
theorem fN_eq (n : Nat) (K : Nat → Prop) : fN n K = K n := by cases n <;> rfl

def fNs : List Nat → (List Nat → Prop) → Prop
  | [], K => K []
  | n :: l, K => fN n fun m => fNs l fun l' => K (m :: l')
theorem fNs_eq : ∀ (l : List Nat) (K : List Nat → Prop), fNs l K = K l
  | [], _ => rfl
  | n :: l, K => by simp only [fNs, fN_eq, fNs_eq l]

def fK (k : IntKind) (K : IntKind → Prop) : Prop := match k with
  | .i8 => K .i8
  | .i16 => K .i16
  | .i32 => K .i32
  | .i64 => K .i64
  | .u8 => K .u8
  | .u16 => K .u16
  | .u32 => K .u32
  | .u64 => K .u64
theorem fK_eq (k : IntKind) (K : IntKind → Prop) : fK k K = K k := by cases k <;> rfl

mutual
def fD : D → (D → Prop) → Prop
  | .int k n, K => fK k fun k' => K (.int k' n)
  | .bool b, K => K (.bool b)
  | .str s, K => K (.str s)
  | .st fs, K => fDs fs fun fs' => K (.st fs')
  | .arr n e xs, K => fN n fun n' => fN e fun e' => K (.arr n' e' xs)
  | .sl xs, K => K (.sl xs)
  | .nils, K => K .nils
  | .nilp, K => K .nilp
  | .nilf, K => K .nilf
  | .nili, K => K .nili
def fDs : List D → (List D → Prop) → Prop
  | [], K => K []
  | x :: xs, K => fD x fun y => fDs xs fun ys => K (y :: ys)
end

mutual
theorem fD_eq : ∀ (x : D) (K : D → Prop), fD x K = K x
  | .int k n, K => by simp only [fD, fK_eq]
  | .bool _, _ | .str _, _ | .sl _, _ | .nils, _ | .nilp, _ | .nilf, _ | .nili, _ => by simp only [fD]
  | .st fs, K => by simp only [fD]; rw [fDs_eq fs]
  | .arr n e xs, K => by simp only [fD, fN_eq]
theorem fDs_eq : ∀ (xs : List D) (K : List D → Prop), fDs xs K = K xs
  | [], _ => by simp only [fDs]
  | x :: xs, K => by
    simp only [fDs]
    rw [fD_eq x, fDs_eq xs]
end

def fPath : List Stp → (List Stp → Prop) → Prop
  | [], K => K []
  | .fld i o :: p, K => fN i fun i' => fN o fun o' => fPath p fun q => K (.fld i' o' :: q)
  | .ix i e :: p, K => fN e fun e' => fPath p fun q => K (.ix i e' :: q)
theorem fPath_eq : ∀ (p : List Stp) (K : List Stp → Prop), fPath p K = K p
  | [], _ => rfl
  | .fld i o :: p, K => by simp only [fPath, fN_eq, fPath_eq p]
  | .ix i e :: p, K => by simp only [fPath, fN_eq, fPath_eq p]

def fFn (f : Fn) (K : Fn → Prop) : Prop := match f with
  | .func n => fN n fun n => K (.func n)
  | f => K f
theorem fFn_eq (f : Fn) (K : Fn → Prop) : fFn f K = K f := by cases f <;> simp only [fFn, fN_eq]

mutual
def fAV : AV → (AV → Prop) → Prop
  | .d x, K => fD x fun y => K (.d y)
  | .ptr o p, K => fN o fun o' => fPath p fun q => K (.ptr o' q)
  | .sl o p e off len, K => fN o fun o' => fPath p fun q => fN e fun e' => K (.sl o' q e' off len)
  | .st fs, K => fAVs fs fun fs' => K (.st fs')
  | .dptr x, K => fD x fun y => K (.dptr y)
  | .fn f cs, K => fFn f fun f' => fAVs cs fun cs' => K (.fn f' cs')
  | .tup vs, K => fAVs vs fun vs' => K (.tup vs')
  | .top, K => K .top
  | .cst v, K => K (.cst v)
def fAVs : List AV → (List AV → Prop) → Prop
  | [], K => K []
  | x :: xs, K => fAV x fun y => fAVs xs fun ys => K (y :: ys)
end

mutual
theorem fAV_eq : ∀ (x : AV) (K : AV → Prop), fAV x K = K x
  | .d x, K => by simp only [fAV, fD_eq]
  | .ptr o p, K => by simp only [fAV, fN_eq, fPath_eq]
  | .sl o p e off len, K => by simp only [fAV, fN_eq, fPath_eq]
  | .st fs, K => by simp only [fAV]; rw [fAVs_eq fs]
  | .dptr x, K => by simp only [fAV, fD_eq]
  | .fn f cs, K => by simp only [fAV, fFn_eq]; rw [fAVs_eq cs]
  | .tup vs, K => by simp only [fAV]; rw [fAVs_eq vs]
  | .top, K => by simp only [fAV]
  | .cst v, K => by simp only [fAV]
theorem fAVs_eq : ∀ (xs : List AV) (K : List AV → Prop), fAVs xs K = K xs
  | [], _ => by simp only [fAVs]
  | x :: xs, K => by
    simp only [fAVs]
    rw [fAV_eq x, fAVs_eq xs]
end

def fObj : AObj → (AObj → Prop) → Prop
  | .var x, K => fAV x fun y => K (.var y)
  | .row e xs, K => fN e fun e' => K (.row e' xs)
  | .dead, K => K .dead
theorem fObj_eq : ∀ (x : AObj) (K : AObj → Prop), fObj x K = K x
  | .var x, K => by simp only [fObj, fAV_eq]
  | .row e xs, K => by simp only [fObj, fN_eq]
  | .dead, K => rfl

def fWs : List (Nat × AObj) → (List (Nat × AObj) → Prop) → Prop
  | [], K => K []
  | p :: l, K => fN p.1 fun n => fObj p.2 fun x => fWs l fun l' => K ((n, x) :: l')
theorem fWs_eq : ∀ (l : List (Nat × AObj)) (K : List (Nat × AObj) → Prop), fWs l K = K l
  | [], _ => rfl
  | p :: l, K => by simp only [fWs, fN_eq, fObj_eq, fWs_eq l]

def fFoot (φ : Foot) (K : Foot → Prop) : Prop := fNs φ.rd fun a => fNs φ.wr fun b => fNs φ.nw fun c => K ⟨a, b, c⟩
theorem fFoot_eq (φ : Foot) (K : Foot → Prop) : fFoot φ K = K φ := by simp only [fFoot, fNs_eq]

/-- What is left to be shown by hand; by a computation. -/
structure Side (p : Prop) : Prop where
  h : p
theorem Side_eq (p : Prop) : Side p = p := propext ⟨fun h => h.h, fun h => ⟨h⟩⟩
structure Chk (b : Bool) : Prop where
  h : b = true
theorem Chk_eq (b : Bool) : Chk b = (b = true) := propext ⟨fun h => h.h, fun h => ⟨h⟩⟩
/-- What is looked at later (a wall for whoever computes). -/
structure Later (p : Prop) : Prop where
  h : p
theorem Later_eq (p : Prop) : Later p = p := propext ⟨fun h => h.h, fun h => ⟨h⟩⟩

end Go.Sym
