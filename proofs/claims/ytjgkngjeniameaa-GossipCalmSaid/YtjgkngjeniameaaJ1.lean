import Derived.Calls
import Derived.Orders
import Derived.Laws.World
import Derived.Laws.Cells
import Derived.Laws.Tables
import Derived.Laws.Entries
import Derived.Laws.CopyRow
import Derived.Laws.Append
import Derived.Laws.BytesString
import Derived.Laws.IdiomStrings
import Derived.Laws.MakeOwn
import Derived.Laws.StructEq
import Derived.ChangeKeysEq
set_option linter.unusedSimpArgs false
set_option linter.unusedVariables false
namespace Go.Sym
inductive D where
  | int (k : IntKind) (n : Int)
  | bool (b : Bool)
  | str (s : ByteArray)
  | st (fs : List D)
  | arr (n e : Nat) (xs : List D)
  | sl (xs : List D)
  | nils | nilp | nilf | nili
  deriving Inhabited
mutual
def D.size : D → Nat
  | .st fs => D.sizes fs
  | .arr n e _ => n * e
  | _ => 1
def D.sizes : List D → Nat
  | [] => 0
  | x :: xs => D.size x + D.sizes xs
end
def D.isAgg : D → Bool
  | .st _ => true
  | .arr _ _ _ => true
  | _ => false
def D.els : D → List D
  | .arr _ _ xs => xs
  | .sl xs => xs
  | _ => []
def D.toInt : D → Int
  | .int _ n => n
  | _ => 0
def D.toBool : D → Bool
  | .bool b => b
  | _ => false
def D.toStr : D → ByteArray
  | .str s => s
  | _ => .empty
def D.fld : D → Nat → D
  | .st fs, i => fs.getD i .nilp
  | _, _ => .nilp
structure Ext (Y : Nat → Prop) (w w' : World) : Prop where
  os : w'.os = w.os
  tape : w'.tape = w.tape
  output : w'.output = w.output
  size : w.heap.size ≤ w'.heap.size
  keep : ∀ b, b < w.heap.size → ¬ Y b → w'.heap[b]? = w.heap[b]?
  shape : ∀ (b : Nat) (c : Array Value) (T : TypeId) (z : Nat × Nat), w.heap[b]? = some (.cells c T z) → ∃ (c' : Array Value) (z' : Nat × Nat), w'.heap[b]? = some (.cells c' T z') ∧ c'.size = c.size
theorem Ext.refl (Y : Nat → Prop) (w : World) : Ext Y w w :=
  ⟨rfl, rfl, rfl, Nat.le_refl _, fun _ _ _ => rfl, fun _ c _ z h => ⟨c, z, h, rfl⟩⟩
theorem Ext.trans {Y : Nat → Prop} {a b c : World} (h : Ext Y a b) (k : Ext Y b c) : Ext Y a c :=
  ⟨k.os.trans h.os, k.tape.trans h.tape, k.output.trans h.output, Nat.le_trans h.size k.size,
   fun i hi hy => (k.keep i (Nat.lt_of_lt_of_le hi h.size) hy).trans (h.keep i hi hy),
   fun b c T z hb => by
    obtain ⟨c1, z1, h1, e1⟩ := h.shape b c T z hb
    obtain ⟨c2, z2, h2, e2⟩ := k.shape b c1 T z1 h1
    exact ⟨c2, z2, h2, e2.trans e1⟩⟩
theorem Ext.mono {Y Y' : Nat → Prop} {w w' : World} (h : Ext Y w w') (hy : ∀ b, b < w.heap.size → Y b → Y' b) : Ext Y' w w' :=
  ⟨h.os, h.tape, h.output, h.size, fun b hb hn => h.keep b hb (fun k => hn (hy b hb k)), h.shape⟩
theorem Ext.trans' {Y Y' : Nat → Prop} {a b c : World} (h : Ext Y a b) (k : Ext Y' b c) (hy : ∀ i, i < a.heap.size → Y' i → Y i) : Ext Y a c :=
  ⟨k.os.trans h.os, k.tape.trans h.tape, k.output.trans h.output, Nat.le_trans h.size k.size,
   fun i hi hn => (k.keep i (Nat.lt_of_lt_of_le hi h.size) (fun hk => hn (hy i hi hk))).trans (h.keep i hi hn),
   fun b c T z hb => by
    obtain ⟨c1, z1, h1, e1⟩ := h.shape b c T z hb
    obtain ⟨c2, z2, h2, e2⟩ := k.shape b c1 T z1 h1
    exact ⟨c2, z2, h2, e2.trans e1⟩⟩
theorem Ext.drew (Y : Nat → Prop) (w : World) : Ext Y w { w with drawn := w.drawn + 1 } :=
  ⟨rfl, rfl, rfl, Nat.le_refl _, fun _ _ _ => rfl, fun _ c _ z h => ⟨c, z, h, rfl⟩⟩
theorem Ext.alloc (Y : Nat → Prop) (w : World) (o : Obj) : Ext Y w (w.alloc o) := by
  have hk : ∀ b, b < w.heap.size → (w.alloc o).heap[b]? = w.heap[b]? := fun b hb => by
    show (w.heap.push o)[b]? = _
    rw [Array.getElem?_push, if_neg (by omega)]
  refine ⟨rfl, rfl, rfl, by simp, fun b hb _ => hk b hb, fun b c T z h => ⟨c, z, ?_, rfl⟩⟩
  have hb : b < w.heap.size := by
    rcases Nat.lt_or_ge b w.heap.size with h' | h'
    · exact h'
    · rw [Array.getElem?_eq_none h'] at h; cases h
  rw [hk b hb, h]
def isCell : Value → Bool
  | .agg _ => false
  | .tuple _ => false
  | _ => true
def RowAt (w : World) (b off : Nat) (cs : List Value) : Prop := ∀ i v, cs[i]? = some v → w.cell? ⟨b, off + i, none⟩ = some v
theorem cell?_of_heap {w w' : World} {b o : Nat} (h : w'.heap[b]? = w.heap[b]?) : w'.cell? ⟨b, o, none⟩ = w.cell? ⟨b, o, none⟩ := by
  simp only [World.cell?, h]
mutual
inductive RepD (X : Nat → Prop) (w : World) : D → List Value → Prop
  | int (k : IntKind) (n : Int) : RepD X w (.int k n) [.int k n]
  | bool (b : Bool) : RepD X w (.bool b) [.bool b]
  | str (s : ByteArray) : RepD X w (.str s) [.string s]
  | st {fs : List D} {cs : List Value} : RepL X w fs cs → RepD X w (.st fs) cs
  | arr {n e : Nat} {xs : List D} {cs : List Value} : xs.length = n → (∀ x, x ∈ xs → x.size = e) → RepL X w xs cs → RepD X w (.arr n e xs) cs
  | slnil {a : Option Addr} {cap : Nat} : RepD X w (.sl []) [.slice a 0 cap]
  | sl {b off cap e : Nat} {xs : List D} {cs : List Value} : ¬ X b → b < w.heap.size → (∀ x, x ∈ xs → x.size = e) → xs.length ≤ cap →
      RowAt w b off cs → RepL X w xs cs → RepD X w (.sl xs) [.slice (some ⟨b, off, none⟩) xs.length cap]
  | nils : RepD X w .nils [.slice none 0 0]
  | nilp : RepD X w .nilp [.pointer none]
  | nilf : RepD X w .nilf [.nilFunc]
  | nili : RepD X w .nili [.nilIface]
inductive RepL (X : Nat → Prop) (w : World) : List D → List Value → Prop
  | nil : RepL X w [] []
  | cons {x : D} {xs : List D} {c cs : List Value} : RepD X w x c → RepL X w xs cs → RepL X w (x :: xs) (c ++ cs)
end
theorem D.sizes_const {e : Nat} : ∀ (xs : List D), (∀ x, x ∈ xs → x.size = e) → D.sizes xs = xs.length * e
  | [], _ => by show 0 = 0 * e; omega
  | x :: xs, h => by
    show D.size x + D.sizes xs = _
    simp only [List.length_cons, Nat.succ_mul]
    rw [h x (by simp), D.sizes_const xs (fun y hy => h y (by simp [hy]))]
    omega
mutual
theorem RepD.length {X : Nat → Prop} {w : World} : ∀ {x : D} {cs : List Value}, RepD X w x cs → cs.length = x.size
  | _, _, .int _ _ | _, _, .bool _ | _, _, .str _ | _, _, .slnil | _, _, .sl _ _ _ _ _ _ | _, _, .nils | _, _, .nilp | _, _, .nilf | _, _, .nili => rfl
  | _, _, .st h => RepL.length h
  | _, _, .arr hn he h => by
    rw [RepL.length h, D.sizes_const _ he, hn]; rfl
theorem RepL.length {X : Nat → Prop} {w : World} : ∀ {xs : List D} {cs : List Value}, RepL X w xs cs → cs.length = D.sizes xs
  | _, _, .nil => rfl
  | _, _, .cons h hs => by rw [List.length_append, RepD.length h, RepL.length hs]; rfl
end
mutual
theorem RepD.mono {X X' Y : Nat → Prop} {w w' : World} (he : Ext Y w w') (hY : ∀ b, b < w.heap.size → ¬ X b → ¬ Y b) (hX : ∀ b, b < w.heap.size → X' b → X b) :
    ∀ {x : D} {cs : List Value}, RepD X w x cs → RepD X' w' x cs
  | _, _, .int k n => .int k n
  | _, _, .bool b => .bool b
  | _, _, .str s => .str s
  | _, _, .slnil => .slnil
  | _, _, .nils => .nils
  | _, _, .nilp => .nilp
  | _, _, .nilf => .nilf
  | _, _, .nili => .nili
  | _, _, .st h => .st (RepL.mono he hY hX h)
  | _, _, .arr hn hs h => .arr hn hs (RepL.mono he hY hX h)
  | _, _, .sl h1 h2 h3 h4 h5 h6 => .sl (fun hx => h1 (hX _ h2 hx)) (Nat.lt_of_lt_of_le h2 he.size) h3 h4
      (fun i v hv => by rw [cell?_of_heap (he.keep _ h2 (hY _ h2 h1))]; exact h5 i v hv) (RepL.mono he hY hX h6)
theorem RepL.mono {X X' Y : Nat → Prop} {w w' : World} (he : Ext Y w w') (hY : ∀ b, b < w.heap.size → ¬ X b → ¬ Y b) (hX : ∀ b, b < w.heap.size → X' b → X b) :
    ∀ {xs : List D} {cs : List Value}, RepL X w xs cs → RepL X' w' xs cs
  | _, _, .nil => .nil
  | _, _, .cons h hs => .cons (RepD.mono he hY hX h) (RepL.mono he hY hX hs)
end
def wrapV (agg : Bool) (cs : List Value) : Value := if agg then .agg cs.toArray else cs.headD undef
theorem wrapV_cells {X : Nat → Prop} {w : World} {x : D} {cs : List Value} (h : RepD X w x cs) : (wrapV x.isAgg cs).cells.toList = cs := by
  cases h <;> simp [wrapV, D.isAgg, Value.cells]
mutual
theorem RepD.cell {X : Nat → Prop} {w : World} : ∀ {x : D} {cs : List Value}, RepD X w x cs → ∀ v, v ∈ cs → isCell v = true
  | _, _, .int _ _, _, h | _, _, .bool _, _, h | _, _, .str _, _, h | _, _, .slnil, _, h | _, _, .sl _ _ _ _ _ _, _, h | _, _, .nils, _, h | _, _, .nilp, _, h | _, _, .nilf, _, h
  | _, _, .nili, _, h => by simp only [List.mem_singleton] at h; subst h; rfl
  | _, _, .st h, v, hv => RepL.cell h v hv
  | _, _, .arr _ _ h, v, hv => RepL.cell h v hv
theorem RepL.cell {X : Nat → Prop} {w : World} : ∀ {xs : List D} {cs : List Value}, RepL X w xs cs → ∀ v, v ∈ cs → isCell v = true
  | _, _, .nil, v, hv => by simp at hv
  | _, _, .cons h hs, v, hv => by
    rcases List.mem_append.1 hv with hv | hv
    · exact RepD.cell h v hv
    · exact RepL.cell hs v hv
end
theorem RepL.append {X : Nat → Prop} {w : World} : ∀ {xs : List D} {cs : List Value} {ys : List D} {ds : List Value}, RepL X w xs cs → RepL X w ys ds → RepL X w (xs ++ ys) (cs ++ ds)
  | _, _, _, _, .nil, h => by simpa using h
  | _, _, _, _, .cons h hs, k => by rw [List.cons_append, List.append_assoc]; exact .cons h (hs.append k)
theorem RepL.split {X : Nat → Prop} {w : World} : ∀ {xs ys : List D} {cs : List Value}, RepL X w (xs ++ ys) cs → ∃ c d, cs = c ++ d ∧ RepL X w xs c ∧ RepL X w ys d
  | [], _, cs, h => ⟨[], cs, rfl, .nil, h⟩
  | x :: xs, ys, _, .cons h hs => by
    obtain ⟨c, d, e, h1, h2⟩ := RepL.split hs
    exact ⟨_, d, by rw [e, List.append_assoc], .cons h h1, h2⟩
theorem RepL.at {X : Nat → Prop} {w : World} {e : Nat} : ∀ {xs : List D} {cs : List Value} {i : Nat} {x : D}, RepL X w xs cs → (∀ x, x ∈ xs → x.size = e) → xs[i]? = some x →
    RepD X w x ((cs.drop (i * e)).take e) := by
  intro xs cs i x h he hi
  have hlt : i < xs.length := (List.getElem?_eq_some_iff.1 hi).1
  have hx : x ∈ xs := List.mem_of_getElem? hi
  have hsplit : xs = xs.take i ++ x :: xs.drop (i + 1) := by
    have : xs[i] = x := (List.getElem?_eq_some_iff.1 hi).2
    rw [← this, List.getElem_cons_drop, List.take_append_drop]
  rw [hsplit] at h
  obtain ⟨c, d, rfl, h1, h2⟩ := RepL.split h
  have hc : c.length = i * e := by
    rw [h1.length, D.sizes_const _ (fun y hy => he y (List.mem_of_mem_take hy)), List.length_take, Nat.min_eq_left (by omega)]
  cases h2 with
  | cons hd hr =>
    rename_i c1 c2
    have hl : c1.length = e := by rw [hd.length]; exact he x hx
    rw [List.drop_append, List.drop_of_length_le (by omega)]
    simp only [hc, Nat.sub_self, List.drop_zero, List.nil_append]
    rw [List.take_append_of_le_length (by omega), List.take_of_length_le (by omega)]
    exact hd
end Go.Sym

namespace Go.Sym
inductive Stp where
  | fld (i off : Nat)
  | ix (i e : Nat)
def Stp.off : Stp → Nat
  | .fld _ o => o
  | .ix i e => i * e
def pOff : List Stp → Nat
  | [] => 0
  | s :: p => s.off + pOff p
theorem pOff_append : ∀ (p q : List Stp), pOff (p ++ q) = pOff p + pOff q
  | [], q => by simp [pOff]
  | s :: p, q => by simp [pOff, pOff_append p q]; omega
inductive AV where
  | d (x : D)
  | ptr (o : Nat) (p : List Stp)
  | sl (o : Nat) (p : List Stp) (e off len : Nat)
  | st (fs : List AV)
  | dptr (x : D)
  | fn (f : Fn) (cs : List AV)
  | cst (v : Value)
  | tup (vs : List AV)
  | top
  deriving Inhabited
inductive AObj where
  | var (x : AV)
  | row (e : Nat) (xs : List D)
  | dead
  deriving Inhabited
def AObj.alive : AObj → Bool
  | .dead => false
  | _ => true
mutual
def AV.size : AV → Nat
  | .d x => x.size
  | .st fs => AV.sizes fs
  | _ => 1
def AV.sizes : List AV → Nat
  | [] => 0
  | x :: xs => AV.size x + AV.sizes xs
end
mutual
def AV.names : AV → List Nat
  | .ptr o _ => [o]
  | .sl o _ _ _ _ => [o]
  | .st fs => AV.namesL fs
  | .fn _ cs => AV.namesL cs
  | .tup vs => AV.namesL vs
  | _ => []
def AV.namesL : List AV → List Nat
  | [] => []
  | x :: xs => AV.names x ++ AV.namesL xs
end
def AObj.names : AObj → List Nat
  | .var x => x.names
  | _ => []
def AV.isAgg : AV → Bool
  | .d x => x.isAgg
  | .st _ => true
  | _ => false
structure St where
  n : Nat
  sl : Nat → AV
  hp : Nat → Option AObj
mutual
inductive RepC (ρ : Nat → Option Nat) (X : Nat → Prop) (w : World) : AV → List Value → Prop
  | d {x : D} {cs : List Value} : RepD X w x cs → RepC ρ X w (.d x) cs
  | ptr {o b : Nat} (p : List Stp) : ρ o = some b → RepC ρ X w (.ptr o p) [.pointer (some ⟨b, pOff p, none⟩)]
  | sl {o b : Nat} {p : List Stp} {e off len cap q : Nat} {c : Array Value} {T : TypeId} {z : Nat × Nat} : ρ o = some b → w.heap[b]? = some (.cells c T z) →
      pOff p + (off + cap) * e ≤ c.size → len ≤ cap → (cap = 0 ∨ q = pOff p + off * e) → RepC ρ X w (.sl o p e off len) [.slice (some ⟨b, q, none⟩) len cap]
  | slnil {o : Nat} {p : List Stp} {e off : Nat} : ρ o = none → RepC ρ X w (.sl o p e off 0) [.slice none 0 0]
  | st {fs : List AV} {cs : List Value} : RepCs ρ X w fs cs → RepC ρ X w (.st fs) cs
  | dptr {b q : Nat} {x : D} {cs : List Value} : ¬ X b → b < w.heap.size → RowAt w b q cs → RepD X w x cs → RepC ρ X w (.dptr x) [.pointer (some ⟨b, q, none⟩)]
  | fn {f : Fn} {fs : List AV} {cs : List Value} : RepCs ρ X w fs cs → RepC ρ X w (.fn f fs) [.func f #[] cs.toArray]
  | top {v : Value} : isCell v = true → RepC ρ X w .top [v]
  | cst {v : Value} : isCell v = true → RepC ρ X w (.cst v) [v]
inductive RepCs (ρ : Nat → Option Nat) (X : Nat → Prop) (w : World) : List AV → List Value → Prop
  | nil : RepCs ρ X w [] []
  | cons {x : AV} {xs : List AV} {c cs : List Value} : RepC ρ X w x c → RepCs ρ X w xs cs → RepCs ρ X w (x :: xs) (c ++ cs)
end
mutual
theorem RepC.length {ρ : Nat → Option Nat} {X : Nat → Prop} {w : World} : ∀ {x : AV} {cs : List Value}, RepC ρ X w x cs → cs.length = x.size
  | _, _, .d h => h.length
  | _, _, .ptr _ _ | _, _, .sl _ _ _ _ _ | _, _, .slnil _ | _, _, .dptr _ _ _ _ | _, _, .fn _ | _, _, .top _ | _, _, .cst _ => rfl
  | _, _, .st h => RepCs.length h
theorem RepCs.length {ρ : Nat → Option Nat} {X : Nat → Prop} {w : World} : ∀ {xs : List AV} {cs : List Value}, RepCs ρ X w xs cs → cs.length = AV.sizes xs
  | _, _, .nil => rfl
  | _, _, .cons h hs => by rw [List.length_append, RepC.length h, RepCs.length hs]; rfl
end
mutual
theorem RepC.cell {ρ : Nat → Option Nat} {X : Nat → Prop} {w : World} : ∀ {x : AV} {cs : List Value}, RepC ρ X w x cs → ∀ v, v ∈ cs → isCell v = true
  | _, _, .d h, v, hv => h.cell v hv
  | _, _, .ptr _ _, _, h | _, _, .sl _ _ _ _ _, _, h | _, _, .slnil _, _, h | _, _, .dptr _ _ _ _, _, h | _, _, .fn _, _, h => by simp only [List.mem_singleton] at h; subst h; rfl
  | _, _, .top k, _, h => by simp only [List.mem_singleton] at h; subst h; exact k
  | _, _, .cst k, _, h => by simp only [List.mem_singleton] at h; subst h; exact k
  | _, _, .st h, v, hv => RepCs.cell h v hv
theorem RepCs.cell {ρ : Nat → Option Nat} {X : Nat → Prop} {w : World} : ∀ {xs : List AV} {cs : List Value}, RepCs ρ X w xs cs → ∀ v, v ∈ cs → isCell v = true
  | _, _, .nil, v, hv => by simp at hv
  | _, _, .cons h hs, v, hv => by
    rcases List.mem_append.1 hv with hv | hv
    · exact RepC.cell h v hv
    · exact RepCs.cell hs v hv
end
structure Goes (ρ ρ' : Nat → Option Nat) (X X' Y : Nat → Prop) (w w' : World) : Prop where
  ext : Ext Y w w'
  off : ∀ b, b < w.heap.size → ¬ X b → ¬ Y b
  own : ∀ b, b < w.heap.size → X' b → X b
mutual
theorem RepC.mono {ρ ρ' : Nat → Option Nat} {X X' Y : Nat → Prop} {w w' : World} (g : Goes ρ ρ' X X' Y w w') :
    ∀ {x : AV} {cs : List Value}, (∀ o, o ∈ x.names → ρ' o = ρ o) → RepC ρ X w x cs → RepC ρ' X' w' x cs
  | _, _, _, .d h => .d (h.mono g.ext g.off g.own)
  | .ptr o p, [.pointer _], hn, .ptr _ h => .ptr p (by rw [hn o (by simp [AV.names])]; exact h)
  | .sl o _ _ _ _, [.slice _ _ _], hn, .slnil h => .slnil (by rw [hn o (by simp [AV.names])]; exact h)
  | .sl o _ _ _ _, [.slice _ _ _], hn, .sl h0 h1 h2 h3 h4 => by
    obtain ⟨c', z', hc', hs⟩ := g.ext.shape _ _ _ _ h1
    exact .sl (by rw [hn o (by simp [AV.names])]; exact h0) hc' (by rw [hs]; exact h2) h3 h4
  | _, _, hn, .st h => .st (RepCs.mono g (by simpa [AV.names] using hn) h)
  | _, _, _, .dptr h1 h2 h3 h4 => .dptr (fun hx => h1 (g.own _ h2 hx)) (Nat.lt_of_lt_of_le h2 g.ext.size)
      (fun i v hv => by rw [cell?_of_heap (g.ext.keep _ h2 (g.off _ h2 h1))]; exact h3 i v hv) (h4.mono g.ext g.off g.own)
  | _, _, hn, .fn h => .fn (RepCs.mono g (by simpa [AV.names] using hn) h)
  | _, _, _, .top h => .top h
  | _, _, _, .cst h => .cst h
theorem RepCs.mono {ρ ρ' : Nat → Option Nat} {X X' Y : Nat → Prop} {w w' : World} (g : Goes ρ ρ' X X' Y w w') :
    ∀ {xs : List AV} {cs : List Value}, (∀ o, o ∈ AV.namesL xs → ρ' o = ρ o) → RepCs ρ X w xs cs → RepCs ρ' X' w' xs cs
  | _, _, _, .nil => .nil
  | _, _, hn, .cons h hs => .cons (RepC.mono g (fun o ho => hn o (by simp [AV.namesL, ho])) h) (RepCs.mono g (fun o ho => hn o (by simp [AV.namesL, ho])) hs)
end
def RepA1 (ρ : Nat → Option Nat) (X : Nat → Prop) (w : World) (x : AV) (v : Value) : Prop := ∃ cs, RepC ρ X w x cs ∧ v = wrapV x.isAgg cs
def RepT (ρ : Nat → Option Nat) (X : Nat → Prop) (w : World) : List AV → List Value → Prop
  | [], [] => True
  | x :: xs, v :: vs => RepA1 ρ X w x v ∧ RepT ρ X w xs vs
  | _, _ => False
def RepA (ρ : Nat → Option Nat) (X : Nat → Prop) (w : World) : AV → Value → Prop
  | .top, _ => True
  | .tup vs, v => ∃ us : List Value, v = .tuple us.toArray ∧ RepT ρ X w vs us
  | x, v => RepA1 ρ X w x v
theorem RepA1.mono {ρ ρ' : Nat → Option Nat} {X X' Y : Nat → Prop} {w w' : World} (g : Goes ρ ρ' X X' Y w w') {x : AV} {v : Value}
    (hn : ∀ o, o ∈ x.names → ρ' o = ρ o) (h : RepA1 ρ X w x v) : RepA1 ρ' X' w' x v :=
  let ⟨cs, h1, h2⟩ := h
  ⟨cs, h1.mono g hn, h2⟩
theorem RepT.mono {ρ ρ' : Nat → Option Nat} {X X' Y : Nat → Prop} {w w' : World} (g : Goes ρ ρ' X X' Y w w') : ∀ {xs : List AV} {vs : List Value},
    (∀ o, o ∈ AV.namesL xs → ρ' o = ρ o) → RepT ρ X w xs vs → RepT ρ' X' w' xs vs
  | [], [], _, _ => trivial
  | _ :: _, _ :: _, hn, ⟨h, hs⟩ => ⟨h.mono g (fun o ho => hn o (by simp [AV.namesL, ho])), RepT.mono g (fun o ho => hn o (by simp [AV.namesL, ho])) hs⟩
  | [], _ :: _, _, h => h.elim
  | _ :: _, [], _, h => h.elim
theorem RepA.mono {ρ ρ' : Nat → Option Nat} {X X' Y : Nat → Prop} {w w' : World} (g : Goes ρ ρ' X X' Y w w') {x : AV} {v : Value}
    (hn : ∀ o, o ∈ x.names → ρ' o = ρ o) (h : RepA ρ X w x v) : RepA ρ' X' w' x v := by
  cases x with
  | top => trivial
  | tup vs => obtain ⟨us, h1, h2⟩ := h; exact ⟨us, h1, h2.mono g (by simpa [AV.names] using hn)⟩
  | d _ => exact RepA1.mono g hn h
  | ptr _ _ => exact RepA1.mono g hn h
  | sl _ _ _ _ _ => exact RepA1.mono g hn h
  | st _ => exact RepA1.mono g hn h
  | dptr _ => exact RepA1.mono g hn h
  | fn _ _ => exact RepA1.mono g hn h
  | cst _ => exact RepA1.mono g hn h
def unfrozen (z : Nat × Nat) (n : Nat) : Prop := z.1 = z.2 ∨ n ≤ z.1
def ObjAt (ρ : Nat → Option Nat) (X : Nat → Prop) (w : World) (o : Nat) : AObj → Prop
  | .var x => ∃ (b : Nat) (cs : List Value) (T : TypeId) (z : Nat × Nat), ρ o = some b ∧ w.heap[b]? = some (.cells cs.toArray T z) ∧ unfrozen z cs.length ∧ RepC ρ X w x cs
  | .row e xs => (ρ o = none ∧ xs = []) ∨ ∃ (b : Nat) (cs rest : List Value) (T : TypeId) (z : Nat × Nat), ρ o = some b ∧ w.heap[b]? = some (.cells (cs ++ rest).toArray T z) ∧ unfrozen z (cs ++ rest).length ∧
      RepL X w xs cs ∧ ∀ x, x ∈ xs → x.size = e
  | .dead => True
theorem ObjAt.mono {ρ ρ' : Nat → Option Nat} {X X' Y : Nat → Prop} {w w' : World} (g : Goes ρ ρ' X X' Y w w') {o : Nat} {x : AObj} (ho : ρ' o = ρ o) (hb : ∀ b, ρ o = some b → w'.heap[b]? = w.heap[b]?)
    (hn : ∀ o, o ∈ x.names → ρ' o = ρ o) (h : ObjAt ρ X w o x) : ObjAt ρ' X' w' o x := by
  cases x with
  | var x => obtain ⟨b, cs, T, z, h0, h1, h2, h3⟩ := h; exact ⟨b, cs, T, z, by rw [ho, h0], by rw [hb b h0, h1], h2, h3.mono g hn⟩
  | row e xs =>
    rcases h with ⟨h1, h2⟩ | ⟨b, cs, rest, T, z, h0, h1, h2, h3, h4⟩
    · exact .inl ⟨by rw [ho, h1], h2⟩
    · exact .inr ⟨b, cs, rest, T, z, by rw [ho, h0], by rw [hb b h0, h1], h2, h3.mono g.ext g.off g.own, h4⟩
  | dead => trivial
theorem ObjAt.lt {ρ : Nat → Option Nat} {X : Nat → Prop} {w : World} {o b : Nat} {x : AObj} (h : ObjAt ρ X w o x) (ha : x.alive = true) (hb : ρ o = some b) : b < w.heap.size := by
  have key : ∀ (y : Obj), w.heap[b]? = some y → b < w.heap.size := fun y hy => (Array.getElem?_eq_some_iff.1 hy).1
  cases x with
  | var x =>
    obtain ⟨b', cs, T, z, h0, h1, _⟩ := h
    rw [hb] at h0; cases h0; exact key _ h1
  | row e xs =>
    rcases h with ⟨h1, _⟩ | ⟨b', cs, rest, T, z, h0, h1, _⟩
    · rw [hb] at h1; cases h1
    · rw [hb] at h0; cases h0; exact key _ h1
  | dead => cases ha
structure Sim (S : St) (ρ : Nat → Option Nat) (X : Nat → Prop) (a : Act) (w : World) : Prop where
  n : a.tmps.size = S.n
  slots : ∀ t v, a.tmps[t]? = some v → RepA ρ X w (S.sl t) v
  objs : ∀ o x, S.hp o = some x → ObjAt ρ X w o x
  inj : ∀ o o' x x' b, S.hp o = some x → x.alive = true → S.hp o' = some x' → x'.alive = true → ρ o = some b → ρ o' = some b → o = o'
  own : ∀ o x b, S.hp o = some x → x.alive = true → ρ o = some b → X b
  closedS : ∀ t o, o ∈ (S.sl t).names → S.hp o ≠ none
  closedH : ∀ o x, S.hp o = some x → ∀ o', o' ∈ x.names → S.hp o' ≠ none
def lkp {α : Type} : List (Nat × α) → Nat → Option α
  | [], _ => none
  | (k, v) :: l, t => bif k.beq t then some v else lkp l t
theorem lkp_mem {α : Type} : ∀ {l : List (Nat × α)} {t : Nat} {v : α}, lkp l t = some v → (t, v) ∈ l
  | [], _, _, h => by cases h
  | (k, u) :: l, t, v, h => by
    simp only [lkp] at h
    cases hb : k.beq t with
    | true =>
      rw [hb] at h
      simp only [cond_true, Option.some.injEq] at h
      have := Nat.eq_of_beq_eq_true hb
      subst this; subst h; simp
    | false => rw [hb] at h; exact List.mem_cons_of_mem _ (lkp_mem h)
def St.put (S : St) (dst : Option Tmp) (r : AV) : St :=
  match dst with
  | none => S
  | some d => { S with sl := fun t => bif d.beq t then r else S.sl t }
def St.write (S : St) (ws : List (Nat × AObj)) : St := { S with hp := fun o => match lkp ws o with | some x => some x | none => S.hp o }
def St.upd (S : St) (dst : Option Tmp) (r : AV) (ws : List (Nat × AObj)) : St := (S.write ws).put dst r
theorem St.hp_put (S : St) (dst : Option Tmp) (r : AV) : (S.put dst r).hp = S.hp := by cases dst <;> rfl
theorem St.n_put (S : St) (dst : Option Tmp) (r : AV) : (S.put dst r).n = S.n := by cases dst <;> rfl
theorem St.sl_put (S : St) (dst : Option Tmp) (r : AV) (t : Nat) : (S.put dst r).sl t = r ∧ dst = some t ∨ (S.put dst r).sl t = S.sl t ∧ dst ≠ some t := by
  cases dst with
  | none => exact .inr ⟨rfl, by simp⟩
  | some d =>
    simp only [St.put]
    cases hb : d.beq t with
    | true => have := Nat.eq_of_beq_eq_true hb; subst this; exact .inl ⟨by simp, rfl⟩
    | false => exact .inr ⟨by simp, fun h => by cases h; simp at hb⟩
theorem St.hp_upd (S : St) (dst : Option Tmp) (r : AV) (ws : List (Nat × AObj)) (o : Nat) :
    (S.upd dst r ws).hp o = match lkp ws o with | some x => some x | none => S.hp o := by
  simp only [St.upd, St.hp_put, St.write]
theorem Sim.step {S : St} {ρ ρ' : Nat → Option Nat} {X X' Y : Nat → Prop} {a : Act} {w w' : World} (hs : Sim S ρ X a w) {dst : Option Tmp} {r : AV} {v : Value} {ws : List (Nat × AObj)}
    (hext : Ext Y w w') (hY : ∀ b, Y b → ∃ o x y, lkp ws o = some y ∧ S.hp o = some x ∧ x.alive = true ∧ ρ o = some b)
    (hρ : ∀ o, S.hp o ≠ none → ρ' o = ρ o) (hX : ∀ b, b < w.heap.size → X' b → X b)
    (hX2 : ∀ o x b, lkp ws o = none → S.hp o = some x → x.alive = true → ρ o = some b → X' b)
    (hobj : ∀ o x, lkp ws o = some x → ObjAt ρ' X' w' o x)
    (hown : ∀ o x b, lkp ws o = some x → x.alive = true → ρ' o = some b → X' b)
    (hdist : ∀ o x o' x' b, lkp ws o = some x → x.alive = true → lkp ws o' = some x' → x'.alive = true → ρ' o = some b → ρ' o' = some b → o = o')
    (hsep : ∀ o x o' x' b, lkp ws o = some x → x.alive = true → lkp ws o' = none → S.hp o' = some x' → x'.alive = true → ρ' o = some b → ρ o' = some b → False)
    (hnm : ∀ o x, lkp ws o = some x → ∀ o', o' ∈ x.names → S.hp o' ≠ none ∨ lkp ws o' ≠ none)
    (hr : RepA ρ' X' w' r v) (hrn : ∀ o, o ∈ r.names → S.hp o ≠ none ∨ lkp ws o ≠ none) :
    Sim (S.upd dst r ws) ρ' X' (a.put dst v) w' := by
  have hYX : ∀ b, Y b → X b := fun b hb => by obtain ⟨o, x, y, _, h2, h3, h4⟩ := hY b hb; exact hs.own o x b h2 h3 h4
  have g : Goes ρ ρ' X X' Y w w' := ⟨hext, fun b _ hx hy => hx (hYX b hy), fun b hb hx => hX b hb hx⟩
  have hdom : ∀ o, (S.hp o ≠ none ∨ lkp ws o ≠ none) → (S.upd dst r ws).hp o ≠ none := fun o ho => by
    rw [St.hp_upd]
    cases hl : lkp ws o with
    | some x => simp
    | none => rcases ho with ho | ho
              · exact ho
              · exact absurd hl ho
  have hold : ∀ o x, S.hp o = some x → lkp ws o = none → ObjAt ρ' X' w' o x := fun o x ho hl => by
    have hn : S.hp o ≠ none := by rw [ho]; simp
    cases ha : x.alive with
    | false => cases x <;> first | trivial | cases ha
    | true =>
      refine (hs.objs o x ho).mono g (hρ o hn) (fun b hb => hext.keep _ ((hs.objs o x ho).lt ha hb) fun hy => ?_) (fun o' ho' => hρ o' (hs.closedH o x ho o' ho'))
      obtain ⟨o2, x2, y2, h1, h2, h3, h4⟩ := hY _ hy
      have := hs.inj _ _ _ _ _ h2 h3 ho ha h4 hb
      subst this
      rw [hl] at h1; cases h1
  refine ⟨?_, ?_, ?_, ?_, ?_, ?_, ?_⟩
  · simp only [St.upd, St.n_put, St.write]
    rw [← hs.n]
    cases dst <;> simp [Act.put]
  · intro t u ht
    have key : (S.upd dst r ws).sl t = S.sl t → a.tmps[t]? = some u → RepA ρ' X' w' ((S.upd dst r ws).sl t) u := fun e h => by
      rw [e]; exact (hs.slots t u h).mono g (fun o ho => hρ o (hs.closedS t o ho))
    rcases St.sl_put (S.write ws) dst r t with ⟨h1, h2⟩ | ⟨h1, h2⟩
    · subst h2
      have e : (S.upd (some t) r ws).sl t = r := h1
      rw [e]
      simp only [Act.put, Array.getElem?_setIfInBounds] at ht
      simp only [if_true] at ht
      split at ht
      · cases ht; exact hr
      · cases ht
    · refine key h1 ?_
      cases dst with
      | none => exact ht
      | some d =>
        have hne : d ≠ t := fun e => h2 (by rw [e])
        simpa [Act.put, Array.getElem?_setIfInBounds_ne hne] using ht
  · intro o x hx
    rw [St.hp_upd] at hx
    cases hl : lkp ws o with
    | some y => simp only [hl, Option.some.injEq] at hx; subst hx; exact hobj o y hl
    | none => simp only [hl] at hx; exact hold o x hx hl
  · intro o o' x x' b hx ha hx' ha' he he'
    rw [St.hp_upd] at hx hx'
    cases hl : lkp ws o with
    | some y =>
      simp only [hl, Option.some.injEq] at hx; subst hx
      cases hl' : lkp ws o' with
      | some y' => simp only [hl', Option.some.injEq] at hx'; subst hx'; exact hdist _ _ _ _ _ hl ha hl' ha' he he'
      | none =>
        simp only [hl'] at hx'
        rw [hρ o' (by rw [hx']; simp)] at he'
        exact (hsep _ _ _ _ _ hl ha hl' hx' ha' he he').elim
    | none =>
      simp only [hl] at hx
      cases hl' : lkp ws o' with
      | some y' =>
        simp only [hl', Option.some.injEq] at hx'; subst hx'
        rw [hρ o (by rw [hx]; simp)] at he
        exact (hsep _ _ _ _ _ hl' ha' hl hx ha he' he).elim
      | none =>
        simp only [hl'] at hx'
        rw [hρ o (by rw [hx]; simp)] at he
        rw [hρ o' (by rw [hx']; simp)] at he'
        exact hs.inj _ _ _ _ _ hx ha hx' ha' he he'
  · intro o x b hx ha hb
    rw [St.hp_upd] at hx
    cases hl : lkp ws o with
    | some y => simp only [hl, Option.some.injEq] at hx; subst hx; exact hown o y b hl ha hb
    | none =>
      simp only [hl] at hx
      rw [hρ o (by rw [hx]; simp)] at hb
      exact hX2 o x b hl hx ha hb
  · intro t o ho
    rcases St.sl_put (S.write ws) dst r t with ⟨h1, _⟩ | ⟨h1, _⟩
    · have e : (S.upd dst r ws).sl t = r := h1
      rw [e] at ho
      exact hdom o (hrn o ho)
    · have e : (S.upd dst r ws).sl t = S.sl t := h1
      rw [e] at ho
      exact hdom o (.inl (hs.closedS t o ho))
  · intro o x hx o' ho'
    rw [St.hp_upd] at hx
    cases hl : lkp ws o with
    | some y => simp only [hl, Option.some.injEq] at hx; subst hx; exact hdom o' (hnm o y hl o' ho')
    | none => simp only [hl] at hx; exact hdom o' (.inl (hs.closedH o x hx o' ho'))
end Go.Sym

namespace Go.Sym
section
variable {P : Program}
@[simp] theorem run_pure {α : Type} (x : α) (w : World) : (pure x : Sem α).run P w = .ok x w := rfl
theorem run_bind_ok {α β : Type} {s : Sem α} {f : α → Sem β} {w w' : World} {x : α} (h : s.run P w = .ok x w') : (s >>= f).run P w = (f x).run P w' := by
  rw [Sem.run_bind, h]; rfl
theorem addr_add (b off n : Nat) : (⟨b, off, none⟩ : Addr).add n = ⟨b, off + n, none⟩ := by
  unfold Addr.add
  split
  · subst_vars; rfl
  · rfl
theorem run_loadCells {w : World} {b off : Nat} {cs : List Value} (h : RowAt w b off cs) : (loadCells ⟨b, off, none⟩ cs.length).run P w = .ok cs.toArray w := by
  have key : ∀ (l : List Value) (i : Nat) (acc : Array Value), RowAt w b (off + i) l → (loadCellsFrom ⟨b, off, none⟩ i l.length acc).run P w = .ok (acc ++ l.toArray) w := by
    intro l
    induction l with
    | nil => intro i acc _; simp [loadCellsFrom]
    | cons v l ih =>
      intro i acc hl
      simp only [List.length_cons, loadCellsFrom]
      have h0 : w.cell? ⟨b, off + i, none⟩ = some v := by simpa using hl 0 v rfl
      have hload : (load ((⟨b, off, none⟩ : Addr).add i)).run P w = .ok v w := by
        rw [addr_add]
        simp [load, Sem.run, h0]
      rw [run_bind_ok hload, ih (i + 1) (acc.push v) (fun j u hj => by have := hl (j + 1) u (by simpa using hj); rw [← this]; congr 2; omega)]
      simp
  have := key cs 0 #[] h
  simpa [loadCells] using this
def tyOK (P : Program) (T : TypeId) (n : Nat) (agg : Bool) : Bool :=
  match P.info? T, P.underlying T with
  | some i, some d => i.size.beq n && (match d with | .struct _ => agg | .array _ _ => agg | _ => !agg)
  | _, _ => false
theorem tyOK_size {T : TypeId} {n : Nat} {agg : Bool} (h : tyOK P T n agg = true) (w : World) : (sizeOf T).run P w = .ok n w := by
  unfold tyOK at h
  split at h
  · rename_i i d hi hd
    simp only [Bool.and_eq_true] at h
    have := Nat.eq_of_beq_eq_true h.1
    simp only [sizeOf, typeInfo, program]
    rw [Sem.run_bind]
    simp [Sem.run, Sem.run_bind, hi, this]
  · cases h
theorem tyOK_agg {T : TypeId} {n : Nat} {agg : Bool} (h : tyOK P T n agg = true) (w : World) : (isAgg T).run P w = .ok agg w := by
  unfold tyOK at h
  split at h
  · rename_i i d hi hd
    simp only [Bool.and_eq_true] at h
    simp only [isAgg]
    rw [run_bind_ok (run_underlying hd w)]
    cases d <;> simp at h ⊢ <;> simp [h.2]
  · cases h
theorem run_loadVar {w : World} {b off : Nat} {cs : List Value} {T : TypeId} {agg : Bool} (h : RowAt w b off cs) (ht : tyOK P T cs.length agg = true) (ha : agg = false → cs.length = 1) :
    (loadVar T ⟨b, off, none⟩).run P w = .ok (wrapV agg cs) w := by
  simp only [loadVar]
  rw [run_bind_ok (tyOK_agg ht w)]
  cases agg with
  | true =>
    simp only [if_true]
    rw [run_bind_ok (tyOK_size ht w), run_bind_ok (run_loadCells h)]
    rfl
  | false =>
    simp only [Bool.false_eq_true, if_false]
    obtain ⟨v, rfl⟩ := List.length_eq_one_iff.1 (ha rfl)
    have h0 : w.cell? ⟨b, off, none⟩ = some v := by simpa using h 0 v rfl
    simp [load, Sem.run, h0, wrapV]
theorem run_store {w : World} {a : Addr} {v u : Value} (hv : isCell v = true) (hc : w.cell? a = some u) (hf : w.frozen? a = false) : (store a v).run P w = .ok () (w.setCell a v) := by
  have hv' : v.oneCell' = true := by cases v <;> first | rfl | exact hv
  rw [Go.run_store P w a v .plain hv', hc]
  simp [hf]
def World.lay (w : World) (b : Nat) (cs : List Value) : World := w.setRow b cs.toArray
theorem heap_lay {w : World} {b : Nat} {c : Array Value} {T : TypeId} {z : Nat × Nat} (h : w.heap[b]? = some (.cells c T z)) (cs : List Value) : (World.lay w b cs).heap[b]? = some (.cells cs.toArray T z) :=
  setRow_heap w b c _ T z h
theorem heap_lay_ne (w : World) {b k : Nat} (cs : List Value) (h : k ≠ b) : (World.lay w b cs).heap[k]? = w.heap[k]? := setRow_other w b k _ h
theorem frozen_row {w : World} {b : Nat} {c : Array Value} {T : TypeId} {z : Nat × Nat} (h : w.heap[b]? = some (.cells c T z)) {n : Nat} (hz : unfrozen z n) {i : Nat} (hi : i < n) : w.frozen? ⟨b, i, none⟩ = false := by
  simp only [World.frozen?, h]
  rcases hz with hz | hz
  · simp; omega
  · simp; omega
theorem run_storeCells {b : Nat} {T : TypeId} {z : Nat × Nat} (pre : List Value) (off : Nat) : ∀ (vs old post : List Value) (mid : List Value) (w : World),
    w.heap[b]? = some (.cells (pre ++ mid ++ old ++ post).toArray T z) → unfrozen z (pre ++ mid ++ old ++ post).length → pre.length = off → old.length = vs.length → (∀ v, v ∈ vs → isCell v = true) →
    (storeCells ⟨b, off, none⟩ vs mid.length).run P w = .ok () (World.lay w b (pre ++ mid ++ vs ++ post)) := by
  intro vs
  induction vs with
  | nil =>
    intro old post mid w h _ _ hl _
    have : old = [] := by simpa using hl
    subst this
    simp only [storeCells, run_pure]
    congr 1
    unfold World.lay
    simp only [List.append_nil] at h ⊢
    rw [setRow_self _ _ _ _ _ h]
  | cons v vs ih =>
    intro old post mid w h hz ho hl hc
    match old, hl with
    | u :: old, hl =>
      simp only [List.length_cons, Nat.add_right_cancel_iff] at hl
      have hlen : off + mid.length < (pre ++ mid ++ u :: old ++ post).length := by simp; omega
      have hcell : w.cell? ⟨b, off + mid.length, none⟩ = some u := by
        simp only [World.cell?, h]
        simp only [List.append_assoc, Option.isSome_none, Bool.false_eq_true, if_false, List.getElem?_toArray]
        rw [List.getElem?_append_right (by omega), List.getElem?_append_right (by omega)]
        have : off + mid.length - pre.length - mid.length = 0 := by omega
        rw [this]; rfl
      have hfr := frozen_row h hz hlen
      simp only [storeCells]
      rw [addr_add, run_bind_ok (run_store (hc v (by simp)) hcell hfr)]
      have hset : w.setCell ⟨b, off + mid.length, none⟩ v = World.lay w b (pre ++ (mid ++ [v]) ++ old ++ post) := by
        rw [setCell_eq_setRow _ _ _ _ _ _ _ h]
        unfold World.lay
        congr 1
        rw [List.setIfInBounds_toArray]
        congr 1
        rw [List.append_assoc, List.append_assoc, List.set_append_right _ _ (by omega), List.set_append_right _ _ (by omega)]
        have : off + mid.length - pre.length - mid.length = 0 := by omega
        rw [this]; simp
      rw [hset]
      have h' := heap_lay h (pre ++ (mid ++ [v]) ++ old ++ post)
      have hm : (mid ++ [v]).length = mid.length + 1 := by simp
      rw [← hm, ih old post (mid ++ [v]) _ h' (by simpa using hz) ho hl (fun x hx => hc x (by simp [hx]))]
      congr 1
      unfold World.lay
      rw [setRow_setRow]
      simp
end
end Go.Sym

namespace Go.Sym
def D.nav : D → List Stp → Option (Prop × D)
  | x, [] => some (True, x)
  | .st fs, .fld i off :: p => bif (D.sizes (fs.take i)).beq off then match fs[i]? with
      | some y => D.nav y p
      | none => none
    else none
  | .arr n e xs, .ix i e' :: p => bif e.beq e' then match D.nav (xs.getD i .nilp) p with
      | some (s, y) => some (i < n ∧ s, y)
      | none => none
    else none
  | _, _ => none
def AV.nav : AV → List Stp → Option (Prop × AV)
  | x, [] => some (True, x)
  | .d x, s :: p => match D.nav x (s :: p) with
    | some (q, y) => some (q, .d y)
    | none => none
  | .st fs, .fld i off :: p => bif (AV.sizes (fs.take i)).beq off then match fs[i]? with
      | some y => AV.nav y p
      | none => none
    else none
  | _, _ => none
def D.set : D → List Stp → D → Option (Prop × D)
  | x, [], y => bif x.size.beq y.size && (x.isAgg == y.isAgg) then some (True, y) else none
  | .st fs, .fld i off :: p, y => bif (D.sizes (fs.take i)).beq off then match fs[i]? with
      | some z => match D.set z p y with
        | some (s, z') => some (s, .st (fs.set i z'))
        | none => none
      | none => none
    else none
  | .arr n e xs, [.ix i e'], y => bif e.beq e' && y.size.beq e then some (i < n, .arr n e (xs.set i y)) else none
  | _, _, _ => none
def AV.set : AV → List Stp → AV → Option (Prop × AV)
  | x, [], y => bif x.size.beq y.size && (x.isAgg == y.isAgg) then some (True, y) else none
  | .d x, s :: p, .d y => match D.set x (s :: p) y with
    | some (q, z) => some (q, .d z)
    | none => none
  | .d (.st fs), [.fld i off], y => bif (D.sizes (fs.take i)).beq off then match fs[i]? with
      | some z => bif z.size.beq y.size && (z.isAgg == y.isAgg) then some (True, .st ((fs.map AV.d).set i y)) else none
      | none => none
    else none
  | .st fs, .fld i off :: p, y => bif (AV.sizes (fs.take i)).beq off then match fs[i]? with
      | some z => match AV.set z p y with
        | some (s, z') => some (s, .st (fs.set i z'))
        | none => none
      | none => none
    else none
  | _, _, _ => none
theorem AV.set_fld {fs : List D} {i off : Nat} {y : AV} (hy : ∀ y', y ≠ .d y') : AV.set (.d (.st fs)) [.fld i off] y =
    bif (D.sizes (fs.take i)).beq off then match fs[i]? with
      | some z => bif z.size.beq y.size && (z.isAgg == y.isAgg) then some (True, .st ((fs.map AV.d).set i y)) else none
      | none => none
    else none := by
  cases y <;> first | exact absurd rfl (hy _) | rfl
theorem AV.set_nil {x y : AV} : AV.set x [] y = bif x.size.beq y.size && (x.isAgg == y.isAgg) then some (True, y) else none := by
  cases x <;> rfl
theorem RepL.get {X : Nat → Prop} {w : World} : ∀ {fs : List D} {cs : List Value} {i : Nat} {y : D}, RepL X w fs cs → fs[i]? = some y →
    ∃ pre c post, cs = pre ++ c ++ post ∧ pre.length = D.sizes (fs.take i) ∧ RepD X w y c ∧ ∀ y' c', RepD X w y' c' → RepL X w (fs.set i y') (pre ++ c' ++ post)
  | _, _, _, _, .nil, h => by simp at h
  | _, _, 0, y, .cons (x := x) (cs := cs) h hs, hi => by
    simp only [List.getElem?_cons_zero, Option.some.injEq] at hi
    subst hi
    exact ⟨[], _, cs, by simp, rfl, h, fun y' c' h' => by simpa using RepL.cons h' hs⟩
  | _, _, i + 1, y, .cons (c := c0) h hs, hi => by
    simp only [List.getElem?_cons_succ] at hi
    obtain ⟨pre, c, post, e1, e2, e3, e4⟩ := RepL.get hs hi
    refine ⟨c0 ++ pre, c, post, by rw [e1]; simp, ?_, e3, fun y' c' h' => ?_⟩
    · rw [List.length_append, e2, h.length]; rfl
    · have := RepL.cons h (e4 y' c' h')
      simpa using this
theorem RepCs.get {ρ : Nat → Option Nat} {X : Nat → Prop} {w : World} : ∀ {fs : List AV} {cs : List Value} {i : Nat} {y : AV}, RepCs ρ X w fs cs → fs[i]? = some y →
    ∃ pre c post, cs = pre ++ c ++ post ∧ pre.length = AV.sizes (fs.take i) ∧ RepC ρ X w y c ∧ ∀ y' c', RepC ρ X w y' c' → RepCs ρ X w (fs.set i y') (pre ++ c' ++ post)
  | _, _, _, _, .nil, h => by simp at h
  | _, _, 0, y, .cons (x := x) (cs := cs) h hs, hi => by
    simp only [List.getElem?_cons_zero, Option.some.injEq] at hi
    subst hi
    exact ⟨[], _, cs, by simp, rfl, h, fun y' c' h' => by simpa using RepCs.cons h' hs⟩
  | _, _, i + 1, y, .cons (c := c0) h hs, hi => by
    simp only [List.getElem?_cons_succ] at hi
    obtain ⟨pre, c, post, e1, e2, e3, e4⟩ := RepCs.get hs hi
    refine ⟨c0 ++ pre, c, post, by rw [e1]; simp, ?_, e3, fun y' c' h' => ?_⟩
    · rw [List.length_append, e2, h.length]; rfl
    · have := RepCs.cons h (e4 y' c' h')
      simpa using this
theorem RepL.toC {ρ : Nat → Option Nat} {X : Nat → Prop} {w : World} : ∀ {fs : List D} {cs : List Value}, RepL X w fs cs → RepCs ρ X w (fs.map AV.d) cs
  | _, _, .nil => .nil
  | _, _, .cons h hs => .cons (.d h) (RepL.toC hs)
theorem D.sizes_set {i : Nat} {y : D} : ∀ {xs : List D} {e : Nat}, (∀ x, x ∈ xs → x.size = e) → y.size = e → ∀ x, x ∈ xs.set i y → x.size = e := by
  intro xs e h hy x hx
  rcases List.mem_or_eq_of_mem_set hx with h1 | h1
  · exact h x h1
  · rw [h1]; exact hy
theorem D.nav_rep {X : Nat → Prop} {w : World} : ∀ {p : List Stp} {x y : D} {s : Prop} {cs : List Value}, D.nav x p = some (s, y) → s → RepD X w x cs →
    ∃ pre c post, cs = pre ++ c ++ post ∧ pre.length = pOff p ∧ RepD X w y c := by
  intro p
  induction p with
  | nil =>
    intro x y s cs h _ hr
    simp only [D.nav, Option.some.injEq, Prod.mk.injEq] at h
    obtain ⟨_, rfl⟩ := h
    exact ⟨[], cs, [], by simp, rfl, hr⟩
  | cons st p ih =>
    intro x y s cs h hs hr
    cases x <;> cases st <;> simp only [D.nav] at h <;> try (cases h)
    · rename_i fs i off
      cases hb : (D.sizes (fs.take i)).beq off <;> simp only [hb, cond_true, cond_false] at h <;> try (cases h)
      have hoff := Nat.eq_of_beq_eq_true hb
      split at h <;> try (cases h)
      rename_i z hz
      cases hr with
      | st hl =>
        obtain ⟨pre, c, post, e1, e2, e3, _⟩ := RepL.get hl hz
        obtain ⟨pre', c', post', f1, f2, f3⟩ := ih h hs e3
        refine ⟨pre ++ pre', c', post' ++ post, by rw [e1, f1]; simp, ?_, f3⟩
        rw [List.length_append, e2, f2, hoff]; rfl
    · rename_i n e xs i e'
      cases hb : e.beq e' <;> simp only [hb, cond_true, cond_false] at h <;> try (cases h)
      have he := Nat.eq_of_beq_eq_true hb
      subst he
      split at h <;> try (cases h)
      rename_i s' y' hn
      obtain ⟨hi, hs'⟩ := hs
      cases hr with
      | arr hlen hsz hl =>
        have hx : xs[i]? = some (xs.getD i .nilp) := by
          rw [List.getD_eq_getElem?_getD, List.getElem?_eq_getElem (by omega)]; rfl
        obtain ⟨pre, c, post, e1, e2, e3, _⟩ := RepL.get hl hx
        obtain ⟨pre', c', post', f1, f2, f3⟩ := ih hn hs' e3
        refine ⟨pre ++ pre', c', post' ++ post, by rw [e1, f1]; simp, ?_, f3⟩
        rw [List.length_append, e2, f2, D.sizes_const _ (fun y hy => hsz y (List.mem_of_mem_take hy)), List.length_take, Nat.min_eq_left (by omega)]
        rfl
theorem AV.nav_rep {ρ : Nat → Option Nat} {X : Nat → Prop} {w : World} : ∀ {p : List Stp} {x y : AV} {s : Prop} {cs : List Value}, AV.nav x p = some (s, y) → s → RepC ρ X w x cs →
    ∃ pre c post, cs = pre ++ c ++ post ∧ pre.length = pOff p ∧ RepC ρ X w y c := by
  intro p
  induction p with
  | nil =>
    intro x y s cs h _ hr
    have : x = y := by cases x <;> simp only [AV.nav, Option.some.injEq, Prod.mk.injEq] at h <;> exact h.2
    subst this
    exact ⟨[], cs, [], by simp, rfl, hr⟩
  | cons st p ih =>
    intro x y s cs h hs hr
    cases x with
    | d x =>
      simp only [AV.nav] at h
      split at h <;> try (cases h)
      rename_i hn
      cases hr with
      | d hr =>
        obtain ⟨pre, c, post, e1, e2, e3⟩ := D.nav_rep hn hs hr
        exact ⟨pre, c, post, e1, e2, .d e3⟩
    | st fs =>
      cases st <;> simp only [AV.nav] at h <;> try (cases h)
      rename_i i off
      cases hb : (AV.sizes (fs.take i)).beq off <;> simp only [hb, cond_true, cond_false] at h <;> try (cases h)
      have hoff := Nat.eq_of_beq_eq_true hb
      split at h <;> try (cases h)
      rename_i z hz
      cases hr with
      | st hl =>
        obtain ⟨pre, c, post, e1, e2, e3, _⟩ := RepCs.get hl hz
        obtain ⟨pre', c', post', f1, f2, f3⟩ := ih h hs e3
        refine ⟨pre ++ pre', c', post' ++ post, by rw [e1, f1]; simp, ?_, f3⟩
        rw [List.length_append, e2, f2, hoff]; rfl
    | _ => cases st <;> simp only [AV.nav] at h <;> cases h
theorem D.set_rep {X : Nat → Prop} {w : World} : ∀ {p : List Stp} {x y z : D} {s : Prop} {cs : List Value}, D.set x p y = some (s, z) → s → RepD X w x cs →
    ∃ pre c post, cs = pre ++ c ++ post ∧ pre.length = pOff p ∧ c.length = y.size ∧ ∀ c', RepD X w y c' → RepD X w z (pre ++ c' ++ post) := by
  intro p
  induction p with
  | nil =>
    intro x y z s cs h _ hr
    simp only [D.set] at h
    cases hb : x.size.beq y.size && (x.isAgg == y.isAgg) <;> simp only [hb, cond_true, cond_false] at h <;> try (cases h)
    simp only [Bool.and_eq_true] at hb
    have := Nat.eq_of_beq_eq_true hb.1
    exact ⟨[], cs, [], by simp, rfl, by rw [hr.length, this], fun c' h' => by simpa using h'⟩
  | cons st p ih =>
    intro x y z s cs h hs hr
    cases x <;> cases st <;> try (simp only [D.set] at h; cases h; done)
    · rename_i fs i off
      simp only [D.set] at h
      cases hb : (D.sizes (fs.take i)).beq off <;> simp only [hb, cond_true, cond_false] at h <;> try (cases h)
      have hoff := Nat.eq_of_beq_eq_true hb
      split at h <;> try (cases h)
      rename_i u hu
      split at h <;> try (cases h)
      rename_i hset
      cases hr with
      | st hl =>
        obtain ⟨pre, c, post, e1, e2, e3, e4⟩ := RepL.get hl hu
        obtain ⟨pre', c', post', f1, f2, f3, f4⟩ := ih hset hs e3
        refine ⟨pre ++ pre', c', post' ++ post, by rw [e1, f1]; simp, by rw [List.length_append, e2, f2, hoff]; rfl, f3, fun d hd => ?_⟩
        have := e4 _ _ (f4 d hd)
        exact .st (by simpa using this)
    · rename_i n e xs i e'
      cases p with
      | cons _ _ => simp only [D.set] at h; cases h
      | nil =>
        simp only [D.set] at h
        cases hb : e.beq e' && y.size.beq e <;> simp only [hb, cond_true, cond_false] at h <;> try (cases h)
        simp only [Bool.and_eq_true] at hb
        have he := Nat.eq_of_beq_eq_true hb.1
        have hy := Nat.eq_of_beq_eq_true hb.2
        subst he
        cases hr with
        | arr hlen hsz hl =>
          have hi : i < n := hs
          have hx : xs[i]? = some (xs.getD i .nilp) := by
            rw [List.getD_eq_getElem?_getD, List.getElem?_eq_getElem (by omega)]; rfl
          obtain ⟨pre, c, post, e1, e2, e3, e4⟩ := RepL.get hl hx
          refine ⟨pre, c, post, e1, ?_, ?_, fun d hd => .arr (by simpa using hlen) (D.sizes_set hsz hy) (e4 _ _ hd)⟩
          · rw [e2, D.sizes_const _ (fun y hy => hsz y (List.mem_of_mem_take hy)), List.length_take, Nat.min_eq_left (by omega)]
            simp [pOff, Stp.off]
          · rw [e3.length, hsz _ (List.mem_of_getElem? hx), hy]
theorem AV.set_rep {ρ : Nat → Option Nat} {X : Nat → Prop} {w : World} : ∀ {p : List Stp} {x y z : AV} {s : Prop} {cs : List Value}, AV.set x p y = some (s, z) → s → RepC ρ X w x cs →
    ∃ pre c post, cs = pre ++ c ++ post ∧ pre.length = pOff p ∧ c.length = y.size ∧ ∀ c', RepC ρ X w y c' → RepC ρ X w z (pre ++ c' ++ post) := by
  intro p
  induction p with
  | nil =>
    intro x y z s cs h _ hr
    have h : (bif x.size.beq y.size && (x.isAgg == y.isAgg) then some (True, y) else none) = some (s, z) := by cases x <;> simpa only [AV.set] using h
    cases hb : x.size.beq y.size && (x.isAgg == y.isAgg) <;> simp only [hb, cond_true, cond_false] at h <;> try (cases h)
    simp only [Bool.and_eq_true] at hb
    have := Nat.eq_of_beq_eq_true hb.1
    exact ⟨[], cs, [], by simp, rfl, by rw [hr.length, this], fun c' h' => by simpa using h'⟩
  | cons st p ih =>
    intro x y z s cs h hs hr
    have one : ∀ (fs : List D) (i off : Nat), x = .d (.st fs) → st = .fld i off → p = [] → (∀ y', y ≠ .d y') →
        ∃ pre c post, cs = pre ++ c ++ post ∧ pre.length = pOff (st :: p) ∧ c.length = y.size ∧ ∀ c', RepC ρ X w y c' → RepC ρ X w z (pre ++ c' ++ post) := by
      rintro fs i off rfl rfl rfl hy
      have h : (bif (D.sizes (fs.take i)).beq off then match fs[i]? with
        | some z => bif z.size.beq y.size && (z.isAgg == y.isAgg) then some (True, AV.st ((fs.map AV.d).set i y)) else none
        | none => none
        else none) = some (s, z) := by cases y <;> first | exact absurd rfl (hy _) | simpa only [AV.set] using h
      cases hb : (D.sizes (fs.take i)).beq off <;> simp only [hb, cond_true, cond_false] at h <;> try (cases h)
      have hoff := Nat.eq_of_beq_eq_true hb
      split at h <;> try (cases h)
      rename_i u hu
      cases hb2 : u.size.beq y.size && (u.isAgg == y.isAgg) <;> simp only [hb2, cond_true, cond_false] at h <;> try (cases h)
      simp only [Bool.and_eq_true] at hb2
      have hsz := Nat.eq_of_beq_eq_true hb2.1
      cases hr with
      | d hr =>
        cases hr with
        | st hl =>
          have hu' : (fs.map AV.d)[i]? = some (.d u) := by simp [hu]
          obtain ⟨pre, c, post, e1, e2, e3, e4⟩ := RepCs.get (RepL.toC (ρ := ρ) hl) hu'
          refine ⟨pre, c, post, e1, ?_, ?_, fun d hd => .st (e4 _ _ hd)⟩
          · rw [e2, ← hoff, ← List.map_take]
            simp only [pOff, Stp.off, Nat.add_zero]
            generalize fs.take i = l
            induction l with
            | nil => rfl
            | cons a l ih => show AV.size (.d a) + AV.sizes _ = D.size a + D.sizes l; rw [ih]; rfl
          · rw [e3.length]; exact hsz
    cases x with
    | d x =>
      by_cases hy : ∃ y', y = .d y'
      · obtain ⟨y, rfl⟩ := hy
        simp only [AV.set] at h
        split at h <;> try (cases h)
        rename_i hn
        cases hr with
        | d hr =>
          obtain ⟨pre, c, post, e1, e2, e3, e4⟩ := D.set_rep hn hs hr
          exact ⟨pre, c, post, e1, e2, e3, fun c' h' => by cases h' with | d h' => exact .d (e4 c' h')⟩
      · have hy : ∀ y', y ≠ .d y' := fun y' e => hy ⟨y', e⟩
        cases x with
        | st fs =>
          cases st with
          | fld i off =>
            cases p with
            | nil => exact one fs i off rfl rfl rfl hy
            | cons _ _ => cases y <;> first | exact absurd rfl (hy _) | (simp only [AV.set] at h; cases h)
          | ix _ _ => cases y <;> first | exact absurd rfl (hy _) | (simp only [AV.set] at h; cases h)
        | _ => cases y <;> first | exact absurd rfl (hy _) | (simp only [AV.set] at h; cases h)
    | st fs =>
      cases st <;> simp only [AV.set] at h <;> try (cases h)
      rename_i i off
      cases hb : (AV.sizes (fs.take i)).beq off <;> simp only [hb, cond_true, cond_false] at h <;> try (cases h)
      have hoff := Nat.eq_of_beq_eq_true hb
      split at h <;> try (cases h)
      rename_i u hu
      split at h <;> try (cases h)
      rename_i hset
      cases hr with
      | st hl =>
        obtain ⟨pre, c, post, e1, e2, e3, e4⟩ := RepCs.get hl hu
        obtain ⟨pre', c', post', f1, f2, f3, f4⟩ := ih hset hs e3
        refine ⟨pre ++ pre', c', post' ++ post, by rw [e1, f1]; simp, by rw [List.length_append, e2, f2, hoff]; rfl, f3, fun d hd => ?_⟩
        have := e4 _ _ (f4 d hd)
        exact .st (by simpa using this)
    | _ => simp only [AV.set] at h; cases h
end Go.Sym

namespace Go.Sym
def constA : Value → AV
  | .int k n => .d (.int k n)
  | .bool b => .d (.bool b)
  | .string s => .d (.str s)
  | .slice none 0 0 => .d .nils
  | .pointer none => .d .nilp
  | .nilFunc => .d .nilf
  | .nilIface => .d .nili
  | _ => .top
def St.ev (S : St) : Operand → AV
  | .tmp t => bif Nat.blt t S.n then S.sl t else .top
  | .const v => constA v
  | .global _ => .top
  | .func f => .fn (.func f) []
structure Res where
  side : Prop
  r : AV
  ws : List (Nat × AObj)
theorem constA_rep (ρ : Nat → Option Nat) (X : Nat → Prop) (w : World) (v : Value) : RepA ρ X w (constA v) v := by
  unfold constA
  split
  · exact ⟨_, .d (.int _ _), rfl⟩
  · exact ⟨_, .d (.bool _), rfl⟩
  · exact ⟨_, .d (.str _), rfl⟩
  · exact ⟨_, .d .nils, rfl⟩
  · exact ⟨_, .d .nilp, rfl⟩
  · exact ⟨_, .d .nilf, rfl⟩
  · exact ⟨_, .d .nili, rfl⟩
  · trivial
theorem constA_names (v : Value) : (constA v).names = [] := by
  unfold constA
  split <;> rfl
theorem Sim.ev {S : St} {ρ : Nat → Option Nat} {X : Nat → Prop} {a : Act} {w : World} (hs : Sim S ρ X a w) (x : Operand) : RepA ρ X w (S.ev x) (a.eval x) := by
  cases x with
  | tmp t =>
    simp only [St.ev, Act.eval]
    cases hb : Nat.blt t S.n with
    | true =>
      have hlt : t < a.tmps.size := by rw [hs.n]; simpa using hb
      refine hs.slots t _ ?_
      rw [Array.getElem?_eq_getElem hlt, Array.getD_eq_getD_getElem?, Array.getElem?_eq_getElem hlt]; rfl
    | false => trivial
  | const v => exact constA_rep ρ X w v
  | global g => trivial
  | func f => exact ⟨_, .fn .nil, rfl⟩
theorem Sim.evNames {S : St} {ρ : Nat → Option Nat} {X : Nat → Prop} {a : Act} {w : World} (hs : Sim S ρ X a w) (x : Operand) : ∀ o, o ∈ (S.ev x).names → S.hp o ≠ none := by
  cases x with
  | tmp t =>
    simp only [St.ev]
    cases Nat.blt t S.n with
    | true => exact hs.closedS t
    | false => intro o ho; cases ho
  | const v => intro o ho; simp [St.ev, constA_names] at ho
  | global g => intro o ho; cases ho
  | func f => intro o ho; cases ho
def Does (P : Program) (o : Oper) (a : Act) (w : World) (R Rp : Value → World → Prop) : Prop :=
  match (execOp a.eval o).run P w with
  | .ok (.value v) w' => R v w'
  | .ok .skip w' => R undef w'
  | .ok (.enter f args) w' => Calls P f args w' fun e w'' => match e with
      | .returned v => R v w''
      | .panicked c => ∃ pv, c = [{ v := pv, recovered := false }] ∧ Rp pv w''
      | .outgrown => False
  | .halt (.panic v) w' => Rp v w'
  | _ => False
structure Evo (S S' : St) (ρ ρ' : Nat → Option Nat) (X X' : Nat → Prop) (w w' : World) : Prop where
  ext : Ext (fun b => ∃ o x, S.hp o = some x ∧ x.alive = true ∧ ρ o = some b) w w'
  xs : ∀ b, b < w.heap.size → (X' b → X b) ∧ (X b → X' b ∨ ∃ o x, S.hp o = some x ∧ x.alive = true ∧ ρ o = some b)
  own : ∀ o x b, S'.hp o = some x → x.alive = true → ρ' o = some b → w.heap.size ≤ b ∨ ∃ o' x', S.hp o' = some x' ∧ x'.alive = true ∧ ρ o' = some b
  same : ∀ n, S.hp n ≠ none → ρ' n = ρ n
def StepsTo (P : Program) (o : Oper) (S S' : St) : Prop :=
  ∀ (ρ : Nat → Option Nat) (X : Nat → Prop) (a : Act) (w : World), Sim S ρ X a w →
    Does P o a w (fun v w' => ∃ ρ' X', Sim S' ρ' X' (a.put o.dst v) w' ∧ Evo S S' ρ ρ' X X' w w') (fun _ _ => False)
theorem Sim.put {S : St} {ρ : Nat → Option Nat} {X : Nat → Prop} {a : Act} {w : World} (hs : Sim S ρ X a w) {dst : Option Tmp} {r : AV} {v : Value}
    (hr : RepA ρ X w r v) (hn : ∀ n, n ∈ r.names → S.hp n ≠ none) : Sim (S.upd dst r []) ρ X (a.put dst v) w ∧ Evo S (S.upd dst r []) ρ ρ X X w w := by
  refine ⟨hs.step (Y := fun _ => False) (.refl _ _) (fun _ h => h.elim) (fun _ _ => rfl) (fun _ _ h => h) (fun o x b _ h1 h2 h3 => hs.own o x b h1 h2 h3) (fun _ _ h => by cases h) (fun _ _ _ h => by cases h) (fun _ _ _ _ _ h => by cases h)
    (fun _ _ _ _ _ h => by cases h) (fun _ _ h => by cases h) hr (fun o ho => .inl (hn o ho)), .refl _ _, fun _ _ => ⟨id, .inl⟩, fun o x b hx ha hb => .inr ⟨o, x, ?_, ha, hb⟩, fun _ _ => rfl⟩
  rw [St.hp_upd] at hx
  exact hx
theorem steps_value {P : Program} {o : Oper} {S : St} {r : AV}
    (h : ∀ (ρ : Nat → Option Nat) (X : Nat → Prop) (a : Act) (w : World), Sim S ρ X a w → ∃ v, (execOp a.eval o).run P w = .ok (.value v) w ∧ RepA ρ X w r v ∧ ∀ n, n ∈ r.names → S.hp n ≠ none) :
    StepsTo P o S (S.upd o.dst r []) := by
  intro ρ X a w hs
  obtain ⟨v, hv, hr, hn⟩ := h ρ X a w hs
  unfold Does
  rw [hv]
  exact ⟨ρ, X, hs.put hr hn⟩
theorem repA_d {ρ : Nat → Option Nat} {X : Nat → Prop} {w : World} {x : D} {v : Value} (h : RepA ρ X w (.d x) v) : ∃ cs, RepD X w x cs ∧ v = wrapV x.isAgg cs := by
  obtain ⟨cs, h1, h2⟩ := h
  cases h1 with
  | d h1 => exact ⟨cs, h1, h2⟩
theorem repA_mk {ρ : Nat → Option Nat} {X : Nat → Prop} {w : World} {x : D} {cs : List Value} (h : RepD X w x cs) : RepA ρ X w (.d x) (wrapV x.isAgg cs) := ⟨cs, .d h, rfl⟩
theorem repA_int {ρ : Nat → Option Nat} {X : Nat → Prop} {w : World} {k : IntKind} {n : Int} {v : Value} (h : RepA ρ X w (.d (.int k n)) v) : v = .int k n := by
  obtain ⟨cs, h1, h2⟩ := repA_d h
  cases h1; exact h2
theorem repA_bool {ρ : Nat → Option Nat} {X : Nat → Prop} {w : World} {b : Bool} {v : Value} (h : RepA ρ X w (.d (.bool b)) v) : v = .bool b := by
  obtain ⟨cs, h1, h2⟩ := repA_d h
  cases h1; exact h2
theorem repA_str {ρ : Nat → Option Nat} {X : Nat → Prop} {w : World} {s : ByteArray} {v : Value} (h : RepA ρ X w (.d (.str s)) v) : v = .string s := by
  obtain ⟨cs, h1, h2⟩ := repA_d h
  cases h1; exact h2
theorem repA_ptr {ρ : Nat → Option Nat} {X : Nat → Prop} {w : World} {o : Nat} {p : List Stp} {v : Value} (h : RepA ρ X w (.ptr o p) v) : ∃ b, ρ o = some b ∧ v = .pointer (some ⟨b, pOff p, none⟩) := by
  obtain ⟨cs, h1, h2⟩ := h
  cases h1 with
  | ptr _ h => exact ⟨_, h, h2⟩
theorem repA_dptr {ρ : Nat → Option Nat} {X : Nat → Prop} {w : World} {x : D} {v : Value} (h : RepA ρ X w (.dptr x) v) :
    ∃ b q cs, v = .pointer (some ⟨b, q, none⟩) ∧ ¬ X b ∧ b < w.heap.size ∧ RowAt w b q cs ∧ RepD X w x cs := by
  obtain ⟨cs, h1, h2⟩ := h
  cases h1 with
  | dptr a1 a2 a3 a4 => exact ⟨_, _, _, h2, a1, a2, a3, a4⟩
def aBits (op : BinOp) (k : IntKind) (a b : Int) : Int :=
  k.wrap ((match op with
    | .and => BitVec.ofInt k.bits a &&& BitVec.ofInt k.bits b
    | .or => BitVec.ofInt k.bits a ||| BitVec.ofInt k.bits b
    | .xor => BitVec.ofInt k.bits a ^^^ BitVec.ofInt k.bits b
    | _ => BitVec.ofInt k.bits a &&& ~~~ BitVec.ofInt k.bits b).toNat)
def shlI (k : IntKind) (a b : Int) : Int := k.wrap (a * 2 ^ (min b.toNat k.bits))
def shrI (k : IntKind) (a b : Int) : Int := a.fdiv (2 ^ (min b.toNat k.bits))
def isBoolTy (P : Program) (T : TypeId) : Bool := match P.underlying T with
  | some .bool => true
  | _ => false
def aBin (P : Program) (op : BinOp) (T : TypeId) : D → D → Option (Prop × D)
  | .int k a, .int k' b =>
    match op with
    | .shl => some (0 ≤ b, .int k (shlI k a b))
    | .shr => some (0 ≤ b, .int k (shrI k a b))
    | op => if k = k' then match op with
      | .add => some (True, .int k (k.wrap (a + b)))
      | .sub => some (True, .int k (k.wrap (a - b)))
      | .mul => some (True, .int k (k.wrap (a * b)))
      | .quo => some (b ≠ 0, .int k (k.wrap (a.tdiv b)))
      | .rem => some (b ≠ 0, .int k (a.tmod b))
      | .and => some (True, .int k (aBits .and k a b))
      | .or => some (True, .int k (aBits .or k a b))
      | .xor => some (True, .int k (aBits .xor k a b))
      | .andNot => some (True, .int k (aBits .andNot k a b))
      | .eql => some (True, .bool (a == b))
      | .neq => some (True, .bool (a != b))
      | .lss => some (True, .bool (decide (a < b)))
      | .leq => some (True, .bool (decide (a ≤ b)))
      | .gtr => some (True, .bool (decide (a > b)))
      | .geq => some (True, .bool (decide (a ≥ b)))
      | _ => none
      else none
  | .bool a, .bool b => bif isBoolTy P T then match op with
      | .eql => some (True, .bool (a == b))
      | .neq => some (True, .bool (!(a == b)))
      | _ => none
    else none
  | .str a, .str b => match op with
      | .eql => some (True, .bool (a.toList == b.toList))
      | .neq => some (True, .bool (!(a.toList == b.toList)))
      | _ => none
  | _, _ => none
theorem run_runBool {P : Program} {T : TypeId} (h : isBoolTy P T = true) (a b : Bool) (w : World) : (Op.equal T (.bool a) (.bool b)).run P w = .ok (a == b) w := by
  unfold isBoolTy at h
  split at h
  · rename_i hu
    have key : ∀ d, (Op.equalIn (d + 1) T (.bool a) (.bool b)).run P w = .ok (a == b) w := fun d => by
      simp only [Op.equalIn]
      rw [run_bind_ok (run_underlying hu w)]
      rfl
    exact key 9999
  · cases h
theorem aBin_run {P : Program} {op : BinOp} {T : TypeId} {x y z : D} {s : Prop} (h : aBin P op T x y = some (s, z)) (hs : s) {X : Nat → Prop} {w : World} {u v : Value}
    (hu : ∃ cs, RepD X w x cs ∧ u = wrapV x.isAgg cs) (hv : ∃ cs, RepD X w y cs ∧ v = wrapV y.isAgg cs) (q r : Operand) :
    ∃ t, (do eqGuard op T q r u v; binOp op T u v : Sem Value).run P w = .ok t w ∧ (∃ cs, RepD X w z cs ∧ t = wrapV z.isAgg cs) := by
  obtain ⟨c1, h1, rfl⟩ := hu
  obtain ⟨c2, h2, rfl⟩ := hv
  have int : ∀ {k : IntKind} {n : Int}, ∃ cs, RepD X w (.int k n) cs ∧ (.int k n : Value) = wrapV false cs := fun {k n} => ⟨_, .int k n, rfl⟩
  have bool : ∀ {b : Bool}, ∃ cs, RepD X w (.bool b) cs ∧ (.bool b : Value) = wrapV false cs := fun {b} => ⟨_, .bool b, rfl⟩
  have g0 : ∀ (k k' : IntKind) (a b : Int), (eqGuard op T q r (.int k a) (.int k' b)).run P w = .ok () w := fun k k' a b => by
    unfold eqGuard; cases op <;> simp
  have g1 : ∀ (a b : Bool), (eqGuard op T q r (.bool a) (.bool b)).run P w = .ok () w := fun a b => by
    unfold eqGuard; cases op <;> simp
  have g2 : ∀ (a b : ByteArray), (eqGuard op T q r (.string a) (.string b)).run P w = .ok () w := fun a b => by
    unfold eqGuard; cases op <;> simp
  cases h1 <;> cases h2 <;> try (simp only [aBin] at h; cases h; done)
  · rename_i k a k' b
    simp only [wrapV, D.isAgg, Bool.false_eq_true, if_false, List.headD_cons]
    rw [run_bind_ok (g0 _ _ _ _)]
    cases op
    all_goals (try simp only [aBin] at h)
    case shl => cases h; exact ⟨_, by simp only [binOp, Op.shift]; rw [if_neg (by simpa using hs)]; rfl, int⟩
    case shr => cases h; exact ⟨_, by simp only [binOp, Op.shift]; rw [if_neg (by simpa using hs)]; rfl, int⟩
    all_goals (split at h <;> try (cases h; done))
    all_goals (rename_i hk; subst hk)
    case int.int.quo.isTrue => cases h; exact ⟨_, by simp only [binOp, Op.intDiv]; rw [if_neg (by simp), if_neg hs]; rfl, int⟩
    case int.int.rem.isTrue => cases h; exact ⟨_, by simp only [binOp, Op.intDiv]; rw [if_neg (by simp), if_neg hs]; rfl, int⟩
    all_goals (cases h; first | exact ⟨_, by simp only [binOp]; rw [if_neg (by simp)]; rfl, int⟩ | exact ⟨_, by simp only [binOp]; rw [if_neg (by simp)]; rfl, bool⟩)
  · rename_i a b
    simp only [wrapV, D.isAgg, Bool.false_eq_true, if_false, List.headD_cons]
    rw [run_bind_ok (g1 _ _)]
    simp only [aBin] at h
    cases hb : isBoolTy P T <;> simp only [hb, cond_true, cond_false] at h <;> try (cases h; done)
    cases op <;> simp only at h <;> cases h
    · exact ⟨_, by simp only [binOp]; rw [run_bind_ok (run_runBool hb a b w)]; rfl, bool⟩
    · exact ⟨_, by simp only [binOp]; rw [run_bind_ok (run_runBool hb a b w)]; rfl, bool⟩
  · rename_i a b
    simp only [wrapV, D.isAgg, Bool.false_eq_true, if_false, List.headD_cons]
    rw [run_bind_ok (g2 _ _)]
    simp only [aBin] at h
    cases op <;> simp only at h <;> cases h
    · exact ⟨_, by simp only [binOp, Op.stringOp]; rfl, bool⟩
    · exact ⟨_, by simp only [binOp, Op.stringOp]; rfl, bool⟩
end Go.Sym

namespace Go.Sym
theorem Sim.turn {S : St} {ρ : Nat → Option Nat} {X : Nat → Prop} {a : Act} {w w' : World} (hs : Sim S ρ X a w) {o b : Nat} {x x' : AObj}
    {dst : Option Tmp} {r : AV} {v : Value} (hx : S.hp o = some x) (ha : x.alive = true) (hob : ρ o = some b) (hext : Ext (fun c => c = b) w w')
    (hobj : ∀ (Y : Nat → Prop), Goes ρ ρ X X Y w w' → ObjAt ρ X w' o x')
    (hn : ∀ n, n ∈ x'.names → S.hp n ≠ none)
    (hr : ∀ (Y : Nat → Prop), Goes ρ ρ X X Y w w' → RepA ρ X w' r v) (hrn : ∀ n, n ∈ r.names → S.hp n ≠ none) :
    Sim (S.upd dst r [(o, x')]) ρ X (a.put dst v) w' ∧ Evo S (S.upd dst r [(o, x')]) ρ ρ X X w w' := by
  have g : Goes ρ ρ X X (fun c => c = b) w w' := ⟨hext, fun k _ hx' hy => hx' (by rw [hy]; exact hs.own o x b hx ha hob), fun _ _ h => h⟩
  have hlk : ∀ o' y, lkp [(o, x')] o' = some y → o' = o ∧ y = x' := fun o' y h => by
    have := lkp_mem h
    simp at this
    exact this
  have hlk0 : lkp [(o, x')] o = some x' := by simp [lkp]
  refine ⟨hs.step (Y := fun c => c = b) hext (fun k hb' => ⟨o, x, x', hlk0, hx, ha, by rw [hb']; exact hob⟩) (fun _ _ => rfl) (fun _ _ h => h) (fun o x b _ h1 h2 h3 => hs.own o x b h1 h2 h3) ?_ ?_ ?_ ?_ ?_ (hr _ g) (fun n h => .inl (hrn n h)), ?_⟩
  · intro o' y h; obtain ⟨rfl, rfl⟩ := hlk o' y h; exact hobj _ g
  · intro o' y k h _ hk; obtain ⟨rfl, rfl⟩ := hlk o' y h; exact hs.own _ _ _ hx ha hk
  · intro o1 y1 o2 y2 k h1 _ h2 _ _ _; rw [(hlk _ _ h1).1, (hlk _ _ h2).1]
  · intro o1 y1 o2 y2 k h1 _ h2 h3 h4 he he'
    obtain ⟨rfl, rfl⟩ := hlk _ _ h1
    have := hs.inj _ _ _ _ _ hx ha h3 h4 he he'
    subst this; rw [hlk0] at h2; cases h2
  · intro o' y h n hn'; obtain ⟨rfl, rfl⟩ := hlk o' y h; exact .inl (hn n hn')
  · refine ⟨hext.mono fun k _ hb' => ⟨o, x, hx, ha, by rw [hb']; exact hob⟩, fun _ _ => ⟨id, .inl⟩, fun o' y k hy hay hk => ?_, fun _ _ => rfl⟩
    rw [St.hp_upd] at hy
    by_cases ho : o' = o
    · subst ho; exact .inr ⟨o', x, hx, ha, hk⟩
    · have : lkp [(o, x')] o' = none := by
        cases h : lkp [(o, x')] o' with
        | none => rfl
        | some y => exact absurd (hlk o' y h).1 ho
      simp only [this] at hy
      exact .inr ⟨o', y, hy, hay, hk⟩
theorem Sim.lay {S : St} {ρ : Nat → Option Nat} {X : Nat → Prop} {a : Act} {w : World} (hs : Sim S ρ X a w) {o b : Nat} {x x' : AObj} {cs cs' : List Value} {T : TypeId} {z : Nat × Nat}
    {dst : Option Tmp} {r : AV} {v : Value} (hx : S.hp o = some x) (ha : x.alive = true) (hob : ρ o = some b) (hb : w.heap[b]? = some (.cells cs.toArray T z)) (hl : cs'.length = cs.length)
    (hobj : ∀ (Y : Nat → Prop), Goes ρ ρ X X Y w (World.lay w b cs') → (World.lay w b cs').heap[b]? = some (.cells cs'.toArray T z) → ObjAt ρ X (World.lay w b cs') o x')
    (hn : ∀ n, n ∈ x'.names → S.hp n ≠ none)
    (hr : ∀ (Y : Nat → Prop), Goes ρ ρ X X Y w (World.lay w b cs') → RepA ρ X (World.lay w b cs') r v) (hrn : ∀ n, n ∈ r.names → S.hp n ≠ none) :
    Sim (S.upd dst r [(o, x')]) ρ X (a.put dst v) (World.lay w b cs') ∧ Evo S (S.upd dst r [(o, x')]) ρ ρ X X w (World.lay w b cs') := by
  have hh := heap_lay hb cs'
  have hext : Ext (fun c => c = b) w (World.lay w b cs') := by
    refine ⟨rfl, rfl, rfl, by simp [World.lay], fun k _ hne => heap_lay_ne w cs' hne, fun k c T' z' hc => ?_⟩
    by_cases hbo : k = b
    · subst hbo
      rw [hb] at hc
      simp only [Option.some.injEq, Obj.cells.injEq] at hc
      obtain ⟨rfl, rfl, rfl⟩ := hc
      exact ⟨_, _, hh, by simp [hl]⟩
    · exact ⟨c, z', by rw [heap_lay_ne w cs' hbo]; exact hc, rfl⟩
  exact hs.turn hx ha hob hext (fun Y g => hobj Y g hh) hn hr hrn
def setName (ρ : Nat → Option Nat) (n b : Nat) : Nat → Option Nat := fun m => bif n.beq m then some b else ρ m
def addOwn (X : Nat → Prop) (b : Nat) : Nat → Prop := fun c => c = b ∨ X c
theorem setName_same (ρ : Nat → Option Nat) (n b : Nat) : setName ρ n b n = some b := by simp [setName]
theorem setName_ne (ρ : Nat → Option Nat) {n m : Nat} (b : Nat) (h : m ≠ n) : setName ρ n b m = ρ m := by
  unfold setName
  cases hb : n.beq m with
  | true => exact absurd (Nat.eq_of_beq_eq_true hb).symm h
  | false => rfl
theorem Sim.new {S : St} {ρ : Nat → Option Nat} {X : Nat → Prop} {a : Act} {w : World} (hs : Sim S ρ X a w) {nm : Nat} {x : AObj} {c : Array Value} {T : TypeId} {z : Nat × Nat} {w' : World}
    {dst : Option Tmp} {r : AV} {v : Value} (hf : S.hp nm = none)
    (hw : Ext (fun _ => False) w w' ∧ w'.heap[w.heap.size]? = some (.cells c T z))
    (hobj : ∀ ρ' X', Goes ρ ρ' X X' (fun _ => False) w w' → (∀ n, S.hp n ≠ none → ρ' n = ρ n) → ρ' nm = some w.heap.size → ObjAt ρ' X' w' nm x)
    (hn : ∀ n, n ∈ x.names → S.hp n ≠ none)
    (hr : ∀ ρ' X', Goes ρ ρ' X X' (fun _ => False) w w' → (∀ n, S.hp n ≠ none → ρ' n = ρ n) → ρ' nm = some w.heap.size → RepA ρ' X' w' r v)
    (hrn : ∀ n, n ∈ r.names → S.hp n ≠ none ∨ n = nm) :
    ∃ ρ' X', Sim (S.upd dst r [(nm, x)]) ρ' X' (a.put dst v) w' ∧ Evo S (S.upd dst r [(nm, x)]) ρ ρ' X X' w w' := by
  obtain ⟨hext, hnew⟩ := hw
  let ρ' := setName ρ nm w.heap.size
  let X' := addOwn X w.heap.size
  have hρ : ∀ n, S.hp n ≠ none → ρ' n = ρ n := fun n h => setName_ne ρ _ fun e => h (by rw [e]; exact hf)
  have hρn : ρ' nm = some w.heap.size := setName_same ρ nm _
  have hX : ∀ b, b < w.heap.size → (X' b ↔ X b) := fun b hb => by
    simp only [X', addOwn]
    constructor
    · rintro (h | h)
      · omega
      · exact h
    · exact .inr
  have g : Goes ρ ρ' X X' (fun _ => False) w w' := ⟨hext, fun _ _ _ h => h, fun b hb h => (hX b hb).1 h⟩
  have hlk : ∀ o' y, lkp [(nm, x)] o' = some y → o' = nm ∧ y = x := fun o' y h => by
    have := lkp_mem h
    simp at this
    exact this
  refine ⟨ρ', X', hs.step (Y := fun _ => False) hext (fun _ h => h.elim) hρ (fun b hb h => (hX b hb).1 h) (fun o x b _ h1 h2 h3 => (hX b ((hs.objs o x h1).lt h2 h3)).2 (hs.own o x b h1 h2 h3)) ?_ ?_ ?_ ?_ ?_ (hr ρ' X' g hρ hρn) ?_, ?_⟩
  · intro o' y h; obtain ⟨rfl, rfl⟩ := hlk o' y h; exact hobj ρ' X' g hρ hρn
  · intro o' y k h _ hk; obtain ⟨rfl, rfl⟩ := hlk o' y h; rw [hρn] at hk; cases hk; exact .inl rfl
  · intro o1 y1 o2 y2 k h1 _ h2 _ _ _; rw [(hlk _ _ h1).1, (hlk _ _ h2).1]
  · intro o1 y1 o2 y2 k h1 _ h2 h3 h4 he he'
    obtain ⟨rfl, rfl⟩ := hlk _ _ h1
    have := (hs.objs _ _ h3).lt h4 he'
    rw [hρn] at he; cases he; omega
  · intro o' y h n hn'; obtain ⟨rfl, rfl⟩ := hlk o' y h; exact .inl (hn n hn')
  · intro n h
    rcases hrn n h with h | h
    · exact .inl h
    · subst h; exact .inr (by simp [lkp])
  · refine ⟨hext.mono fun _ _ h => h.elim, fun b hb => ⟨(hX b hb).1, fun h => .inl ((hX b hb).2 h)⟩, fun o' y k hy hay hk => ?_, hρ⟩
    rw [St.hp_upd] at hy
    by_cases ho : o' = nm
    · subst ho; rw [hρn] at hk; cases hk; exact .inl (Nat.le_refl _)
    · have : lkp [(nm, x)] o' = none := by
        cases h : lkp [(nm, x)] o' with
        | none => rfl
        | some y => exact absurd (hlk o' y h).1 ho
      simp only [this] at hy
      exact .inr ⟨o', y, hy, hay, by rw [← hρ o' (by rw [hy]; simp)]; exact hk⟩
theorem alloc_new (w : World) (c : Array Value) (T : TypeId) (z : Nat × Nat) : Ext (fun _ => False) w (w.alloc (.cells c T z)) ∧ (w.alloc (.cells c T z)).heap[w.heap.size]? = some (.cells c T z) := by
  refine ⟨Ext.alloc _ _ _, ?_⟩
  show (w.heap.push _)[w.heap.size]? = _
  simp
theorem rowAt_of_heap {w : World} {b : Nat} {pre c post : List Value} {T : TypeId} {z : Nat × Nat} (h : w.heap[b]? = some (.cells (pre ++ c ++ post).toArray T z)) : RowAt w b pre.length c := by
  intro i v hv
  have hi : i < c.length := (List.getElem?_eq_some_iff.1 hv).1
  simp only [World.cell?, h, Option.isSome_none, Bool.false_eq_true, if_false, List.getElem?_toArray]
  rw [List.append_assoc, List.getElem?_append_right (by omega), List.getElem?_append_left (by omega)]
  have : pre.length + i - pre.length = i := by omega
  rw [this, hv]
def hasIx : List Stp → Bool
  | [] => false
  | .ix _ _ :: _ => true
  | _ :: p => hasIx p
def szOf (P : Program) (T : TypeId) : Nat := match P.info? T with
  | some i => i.size
  | none => 0
def D.ty (P : Program) : Nat → TypeId → D → D
  | 0, _, y => y
  | f + 1, T, y => match P.underlying T with
    | some (.int k) => .int k y.toInt
    | some .bool => .bool y.toBool
    | some .string => .str y.toStr
    | some (.array n e) => .arr n (szOf P e) y.els
    | some (.struct fields) => .st (fields.toList.zipIdx.map fun p => D.ty P f p.1.type (y.fld p.2))
    | some (.slice _) => .sl y.els
    | _ => y
def objNav (P : Program) (T : TypeId) (x : AObj) (p : List Stp) : Option (Prop × AV) :=
  match x with
  | .var x => match x.nav p with
    | some (s, .d y) => bif hasIx p then some ((s ∧ y = D.ty P 8 T y), .d (D.ty P 8 T y)) else some (s, .d y)
    | some (s, y) => some (s, y)
    | none => none
  | .row e xs => match p with
    | .ix i e' :: p => bif e.beq e' then match D.nav (xs.getD i .nilp) p with
        | some (s, y) => some (((i < xs.length ∧ s) ∧ y = D.ty P 8 T y), .d (D.ty P 8 T y))
        | none => none
      else none
    | _ => none
  | .dead => none
theorem objNav_rep {P : Program} {T : TypeId} {x : AObj} {p : List Stp} {y : AV} {s : Prop} (h : objNav P T x p = some (s, y)) (hs : s) {ρ : Nat → Option Nat} {X : Nat → Prop} {w : World} {o : Nat} (ho : ObjAt ρ X w o x) :
    ∃ b pre c post T' z, ρ o = some b ∧ w.heap[b]? = some (.cells (pre ++ c ++ post).toArray T' z) ∧ pre.length = pOff p ∧ RepC ρ X w y c := by
  cases x with
  | dead => cases h
  | var x =>
    obtain ⟨b, cs, T', z, h0, h1, _, h3⟩ := ho
    simp only [objNav] at h
    split at h
    · rename_i s' y' hn
      have hy : s' ∧ y = .d y' := by
        cases hi : hasIx p <;> simp only [hi, cond_true, cond_false, Option.some.injEq, Prod.mk.injEq] at h
        · obtain ⟨rfl, rfl⟩ := h; exact ⟨hs, rfl⟩
        · obtain ⟨rfl, rfl⟩ := h; exact ⟨hs.1, by rw [← hs.2]⟩
      obtain ⟨hs', rfl⟩ := hy
      obtain ⟨pre, c, post, e1, e2, e3⟩ := AV.nav_rep hn hs' h3
      exact ⟨b, pre, c, post, T', z, h0, by rw [← e1]; exact h1, e2, e3⟩
    · rename_i s' y' _ hn
      cases h
      obtain ⟨pre, c, post, e1, e2, e3⟩ := AV.nav_rep hn hs h3
      exact ⟨b, pre, c, post, T', z, h0, by rw [← e1]; exact h1, e2, e3⟩
    · cases h
  | row e xs =>
    simp only [objNav] at h
    split at h <;> try (cases h; done)
    rename_i i e' p'
    cases hb : e.beq e' <;> simp only [hb, cond_true, cond_false] at h <;> try (cases h; done)
    have he := Nat.eq_of_beq_eq_true hb
    subst he
    split at h <;> try (cases h; done)
    rename_i s' y' hn
    cases h
    obtain ⟨⟨hi, hs'⟩, hy⟩ := hs
    rw [← hy]
    rcases ho with ⟨_, h0⟩ | ⟨b, cs, rest, T', z, h0, h1, _, h3, h4⟩
    · rw [h0] at hi; cases hi
    have hx : xs[i]? = some (xs.getD i .nilp) := by
      rw [List.getD_eq_getElem?_getD, List.getElem?_eq_getElem (by omega)]; rfl
    obtain ⟨pre, c, post, e1, e2, e3, _⟩ := RepL.get h3 hx
    obtain ⟨pre', c', post', f1, f2, f3⟩ := D.nav_rep hn hs' e3
    refine ⟨b, pre ++ pre', c', post' ++ post ++ rest, T', z, h0, ?_, ?_, .d f3⟩
    · rw [h1, e1, f1]; simp
    · rw [List.length_append, e2, f2, D.sizes_const _ (fun y hy => h4 y (List.mem_of_mem_take hy)), List.length_take, Nat.min_eq_left (by omega)]
      rfl
def AV.plain : AV → Bool
  | .tup _ => false
  | .top => false
  | _ => true
theorem repA_of_c {ρ : Nat → Option Nat} {X : Nat → Prop} {w : World} {y : AV} {cs : List Value} (h : RepC ρ X w y cs) : RepA ρ X w y (wrapV y.isAgg cs) := by
  cases h with
  | top _ => trivial
  | d h => exact ⟨cs, .d h, rfl⟩
  | ptr p h => exact ⟨_, .ptr p h, rfl⟩
  | sl h0 h1 h2 h3 h4 => exact ⟨_, .sl h0 h1 h2 h3 h4, rfl⟩
  | slnil h => exact ⟨_, .slnil h, rfl⟩
  | st h => exact ⟨_, .st h, rfl⟩
  | dptr h1 h2 h3 h4 => exact ⟨_, .dptr h1 h2 h3 h4, rfl⟩
  | fn h => exact ⟨_, .fn h, rfl⟩
  | cst h => exact ⟨_, .cst h, rfl⟩
theorem repA_cells {ρ : Nat → Option Nat} {X : Nat → Prop} {w : World} {y : AV} {v : Value} (hp : y.plain = true) (h : RepA ρ X w y v) : ∃ cs, RepC ρ X w y cs ∧ v = wrapV y.isAgg cs ∧ v.cells.toList = cs := by
  have key : RepA1 ρ X w y v := by cases y <;> first | exact h | cases hp
  obtain ⟨cs, h1, h2⟩ := key
  refine ⟨cs, h1, h2, ?_⟩
  subst h2
  cases h1 with
  | d h1 => exact wrapV_cells h1
  | st _ => simp [wrapV, AV.isAgg, Value.cells]
  | top _ => cases hp
  | cst k =>
    rename_i v
    show (Value.cells v).toList = [v]
    cases v <;> first | rfl | cases k
  | _ => simp [wrapV, AV.isAgg, Value.cells]
theorem AV.nav_names : ∀ {p : List Stp} {x y : AV} {s : Prop}, AV.nav x p = some (s, y) → ∀ n, n ∈ y.names → n ∈ x.names := by
  intro p
  induction p with
  | nil =>
    intro x y s h n hn
    have : x = y := by cases x <;> simp only [AV.nav, Option.some.injEq, Prod.mk.injEq] at h <;> exact h.2
    rw [this]; exact hn
  | cons st p ih =>
    intro x y s h n hn
    cases x with
    | d x =>
      simp only [AV.nav] at h
      split at h <;> try (cases h)
      cases hn
    | st fs =>
      cases st <;> simp only [AV.nav] at h <;> try (cases h)
      rename_i i off
      cases hb : (AV.sizes (fs.take i)).beq off <;> simp only [hb, cond_true, cond_false] at h <;> try (cases h)
      split at h <;> try (cases h)
      rename_i z hz
      have h1 := ih h n hn
      simp only [AV.names]
      clear h hb ih
      induction fs generalizing i with
      | nil => simp at hz
      | cons a l ihl =>
        simp only [AV.namesL, List.mem_append]
        cases i with
        | zero => simp only [List.getElem?_cons_zero, Option.some.injEq] at hz; subst hz; exact .inl h1
        | succ i => simp only [List.getElem?_cons_succ] at hz; exact .inr (ihl i hz)
    | _ => cases st <;> simp only [AV.nav] at h <;> cases h
theorem objNav_names {P : Program} {T : TypeId} {x : AObj} {p : List Stp} {y : AV} {s : Prop} (h : objNav P T x p = some (s, y)) : ∀ n, n ∈ y.names → n ∈ x.names := by
  cases x with
  | dead => cases h
  | var x =>
    simp only [objNav] at h
    split at h
    · cases hi : hasIx p <;> simp only [hi, cond_true, cond_false, Option.some.injEq, Prod.mk.injEq] at h <;> (obtain ⟨_, rfl⟩ := h; intro n hn; cases hn)
    · rename_i hn; cases h; exact AV.nav_names hn
    · cases h
  | row e xs =>
    simp only [objNav] at h
    split at h <;> try (cases h; done)
    rename_i i e' p'
    cases hb : e.beq e' <;> simp only [hb, cond_true, cond_false] at h <;> try (cases h; done)
    split at h <;> try (cases h; done)
    cases h; intro n hn; cases hn
def aLoad (P : Program) (T : TypeId) (hp : Nat → Option AObj) : AV → Option Res
  | .ptr o p => match hp o with
    | some x => match objNav P T x p with
      | some (s, y) => bif tyOK P T y.size y.isAgg then some ⟨s, y, []⟩ else none
      | none => none
    | none => none
  | .dptr x => bif tyOK P T x.size x.isAgg then some ⟨True, .d x, []⟩ else none
  | _ => none
theorem notAgg_size {ρ : Nat → Option Nat} {X : Nat → Prop} {w : World} {y : AV} {cs : List Value} (h : RepC ρ X w y cs) (ha : y.isAgg = false) : cs.length = 1 := by
  cases h with
  | d h => rw [h.length]; cases h <;> first | rfl | cases ha
  | st _ => cases ha
  | _ => rfl
theorem run_map {P : Program} {s : Sem Value} {w w' : World} {v : Value} (h : s.run P w = .ok v w') : (do pure (Next.value (← s)) : Sem Next).run P w = .ok (.value v) w' := by
  rw [run_bind_ok h]; rfl
theorem aLoad_sound {P : Program} {T : TypeId} {o : Oper} {x : Operand} {S : St} {res : Res} {hp : Nat → Option AObj} (hle : ∀ n x, hp n = some x → S.hp n = some x) (ho : o.op = .load T x) (h : aLoad P T hp (S.ev x) = some res) (hside : res.side) :
    StepsTo P o S (S.upd o.dst res.r res.ws) := by
  have key : res.ws = [] ∧ ∀ (ρ : Nat → Option Nat) (X : Nat → Prop) (a : Act) (w : World), Sim S ρ X a w → ∃ v, (execOp a.eval o).run P w = .ok (.value v) w ∧ RepA ρ X w res.r v ∧ ∀ n, n ∈ res.r.names → S.hp n ≠ none := by
    cases hx : S.ev x <;> rw [hx] at h <;> simp only [aLoad] at h <;> try (cases h; done)
    · rename_i n p
      split at h <;> try (cases h; done)
      rename_i obj hobj
      split at h <;> try (cases h; done)
      rename_i s y hn
      cases ht : tyOK P T y.size y.isAgg <;> simp only [ht, cond_true, cond_false] at h <;> try (cases h; done)
      cases h
      refine ⟨rfl, fun ρ X a w hs => ?_⟩
      have he := hs.ev x
      rw [hx] at he
      obtain ⟨b, hb0, hv⟩ := repA_ptr he
      obtain ⟨b', pre, c, post, T', z, h0, h1, h2, h3⟩ := objNav_rep hn hside (hs.objs n obj (hle _ _ hobj))
      rw [hb0] at h0; cases h0
      have hrow := rowAt_of_heap h1
      rw [h2] at hrow
      have hl : c.length = y.size := h3.length
      refine ⟨wrapV y.isAgg c, ?_, repA_of_c h3, fun m hm => hs.closedH n obj (hle _ _ hobj) m (objNav_names hn m hm)⟩
      simp only [execOp, ho]
      refine run_map ?_
      simp only [Instr.loadAt, hv, Instr.sureAddr]
      exact run_loadVar hrow (by rw [hl]; exact ht) (fun hag => notAgg_size h3 hag)
    · rename_i y
      cases ht : tyOK P T y.size y.isAgg <;> simp only [ht, cond_true, cond_false] at h <;> try (cases h; done)
      cases h
      refine ⟨rfl, fun ρ X a w hs => ?_⟩
      have he := hs.ev x
      rw [hx] at he
      obtain ⟨b, q, cs, hv, h1, h2, h3, h4⟩ := repA_dptr he
      refine ⟨wrapV y.isAgg cs, ?_, repA_mk h4, fun m hm => by cases hm⟩
      simp only [execOp, ho]
      refine run_map ?_
      simp only [Instr.loadAt, hv, Instr.sureAddr]
      exact run_loadVar h3 (by rw [h4.length]; exact ht) (fun hag => notAgg_size (ρ := ρ) (.d h4) hag)
  rw [key.1]
  exact steps_value key.2
def aStore (P : Program) (T : TypeId) (hp : Nat → Option AObj) : AV → AV → Option Res
  | .ptr o p, v => bif tyOK P T v.size v.isAgg && v.plain then match hp o with
    | some (.var x) => match x.set p v with
      | some (s, z) => some ⟨s, .top, [(o, .var z)]⟩
      | none => none
    | some (.row e xs) => match p, v with
      | [.ix i e'], .d y => bif e.beq e' && y.size.beq e then some ⟨i < xs.length, .top, [(o, .row e (xs.set i y))]⟩ else none
      | .ix i e' :: q :: p, .d y => bif e.beq e' then match D.set (xs.getD i .nilp) (q :: p) y with
          | some (s, z) => some ⟨i < xs.length ∧ s, .top, [(o, .row e (xs.set i z))]⟩
          | none => none
        else none
      | _, _ => none
    | _ => none
    else none
  | _, _ => none
end Go.Sym

namespace Go.Sym
theorem AV.namesL_set {i : Nat} {y : AV} {n : Nat} : ∀ {fs : List AV}, n ∈ AV.namesL (fs.set i y) → n ∈ AV.namesL fs ∨ n ∈ y.names := by
  intro fs
  induction fs generalizing i with
  | nil => intro h; simp at h; exact .inl h
  | cons a l ih =>
    intro h
    cases i with
    | zero =>
      simp only [List.set_cons_zero, AV.namesL, List.mem_append] at h ⊢
      rcases h with h | h
      · exact .inr h
      · exact .inl (.inr h)
    | succ i =>
      simp only [List.set_cons_succ, AV.namesL, List.mem_append] at h ⊢
      rcases h with h | h
      · exact .inl (.inl h)
      · rcases ih h with h | h
        · exact .inl (.inr h)
        · exact .inr h
theorem AV.namesL_mem {z : AV} {n : Nat} : ∀ {fs : List AV} {i : Nat}, fs[i]? = some z → n ∈ z.names → n ∈ AV.namesL fs := by
  intro fs
  induction fs with
  | nil => intro i h; simp at h
  | cons a l ih =>
    intro i h hn
    simp only [AV.namesL, List.mem_append]
    cases i with
    | zero => simp only [List.getElem?_cons_zero, Option.some.injEq] at h; subst h; exact .inl hn
    | succ i => simp only [List.getElem?_cons_succ] at h; exact .inr (ih h hn)
theorem AV.namesL_d : ∀ (fs : List D), AV.namesL (fs.map AV.d) = []
  | [] => rfl
  | _ :: fs => by show [] ++ AV.namesL (fs.map AV.d) = []; rw [AV.namesL_d fs]; rfl
theorem AV.set_names : ∀ {p : List Stp} {x y z : AV} {s : Prop}, AV.set x p y = some (s, z) → ∀ n, n ∈ z.names → n ∈ x.names ∨ n ∈ y.names := by
  intro p
  induction p with
  | nil =>
    intro x y z s h n hn
    rw [AV.set_nil] at h
    cases hb : x.size.beq y.size && (x.isAgg == y.isAgg) <;> simp only [hb, cond_true, cond_false] at h <;> cases h
    exact .inr hn
  | cons st p ih =>
    intro x y z s h n hn
    cases x with
    | d x =>
      by_cases hy : ∃ y', y = .d y'
      · obtain ⟨y, rfl⟩ := hy
        simp only [AV.set] at h
        split at h <;> cases h
        cases hn
      · have hy : ∀ y', y ≠ .d y' := fun y' e => hy ⟨y', e⟩
        cases x with
        | st fs =>
          cases st with
          | fld i off =>
            cases p with
            | nil =>
              rw [AV.set_fld hy] at h
              cases hb : (D.sizes (fs.take i)).beq off <;> simp only [hb, cond_true, cond_false] at h <;> try (cases h; done)
              split at h <;> try (cases h; done)
              rename_i u hu
              cases hb2 : u.size.beq y.size && (u.isAgg == y.isAgg) <;> simp only [hb2, cond_true, cond_false] at h <;> cases h
              rcases AV.namesL_set hn with h1 | h1
              · rw [AV.namesL_d] at h1; cases h1
              · exact .inr h1
            | cons _ _ => cases y <;> first | exact absurd rfl (hy _) | (simp only [AV.set] at h; cases h)
          | ix _ _ => cases y <;> first | exact absurd rfl (hy _) | (simp only [AV.set] at h; cases h)
        | _ => cases y <;> first | exact absurd rfl (hy _) | (simp only [AV.set] at h; cases h)
    | st fs =>
      cases st <;> simp only [AV.set] at h <;> try (cases h)
      rename_i i off
      cases hb : (AV.sizes (fs.take i)).beq off <;> simp only [hb, cond_true, cond_false] at h <;> try (cases h)
      split at h <;> try (cases h)
      rename_i u hu
      split at h <;> try (cases h)
      rename_i hset
      rcases AV.namesL_set hn with h1 | h1
      · exact .inl h1
      · rcases ih hset n h1 with h2 | h2
        · exact .inl (AV.namesL_mem hu h2)
        · exact .inr h2
    | _ => simp only [AV.set] at h; cases h
theorem run_storeVar {P : Program} {w : World} {b : Nat} {T T' : TypeId} {z : Nat × Nat} {pre old post : List Value} {v : Value} {agg : Bool}
    (h : w.heap[b]? = some (.cells (pre ++ old ++ post).toArray T' z)) (hz : unfrozen z (pre ++ old ++ post).length) (ht : tyOK P T v.cells.size agg = true) (hl : old.length = v.cells.size)
    (hc : ∀ u, u ∈ v.cells.toList → isCell u = true) :
    (storeVar T ⟨b, pre.length, none⟩ v).run P w = .ok () (World.lay w b (pre ++ v.cells.toList ++ post)) := by
  simp only [storeVar]
  rw [run_bind_ok (tyOK_size ht w)]
  rw [if_neg (by simp)]
  have := run_storeCells (P := P) (b := b) (T := T') (z := z) pre pre.length v.cells.toList old post [] w (by simpa using h) (by simpa using hz) rfl (by simpa using hl) hc
  simpa using this
theorem steps_skip {P : Program} {o : Oper} {S : St} {ws : List (Nat × AObj)}
    (h : ∀ (ρ : Nat → Option Nat) (X : Nat → Prop) (a : Act) (w : World), Sim S ρ X a w → ∃ w', (execOp a.eval o).run P w = .ok .skip w' ∧ ∃ ρ' X', Sim (S.upd o.dst .top ws) ρ' X' (a.put o.dst undef) w' ∧ Evo S (S.upd o.dst .top ws) ρ ρ' X X' w w') :
    StepsTo P o S (S.upd o.dst .top ws) := by
  intro ρ X a w hs
  obtain ⟨w', hv, hr⟩ := h ρ X a w hs
  unfold Does
  rw [hv]
  exact hr
theorem run_skip {P : Program} {s : Sem Unit} {w w' : World} (h : s.run P w = .ok () w') : (do s; pure Next.skip : Sem Next).run P w = .ok .skip w' := by
  rw [run_bind_ok h]; rfl
theorem aStore_sound {P : Program} {T : TypeId} {o : Oper} {x y : Operand} {S : St} {res : Res} {hp : Nat → Option AObj} (hle : ∀ n x, hp n = some x → S.hp n = some x) (ho : o.op = .store T x y) (h : aStore P T hp (S.ev x) (S.ev y) = some res) (hside : res.side) :
    StepsTo P o S (S.upd o.dst res.r res.ws) := by
  cases hx : S.ev x <;> rw [hx] at h <;> simp only [aStore] at h <;> try (cases h; done)
  rename_i n p
  generalize hv : S.ev y = v at h
  cases ht : tyOK P T v.size v.isAgg && v.plain <;> simp only [ht, cond_true, cond_false] at h <;> try (cases h; done)
  simp only [Bool.and_eq_true] at ht
  obtain ⟨ht, hpl⟩ := ht
  split at h
  · rename_i u hu
    have hu := hle _ _ hu
    split at h <;> cases h
    rename_i s z hset
    refine steps_skip fun ρ X a w hs => ?_
    have he := hs.ev x
    rw [hx] at he
    obtain ⟨b, hb0, hxv⟩ := repA_ptr he
    have hyv := hs.ev y
    rw [hv] at hyv
    obtain ⟨cs, hc1, hc2, hc3⟩ := repA_cells hpl hyv
    obtain ⟨b', os, T', z', h0, h1, h2, h3⟩ := hs.objs n _ hu
    rw [hb0] at h0; cases h0
    obtain ⟨pre, old, post, e1, e2, e3, e4⟩ := AV.set_rep hset hside h3
    have hcl : (a.eval y).cells.size = v.size := by rw [← Array.length_toList, hc3, hc1.length]
    have hrun := run_storeVar (P := P) (T := T) (agg := v.isAgg) (v := a.eval y) (by rw [← e1]; exact h1) (by rw [← e1]; exact h2) (by rw [hcl]; exact ht) (by rw [hcl]; exact e3)
      (by rw [hc3]; exact hc1.cell)
    rw [hc3] at hrun
    refine ⟨_, ?_, ρ, X, hs.lay hu rfl hb0 h1 (cs' := pre ++ cs ++ post) ?_ (fun Y g hh => ⟨b, _, T', z', hb0, hh, ?_, ?_⟩) (fun m hm => ?_) (fun _ _ => trivial) (fun m hm => by cases hm)⟩
    · simp only [execOp, ho]
      refine run_skip ?_
      simp only [Instr.storeAt, hxv, Instr.sureAddr]
      rw [← e2]
      exact hrun
    · rw [e1]; simp [e3, hc1.length]
    · have : (pre ++ cs ++ post).length = os.length := by rw [e1]; simp [e3, hc1.length]
      rw [this]; exact h2
    · exact (e4 cs hc1).mono g (fun _ _ => rfl)
    · rcases AV.set_names hset m hm with h | h
      · exact hs.closedH n _ hu m h
      · have := hs.evNames y m (by rw [hv]; exact h); exact this
  · rename_i e xs hu
    have hu := hle _ _ hu
    split at h <;> try (cases h; done)
    rename_i i e' d
    cases hb : e.beq e' && d.size.beq e <;> simp only [hb, cond_true, cond_false] at h <;> cases h
    simp only [Bool.and_eq_true] at hb
    have he' := Nat.eq_of_beq_eq_true hb.1
    have hde := Nat.eq_of_beq_eq_true hb.2
    subst he'
    refine steps_skip fun ρ X a w hs => ?_
    have he := hs.ev x
    rw [hx] at he
    obtain ⟨b, hb0, hxv⟩ := repA_ptr he
    have hyv := hs.ev y
    rw [hv] at hyv
    obtain ⟨cs, hc1, hc2, hc3⟩ := repA_cells hpl hyv
    have hcd : RepD X w d cs := by cases hc1 with | d h => exact h
    have hi : i < xs.length := hside
    rcases hs.objs n _ hu with ⟨_, h0⟩ | ⟨b', os, rest, T', z', h0, h1, h2, h3, h4⟩
    · rw [h0] at hi; cases hi
    rw [hb0] at h0; cases h0
    have hxi : xs[i]? = some (xs.getD i .nilp) := by
      rw [List.getD_eq_getElem?_getD, List.getElem?_eq_getElem hi]; rfl
    obtain ⟨pre, old, post, e1, e2, e3, e4⟩ := RepL.get h3 hxi
    have hol : old.length = e := by rw [e3.length]; exact h4 _ (List.mem_of_getElem? hxi)
    have hcl : (a.eval y).cells.size = (AV.d d).size := by rw [← Array.length_toList, hc3, hc1.length]
    have h1' : w.heap[b]? = some (.cells (pre ++ old ++ (post ++ rest)).toArray T' z') := by rw [h1, e1]; simp
    have h2' : unfrozen z' (pre ++ old ++ (post ++ rest)).length := by
      have : (pre ++ old ++ (post ++ rest)).length = (os ++ rest).length := by rw [e1]; simp
      rw [this]; exact h2
    have hrun := run_storeVar (P := P) (T := T) (agg := (AV.d d).isAgg) (v := a.eval y) h1' h2' (by rw [hcl]; exact ht) (by rw [hcl]; show old.length = d.size; omega) (by rw [hc3]; exact hc1.cell)
    have hcsl : cs.length = e := by rw [hcd.length]; exact hde
    rw [hc3] at hrun
    refine ⟨_, ?_, ρ, X, hs.lay hu rfl hb0 h1' (cs' := pre ++ cs ++ (post ++ rest)) ?_ (fun Y g hh => .inr ⟨b, pre ++ cs ++ post, rest, T', z', hb0, ?_, ?_, ?_, ?_⟩) (fun m hm => by cases hm) (fun _ _ => trivial) (fun m hm => by cases hm)⟩
    · simp only [execOp, ho]
      refine run_skip ?_
      simp only [Instr.storeAt, hxv, Instr.sureAddr]
      have : pOff [.ix i e] = pre.length := by
        rw [e2, D.sizes_const _ (fun y hy => h4 y (List.mem_of_mem_take hy)), List.length_take, Nat.min_eq_left (by omega)]; rfl
      rw [this]
      exact hrun
    · simp [hcsl, hol]
    · rw [hh]; simp
    · have : (pre ++ cs ++ post ++ rest).length = (os ++ rest).length := by rw [e1]; simp [hcsl, hol]
      rw [this]; exact h2
    · exact (e4 d cs hcd).mono g.ext g.off g.own
    · exact D.sizes_set h4 hde
    rename_i i e' q p' d
    cases hb : e.beq e' <;> simp only [hb, cond_true, cond_false] at h <;> try (cases h; done)
    have he' := Nat.eq_of_beq_eq_true hb
    subst he'
    split at h <;> cases h
    rename_i sd z hset
    refine steps_skip fun ρ X a w hs => ?_
    have he := hs.ev x
    rw [hx] at he
    obtain ⟨b, hb0, hxv⟩ := repA_ptr he
    have hyv := hs.ev y
    rw [hv] at hyv
    obtain ⟨cs, hc1, hc2, hc3⟩ := repA_cells hpl hyv
    have hcd : RepD X w d cs := by cases hc1 with | d h => exact h
    obtain ⟨hi, hsd⟩ : i < xs.length ∧ sd := hside
    rcases hs.objs n _ hu with ⟨_, h0⟩ | ⟨b', os, rest, T', z', h0, h1, h2, h3, h4⟩
    · rw [h0] at hi; cases hi
    rw [hb0] at h0; cases h0
    have hxi : xs[i]? = some (xs.getD i .nilp) := by
      rw [List.getD_eq_getElem?_getD, List.getElem?_eq_getElem hi]; rfl
    obtain ⟨pre, old, post, e1, e2, e3, e4⟩ := RepL.get h3 hxi
    have hol : old.length = e := by rw [e3.length]; exact h4 _ (List.mem_of_getElem? hxi)
    obtain ⟨pre2, old2, post2, f1, f2, f3, f4⟩ := D.set_rep hset hsd e3
    have hcl : (a.eval y).cells.size = (AV.d d).size := by rw [← Array.length_toList, hc3, hc1.length]
    have hos : os ++ rest = pre ++ pre2 ++ old2 ++ (post2 ++ (post ++ rest)) := by rw [e1, f1]; simp
    have h1' : w.heap[b]? = some (.cells (pre ++ pre2 ++ old2 ++ (post2 ++ (post ++ rest))).toArray T' z') := by rw [h1, hos]
    have h2' : unfrozen z' (pre ++ pre2 ++ old2 ++ (post2 ++ (post ++ rest))).length := by rw [← hos]; exact h2
    have hrun := run_storeVar (P := P) (T := T) (agg := (AV.d d).isAgg) (v := a.eval y) h1' h2' (by rw [hcl]; exact ht) (by rw [hcl]; exact f3) (by rw [hc3]; exact hc1.cell)
    have hcsl : cs.length = old2.length := by rw [hcd.length, f3]
    have hz := f4 cs hcd
    have hze : z.size = e := by
      rw [← hz.length, ← hol, f1]; simp [hcsl]
    rw [hc3] at hrun
    refine ⟨_, ?_, ρ, X, hs.lay hu rfl hb0 h1' (cs' := pre ++ pre2 ++ cs ++ (post2 ++ (post ++ rest))) ?_ (fun Y g hh => .inr ⟨b, pre ++ (pre2 ++ cs ++ post2) ++ post, rest, T', z', hb0, ?_, ?_, ?_, ?_⟩) (fun m hm => by cases hm) (fun _ _ => trivial) (fun m hm => by cases hm)⟩
    · simp only [execOp, ho]
      refine run_skip ?_
      simp only [Instr.storeAt, hxv, Instr.sureAddr]
      have : pOff (.ix i e :: q :: p') = (pre ++ pre2).length := by
        rw [List.length_append, f2, e2, D.sizes_const _ (fun y hy => h4 y (List.mem_of_mem_take hy)), List.length_take, Nat.min_eq_left (by omega)]; rfl
      rw [this]
      exact hrun
    · simp [hcsl]
    · rw [hh]; simp
    · have : (pre ++ (pre2 ++ cs ++ post2) ++ post ++ rest).length = (os ++ rest).length := by rw [e1, f1]; simp [hcsl]
      rw [this]; exact h2
    · exact (e4 z _ hz).mono g.ext g.off g.own
    · exact D.sizes_set h4 hze
  · cases h
def aBox (nm : Nat) (v : AV) : Option Res := bif v.plain then some ⟨True, .ptr nm [], [(nm, .var v)]⟩ else none
theorem new_var {S : St} {ρ : Nat → Option Nat} {X : Nat → Prop} {a : Act} {w : World} (hs : Sim S ρ X a w) {nm : Nat} {x : AV} {cs : List Value} {T : TypeId} {dst : Option Tmp} (hf : S.hp nm = none)
    (hx : RepC ρ X w x cs) (hn : ∀ n, n ∈ x.names → S.hp n ≠ none) :
    ∃ ρ' X', Sim (S.upd dst (.ptr nm []) [(nm, .var x)]) ρ' X' (a.put dst (.pointer (some ⟨w.heap.size, 0, none⟩))) (w.alloc (.cells cs.toArray T)) ∧
      Evo S (S.upd dst (.ptr nm []) [(nm, .var x)]) ρ ρ' X X' w (w.alloc (.cells cs.toArray T)) := by
  refine hs.new hf (alloc_new w cs.toArray T (0, 0)) (fun ρ' X' g hρ hρn => ⟨w.heap.size, cs, T, (0, 0), hρn, ?_, .inl rfl, hx.mono g (fun n h => hρ n (hn n h))⟩) hn (fun ρ' X' g hρ hρn => ?_) (fun n h => ?_)
  · exact (alloc_new w cs.toArray T (0, 0)).2
  · exact ⟨_, .ptr [] hρn, rfl⟩
  · simp [AV.names] at h; exact .inr h
theorem steps_new {P : Program} {o : Oper} {S : St} {nm : Nat} {x : AV}
    (h : ∀ (ρ : Nat → Option Nat) (X : Nat → Prop) (a : Act) (w : World), Sim S ρ X a w → ∃ cs T, RepC ρ X w x cs ∧ (∀ n, n ∈ x.names → S.hp n ≠ none) ∧
      (execOp a.eval o).run P w = .ok (.value (.pointer (some ⟨w.heap.size, 0, none⟩))) (w.alloc (.cells cs.toArray T))) (hf : S.hp nm = none) :
    StepsTo P o S (S.upd o.dst (.ptr nm []) [(nm, .var x)]) := by
  intro ρ X a w hs
  obtain ⟨cs, T, h1, h2, h3⟩ := h ρ X a w hs
  unfold Does
  rw [h3]
  exact new_var hs hf h1 h2
theorem aBox_sound {P : Program} {T : TypeId} {o : Oper} {x : Operand} {S : St} {res : Res} {nm : Nat} (ho : o.op = .box T x) (h : aBox nm (S.ev x) = some res) (hf : S.hp nm = none) :
    StepsTo P o S (S.upd o.dst res.r res.ws) := by
  unfold aBox at h
  cases hp : (S.ev x).plain <;> simp only [hp, cond_true, cond_false] at h <;> cases h
  refine steps_new (fun ρ X a w hs => ?_) hf
  obtain ⟨cs, h1, h2, h3⟩ := repA_cells hp (hs.ev x)
  refine ⟨cs, T, h1, hs.evNames x, ?_⟩
  simp only [execOp, ho]
  refine run_map ?_
  have : (a.eval x).cells = cs.toArray := by rw [← h3]
  simp only [Instr.box, newVar, newRow, this]
  rfl
def D.zero (P : Program) : Nat → TypeId → D
  | 0, _ => .nilp
  | f + 1, T => match P.underlying T with
    | some (.int k) => .int k 0
    | some .bool => .bool false
    | some .string => .str .empty
    | some (.array n e) => .arr n (szOf P e) (List.replicate n (D.zero P f e))
    | some (.struct fields) => .st (fields.toList.map fun fd => D.zero P f fd.type)
    | some (.slice _) => .nils
    | some (.func _ _ _) => .nilf
    | some (.interface _) => .nili
    | _ => .nilp
mutual
def D.flat : D → List Value
  | .int k n => [.int k n]
  | .bool b => [.bool b]
  | .str s => [.string s]
  | .st fs => D.flats fs
  | .arr _ _ xs => D.flats xs
  | .sl _ => []
  | .nils => [.slice none 0 0]
  | .nilp => [.pointer none]
  | .nilf => [.nilFunc]
  | .nili => [.nilIface]
def D.flats : List D → List Value
  | [] => []
  | x :: xs => D.flat x ++ D.flats xs
end
mutual
def D.noSl : D → Bool
  | .sl _ => false
  | .st fs => D.noSls fs
  | .arr n e xs => xs.length.beq n && D.noSls xs && D.evens e xs
  | _ => true
def D.noSls : List D → Bool
  | [] => true
  | x :: xs => D.noSl x && D.noSls xs
def D.evens (e : Nat) : List D → Bool
  | [] => true
  | x :: xs => (D.size x).beq e && D.evens e xs
end
theorem D.evens_spec {e : Nat} : ∀ {xs : List D}, D.evens e xs = true → ∀ x, x ∈ xs → x.size = e
  | [], _, x, hx => by cases hx
  | y :: ys, h, x, hx => by
    simp only [D.evens, Bool.and_eq_true] at h
    rcases List.mem_cons.1 hx with rfl | hx
    · exact Nat.eq_of_beq_eq_true h.1
    · exact D.evens_spec h.2 x hx
mutual
theorem D.flat_rep {X : Nat → Prop} {w : World} : ∀ (x : D), x.noSl = true → RepD X w x x.flat
  | .int k n, _ => .int k n
  | .bool b, _ => .bool b
  | .str s, _ => .str s
  | .nils, _ => .nils
  | .nilp, _ => .nilp
  | .nilf, _ => .nilf
  | .nili, _ => .nili
  | .sl _, h => by cases h
  | .st fs, h => .st (D.flats_rep fs h)
  | .arr n e xs, h => by
    simp only [D.noSl, Bool.and_eq_true] at h
    exact .arr (Nat.eq_of_beq_eq_true h.1.1) (D.evens_spec h.2) (D.flats_rep xs h.1.2)
theorem D.flats_rep {X : Nat → Prop} {w : World} : ∀ (xs : List D), D.noSls xs = true → RepL X w xs (D.flats xs)
  | [], _ => .nil
  | x :: xs, h => by
    simp only [D.noSls, Bool.and_eq_true] at h
    exact .cons (D.flat_rep x h.1) (D.flats_rep xs h.2)
end
def zeq : Value → Value → Bool
  | .int k a, .int k' b => decide (k = k') && decide (a = b)
  | .bool a, .bool b => a == b
  | .string a, .string b => a.size.beq 0 && b.size.beq 0
  | .slice none 0 0, .slice none 0 0 => true
  | .pointer none, .pointer none => true
  | .nilFunc, .nilFunc => true
  | .nilIface, .nilIface => true
  | _, _ => false
def zeqs : List Value → List Value → Bool
  | [], [] => true
  | x :: xs, y :: ys => zeq x y && zeqs xs ys
  | _, _ => false
theorem zeq_eq {x y : Value} (h : zeq x y = true) : x = y := by
  unfold zeq at h
  split at h
  · simp at h; rw [h.1, h.2]
  · simp at h; rw [h]
  · rename_i a b
    simp only [Bool.and_eq_true] at h
    have h1 := Nat.eq_of_beq_eq_true h.1
    have h2 := Nat.eq_of_beq_eq_true h.2
    congr 1
    apply ByteArray.ext
    apply Array.ext
    · show a.size = b.size; omega
    · intro i hi; have : i < a.size := hi; omega
  · rfl
  · rfl
  · rfl
  · rfl
  · cases h
theorem zeqs_eq : ∀ {xs ys : List Value}, zeqs xs ys = true → xs = ys
  | [], [], _ => rfl
  | x :: xs, y :: ys, h => by
    simp only [zeqs, Bool.and_eq_true] at h
    rw [zeq_eq h.1, zeqs_eq h.2]
  | [], _ :: _, h => by cases h
  | _ :: _, [], h => by cases h
def zeroD (P : Program) (T : TypeId) : Option D :=
  match (P.info? T).bind (·.zero) with
  | some v => bif zeqs v.cells.toList (D.zero P 8 T).flat && (D.zero P 8 T).noSl then some (D.zero P 8 T) else none
  | none => none
theorem zeroD_run {P : Program} {T : TypeId} {x : D} (h : zeroD P T = some x) (w : World) : ∃ v, (zeroValue T).run P w = .ok v w ∧ v.cells.toList = x.flat ∧ x.noSl = true := by
  unfold zeroD at h
  split at h <;> try (cases h; done)
  rename_i v hv
  cases hb : zeqs v.cells.toList (D.zero P 8 T).flat && (D.zero P 8 T).noSl <;> simp only [hb, cond_true, cond_false] at h <;> cases h
  simp only [Bool.and_eq_true] at hb
  refine ⟨v, ?_, zeqs_eq hb.1, hb.2⟩
  cases hi : P.info? T with
  | none => rw [hi] at hv; cases hv
  | some i =>
    rw [hi] at hv
    have hz : i.zero = some v := hv
    simp only [zeroValue, typeInfo, program]
    simp [Sem.run, Sem.run_bind, hi, hz]
def aAlloc (P : Program) (nm : Nat) (T : TypeId) : Option Res :=
  match zeroD P T with
  | some x => some ⟨True, .ptr nm [], [(nm, .var (.d x))]⟩
  | none => none
theorem aAlloc_sound {P : Program} {T : TypeId} {o : Oper} {S : St} {res : Res} {nm : Nat} (ho : o.op = .alloc T) (h : aAlloc P nm T = some res) (hf : S.hp nm = none) :
    StepsTo P o S (S.upd o.dst res.r res.ws) := by
  unfold aAlloc at h
  split at h <;> cases h
  rename_i x hx
  refine steps_new (fun ρ X a w hs => ?_) hf
  obtain ⟨v, h1, h2, h3⟩ := zeroD_run hx w
  refine ⟨x.flat, T, .d (D.flat_rep x h3), (fun n hn => by cases hn), ?_⟩
  simp only [execOp, ho]
  refine run_map ?_
  simp only [Instr.alloc]
  rw [run_bind_ok h1]
  have : v.cells = x.flat.toArray := by rw [← h2]
  simp only [newVar, newRow, this]
  rfl
end Go.Sym

namespace Go.Sym
def fldOf (P : Program) (T : TypeId) (f : Nat) : Option (Nat × TypeId) :=
  match P.underlying T with
  | some (.struct fields) => match fields[f]? with
    | some fd => some (fd.offset, fd.type)
    | none => none
  | _ => none
theorem szOf_run {P : Program} {T : TypeId} (h : szOf P T ≠ 0) (w : World) : (sizeOf T).run P w = .ok (szOf P T) w := by
  unfold szOf at *
  cases hi : P.info? T with
  | none => rw [hi] at h; exact absurd rfl h
  | some i =>
    simp only [sizeOf, typeInfo, program]
    simp [Sem.run, Sem.run_bind, hi]
theorem fldOf_spec {P : Program} {T : TypeId} {f off : Nat} {ft : TypeId} (h : fldOf P T f = some (off, ft)) :
    ∃ fields fd, P.underlying T = some (.struct fields) ∧ fields[f]? = some fd ∧ fd.offset = off ∧ fd.type = ft := by
  unfold fldOf at h
  split at h <;> try (cases h; done)
  rename_i fields hu
  split at h <;> cases h
  rename_i fd hf
  exact ⟨fields, fd, hu, hf, rfl, rfl⟩
def aFieldAddr (P : Program) (T : TypeId) (f : Nat) (x : AV) : Option Res :=
  match fldOf P T f with
  | some (off, ft) => bif (szOf P ft).beq 0 then none else match x with
    | .ptr o p => some ⟨True, .ptr o (p ++ [.fld f off]), []⟩
    | .dptr x => match D.nav x [.fld f off] with
      | some (s, y) => some ⟨s, .dptr y, []⟩
      | none => none
    | _ => none
  | none => none
theorem RowAt.part {w : World} {b q : Nat} {pre c post : List Value} (h : RowAt w b q (pre ++ c ++ post)) : RowAt w b (q + pre.length) c := by
  intro i v hv
  have hi : i < c.length := (List.getElem?_eq_some_iff.1 hv).1
  have := h (pre.length + i) v (by
    rw [List.append_assoc, List.getElem?_append_right (by omega), List.getElem?_append_left (by omega)]
    have : pre.length + i - pre.length = i := by omega
    rw [this, hv])
  rw [← this]; congr 2; omega
theorem aFieldAddr_sound {P : Program} {T : TypeId} {f : Nat} {o : Oper} {x : Operand} {S : St} {res : Res} (ho : o.op = .fieldAddr T x f) (h : aFieldAddr P T f (S.ev x) = some res) (hside : res.side) :
    StepsTo P o S (S.upd o.dst res.r res.ws) := by
  unfold aFieldAddr at h
  split at h <;> try (cases h; done)
  rename_i off ft hfo
  obtain ⟨fields, fd, hu, hf, rfl, rfl⟩ := fldOf_spec hfo
  cases hz : (szOf P fd.type).beq 0 <;> simp only [hz, cond_true, cond_false] at h <;> try (cases h; done)
  have hne : szOf P fd.type ≠ 0 := fun e => by rw [e] at hz; cases hz
  have run : ∀ (w : World) (b q : Nat) (ev : Operand → Value), ev x = .pointer (some ⟨b, q, none⟩) → (execOp ev o).run P w = .ok (.value (.pointer (some ⟨b, q + fd.offset, none⟩))) w := fun w b q ev hev => by
    simp only [execOp, ho]
    refine run_map ?_
    simp only [Instr.fieldAt]
    rw [run_bind_ok (run_underlying hu w)]
    simp only [hf, hev, Instr.sureAddr]
    rw [run_bind_ok (run_pure _ w)]
    simp only [fieldPlace, bind_assoc]
    rw [run_bind_ok (szOf_run hne w), if_neg hne, addr_add]
    rfl
  split at h
  · rename_i n p hx
    cases h
    refine steps_value fun ρ X a w hs => ?_
    have he := hs.ev x
    have hnm := hs.evNames x
    rw [hx] at he hnm
    obtain ⟨b, hb0, hv⟩ := repA_ptr he
    refine ⟨_, run w b (pOff p) a.eval hv, ?_, fun m hm => hnm m hm⟩
    have := RepC.ptr (ρ := ρ) (X := X) (w := w) (p ++ [.fld f fd.offset]) hb0
    rw [pOff_append] at this
    exact repA_of_c this
  · rename_i y hx
    split at h <;> cases h
    rename_i s z hn
    refine steps_value fun ρ X a w hs => ?_
    have he := hs.ev x
    rw [hx] at he
    obtain ⟨b, q, cs, hv, h1, h2, h3, h4⟩ := repA_dptr he
    obtain ⟨pre, c, post, e1, e2, e3⟩ := D.nav_rep hn hside h4
    refine ⟨_, run w b q a.eval hv, ?_, fun m hm => by cases hm⟩
    rw [e1] at h3
    have h5 := h3.part
    rw [e2] at h5
    exact repA_of_c (.dptr h1 h2 h5 e3)
  · cases h
theorem run_part {P : Program} {T : TypeId} {w : World} {pre c post : List Value} {agg : Bool} {off : Nat} (h : tyOK P T c.length agg = true) (hp : pre.length = off) (h1 : agg = false → c.length = 1) :
    (part T (pre ++ c ++ post).toArray off).run P w = .ok (wrapV agg c) w := by
  simp only [part]
  rw [run_bind_ok (tyOK_agg h w)]
  cases agg with
  | true =>
    simp only [if_true]
    rw [run_bind_ok (tyOK_size h w)]
    simp only [run_pure, wrapV, if_true]
    congr 2
    apply Array.ext'
    rw [Array.toList_extract]
    simp only [List.extract_eq_take_drop]
    rw [← hp, List.append_assoc, List.drop_append_of_le_length (by omega), List.drop_length, List.nil_append]
    have : pre.length + c.length - pre.length = c.length := by omega
    rw [this, List.take_append_of_le_length (by omega), List.take_length]
  | false =>
    obtain ⟨v, rfl⟩ := List.length_eq_one_iff.1 (h1 rfl)
    simp only [Bool.false_eq_true, if_false, List.getElem?_toArray]
    rw [List.append_assoc, List.getElem?_append_right (by omega)]
    have : off - pre.length = 0 := by omega
    rw [this]
    simp [wrapV]
def aField (P : Program) (T : TypeId) (f : Nat) (x : AV) : Option Res :=
  match fldOf P T f with
  | some (off, ft) => match x.isAgg, AV.nav x [.fld f off] with
    | true, some (s, y) => bif tyOK P ft y.size y.isAgg then some ⟨s, y, []⟩ else none
    | _, _ => none
  | none => none
theorem repA_agg {ρ : Nat → Option Nat} {X : Nat → Prop} {w : World} {x : AV} {v : Value} (h : RepA ρ X w x v) (ha : x.isAgg = true) : ∃ cs, RepC ρ X w x cs ∧ v = .agg cs.toArray := by
  have key : RepA1 ρ X w x v := by cases x <;> first | exact h | cases ha
  obtain ⟨cs, h1, h2⟩ := key
  exact ⟨cs, h1, by rw [h2, ha]; rfl⟩
theorem aField_sound {P : Program} {T : TypeId} {f : Nat} {o : Oper} {x : Operand} {S : St} {res : Res} (ho : o.op = .field T x f) (h : aField P T f (S.ev x) = some res) (hside : res.side) :
    StepsTo P o S (S.upd o.dst res.r res.ws) := by
  unfold aField at h
  split at h <;> try (cases h; done)
  rename_i off ft hfo
  obtain ⟨fields, fd, hu, hf, rfl, rfl⟩ := fldOf_spec hfo
  split at h <;> try (cases h; done)
  rename_i s y ha hn
  cases ht : tyOK P fd.type y.size y.isAgg <;> simp only [ht, cond_true, cond_false] at h <;> cases h
  refine steps_value fun ρ X a w hs => ?_
  obtain ⟨cs, h1, h2⟩ := repA_agg (hs.ev x) ha
  obtain ⟨pre, c, post, e1, e2, e3⟩ := AV.nav_rep hn hside h1
  refine ⟨wrapV y.isAgg c, ?_, repA_of_c e3, fun m hm => hs.evNames x m (AV.nav_names hn m hm)⟩
  simp only [execOp, ho]
  refine run_map ?_
  simp only [Instr.field]
  rw [run_bind_ok (run_underlying hu w)]
  simp only [hf, h2, asAgg]
  rw [run_bind_ok (run_pure _ w), e1]
  refine run_part (by rw [e3.length]; exact ht) ?_ (fun hag => notAgg_size e3 hag)
  rw [e2]; rfl
def aIndexAddr (P : Program) (T : TypeId) (x : AV) (i : AV) : Option Res :=
  match i with
  | .d (.int _ i) => match P.underlying T with
    | some (.slice el) => match x with
      | .d (.sl xs) => let y := xs.getD i.toNat .nilp
        bif (szOf P el).beq (D.ty P 8 el y).size && !(szOf P el).beq 0 then some ⟨((0 ≤ i ∧ i < xs.length) ∧ y = D.ty P 8 el y), .dptr (D.ty P 8 el y), []⟩ else none
      | .sl o p e off len => bif (szOf P el).beq e && !e.beq 0 then some ⟨0 ≤ i ∧ i < len, .ptr o (p ++ [.ix (off + i.toNat) e]), []⟩ else none
      | _ => none
    | some (.array n el) => match x with
      | .ptr o p => bif (szOf P el).beq 0 then none else some ⟨0 ≤ i ∧ i < n, .ptr o (p ++ [.ix i.toNat (szOf P el)]), []⟩
      | .dptr (.arr m e xs) => let y := xs.getD i.toNat .nilp
        bif (szOf P el).beq (D.ty P 8 el y).size && !(szOf P el).beq 0 && (szOf P el).beq e && m.beq n then some ⟨((0 ≤ i ∧ i < n) ∧ y = D.ty P 8 el y), .dptr (D.ty P 8 el y), []⟩ else none
      | _ => none
    | _ => none
  | _ => none
theorem repA_sl {ρ : Nat → Option Nat} {X : Nat → Prop} {w : World} {o e off len : Nat} {p : List Stp} {v : Value} (h : RepA ρ X w (.sl o p e off len) v) :
    (ρ o = none ∧ len = 0 ∧ v = .slice none 0 0) ∨
    ∃ b cap q c T z, ρ o = some b ∧ v = .slice (some ⟨b, q, none⟩) len cap ∧ w.heap[b]? = some (.cells c T z) ∧ pOff p + (off + cap) * e ≤ c.size ∧ len ≤ cap ∧ (cap = 0 ∨ q = pOff p + off * e) := by
  obtain ⟨cs, h1, h2⟩ := h
  cases h1 with
  | slnil h => exact .inl ⟨h, rfl, h2⟩
  | sl h a b c d => exact .inr ⟨_, _, _, _, _, _, h, h2, a, b, c, d⟩
theorem aIndexAddr_sound {P : Program} {T : TypeId} {o : Oper} {x ix : Operand} {S : St} {res : Res} (ho : o.op = .indexAddr T x ix) (h : aIndexAddr P T (S.ev x) (S.ev ix) = some res) (hside : res.side) :
    StepsTo P o S (S.upd o.dst res.r res.ws) := by
  unfold aIndexAddr at h
  split at h <;> try (cases h; done)
  rename_i k i hi
  have inb : ∀ {l : List D}, 0 ≤ i → i < l.length → l[i.toNat]? = some (l.getD i.toNat .nilp) := fun h0 h1 => by
    rw [List.getD_eq_getElem?_getD, List.getElem?_eq_getElem (by omega)]; rfl
  split at h <;> try (cases h; done)
  · rename_i el hu
    have run : ∀ (w : World) (b q len cap : Nat) (ev : Operand → Value), szOf P el ≠ 0 → 0 ≤ i → i < len → ev ix = .int k i → ev x = .slice (some ⟨b, q, none⟩) len cap →
        (execOp ev o).run P w = .ok (.value (.pointer (some ⟨b, q + i.toNat * szOf P el, none⟩))) w := fun w b q len cap ev hz h0 h1 hev hex => by
      simp only [execOp, ho]
      refine run_map ?_
      simp only [Instr.indexAt, hev, hex, asIntOf]
      rw [run_bind_ok (run_pure _ w)]
      dsimp only
      rw [run_bind_ok (run_underlying hu w)]
      simp only []
      rw [run_bind_ok (run_pure _ w)]
      dsimp only
      rw [run_bind_ok (run_underlying hu w)]
      dsimp only
      rw [if_pos ⟨h0, h1⟩, run_bind_ok (szOf_run hz w), addr_add]
      rfl
    split at h <;> try (cases h; done)
    · rename_i xs hx
      generalize hy : xs.getD i.toNat .nilp = y at h
      simp only at h
      cases hb : (szOf P el).beq (D.ty P 8 el y).size && !(szOf P el).beq 0 <;> simp only [hb, cond_true, cond_false] at h <;> cases h
      simp only [Bool.and_eq_true, Bool.not_eq_true'] at hb
      obtain ⟨⟨h0, h1⟩, hty⟩ := hside
      have hsz := Nat.eq_of_beq_eq_true hb.1
      have hne : szOf P el ≠ 0 := fun e => by rw [e] at hb; cases hb.2
      refine steps_value fun ρ X a w hs => ?_
      have he := hs.ev x
      rw [hx] at he
      have hei := hs.ev ix
      rw [hi] at hei
      obtain ⟨cs, hc1, hc2⟩ := repA_d he
      rw [← hty] at hsz ⊢
      have hel : xs[i.toNat]? = some y := by rw [← hy]; exact inb h0 h1
      cases hc1 with
      | slnil => simp at hel
      | sl a1 a2 a3 a4 a5 a6 =>
        rename_i b q cap e cs
        have hes : e = szOf P el := by rw [hsz]; exact (a3 y (List.mem_of_getElem? hel)).symm
        subst hes
        obtain ⟨pre, c, post, e1, e2, e3, _⟩ := RepL.get a6 hel
        refine ⟨_, run w b q xs.length cap a.eval hne h0 (by simpa using h1) (repA_int hei) hc2, ?_, fun m hm => by cases hm⟩
        rw [e1] at a5
        have h5 := a5.part
        rw [e2, D.sizes_const _ (fun y hy => a3 y (List.mem_of_mem_take hy)), List.length_take, Nat.min_eq_left (by have := (List.getElem?_eq_some_iff.1 hel).1; omega)] at h5
        exact repA_of_c (.dptr a1 a2 h5 e3)
    · rename_i n p e off len hx
      cases hb : (szOf P el).beq e && !e.beq 0 <;> simp only [hb, cond_true, cond_false] at h <;> cases h
      simp only [Bool.and_eq_true, Bool.not_eq_true'] at hb
      have hsz := Nat.eq_of_beq_eq_true hb.1
      have hne : e ≠ 0 := fun e' => by rw [e'] at hb; cases hb.2
      obtain ⟨h0, h1⟩ := hside
      refine steps_value fun ρ X a w hs => ?_
      have he := hs.ev x
      have hnm := hs.evNames x
      rw [hx] at he hnm
      have hei := hs.ev ix
      rw [hi] at hei
      rcases repA_sl he with ⟨_, g0, _⟩ | ⟨b, cap, q, c, T', z, g0, g1, g2, g3, g4, g5⟩
      · omega
      have hq : q = pOff p + off * e := by
        rcases g5 with g5 | g5
        · omega
        · exact g5
      refine ⟨_, run w b q len cap a.eval (by rw [hsz]; exact hne) h0 (by simpa using h1) (repA_int hei) g1, ?_, fun m hm => hnm m hm⟩
      have := RepC.ptr (ρ := ρ) (X := X) (w := w) (p ++ [.ix (off + i.toNat) e]) g0
      rw [pOff_append] at this
      have hoff : pOff p + pOff [Stp.ix (off + i.toNat) e] = q + i.toNat * szOf P el := by
        rw [hq, hsz]; show pOff p + ((off + i.toNat) * e + 0) = _; rw [Nat.add_mul]; omega
      rw [hoff] at this
      exact repA_of_c this
  · rename_i n el hu
    have run : ∀ (w : World) (b q : Nat) (ev : Operand → Value), szOf P el ≠ 0 → 0 ≤ i → i < n → ev ix = .int k i → ev x = .pointer (some ⟨b, q, none⟩) →
        (execOp ev o).run P w = .ok (.value (.pointer (some ⟨b, q + i.toNat * szOf P el, none⟩))) w := fun w b q ev hz h0 h1 hev hex => by
      simp only [execOp, ho]
      refine run_map ?_
      simp only [Instr.indexAt, hev, hex, asIntOf]
      rw [run_bind_ok (run_pure _ w)]
      dsimp only
      rw [run_bind_ok (run_underlying hu w)]
      simp only [Instr.sureAddr]
      rw [run_bind_ok (run_pure _ w), run_bind_ok (run_pure _ w)]
      dsimp only
      rw [run_bind_ok (run_underlying hu w)]
      dsimp only
      rw [if_pos ⟨h0, h1⟩, run_bind_ok (szOf_run hz w), addr_add]
      rfl
    split at h <;> try (cases h; done)
    · rename_i m p hx
      cases hb : (szOf P el).beq 0 <;> simp only [hb, cond_true, cond_false] at h <;> cases h
      have hne : szOf P el ≠ 0 := fun e => by rw [e] at hb; cases hb
      obtain ⟨h0, h1⟩ := hside
      refine steps_value fun ρ X a w hs => ?_
      have he := hs.ev x
      have hnm := hs.evNames x
      rw [hx] at he hnm
      have hei := hs.ev ix
      rw [hi] at hei
      obtain ⟨b, hb0, hv⟩ := repA_ptr he
      refine ⟨_, run w b (pOff p) a.eval hne h0 h1 (repA_int hei) hv, ?_, fun m hm => hnm m hm⟩
      have := RepC.ptr (ρ := ρ) (X := X) (w := w) (p ++ [.ix i.toNat (szOf P el)]) hb0
      rw [pOff_append] at this
      exact repA_of_c this
    · rename_i m e xs hx
      generalize hy : xs.getD i.toNat .nilp = y at h
      simp only at h
      cases hb : (szOf P el).beq (D.ty P 8 el y).size && !(szOf P el).beq 0 && (szOf P el).beq e && m.beq n <;> simp only [hb, cond_true, cond_false] at h <;> cases h
      simp only [Bool.and_eq_true, Bool.not_eq_true'] at hb
      obtain ⟨⟨⟨hb1, hb2⟩, hb3⟩, hb4⟩ := hb
      obtain ⟨⟨h0, h1⟩, hty⟩ := hside
      have hsz := Nat.eq_of_beq_eq_true hb1
      have hne : szOf P el ≠ 0 := fun e => by rw [e] at hb2; cases hb2
      have hes := Nat.eq_of_beq_eq_true hb3
      have hmn := Nat.eq_of_beq_eq_true hb4
      subst hes; subst hmn
      refine steps_value fun ρ X a w hs => ?_
      have he := hs.ev x
      rw [hx] at he
      have hei := hs.ev ix
      rw [hi] at hei
      obtain ⟨b, q, cs, hv, g1, g2, g3, g4⟩ := repA_dptr he
      rw [← hty] at hsz ⊢
      cases g4 with
      | arr a1 a2 a3 =>
        have hel : xs[i.toNat]? = some y := by rw [← hy]; exact inb h0 (by omega)
        obtain ⟨pre, c, post, e1, e2, e3, _⟩ := RepL.get a3 hel
        refine ⟨_, run w b q a.eval hne h0 h1 (repA_int hei) hv, ?_, fun m hm => by cases hm⟩
        rw [e1] at g3
        have h5 := g3.part
        rw [e2, D.sizes_const _ (fun y hy => a2 y (List.mem_of_mem_take hy)), List.length_take, Nat.min_eq_left (by omega)] at h5
        exact repA_of_c (.dptr g1 g2 h5 e3)
end Go.Sym

namespace Go.Sym
def aIndex (P : Program) (T : TypeId) (x : AV) (i : AV) : Option Res :=
  match x, i with
  | .d (.arr n e xs), .d (.int _ i) => match P.underlying T with
    | some (.array m el) => let y := xs.getD i.toNat .nilp
      bif m.beq n && (szOf P el).beq e && !(szOf P el).beq 0 && tyOK P el (D.ty P 8 el y).size (D.ty P 8 el y).isAgg then some ⟨((0 ≤ i ∧ i < n) ∧ y = D.ty P 8 el y), .d (D.ty P 8 el y), []⟩ else none
    | _ => none
  | .d (.str s), .d (.int _ i) => match P.underlying T with
    | some .string => some ⟨0 ≤ i ∧ i < s.size, .d (.int .u8 (s.data.toList.getD i.toNat 0).toNat), []⟩
    | _ => none
  | _, _ => none
theorem aIndex_sound {P : Program} {T : TypeId} {o : Oper} {x ix : Operand} {S : St} {res : Res} (ho : o.op = .index T x ix) (h : aIndex P T (S.ev x) (S.ev ix) = some res) (hside : res.side) :
    StepsTo P o S (S.upd o.dst res.r res.ws) := by
  unfold aIndex at h
  split at h <;> try (cases h; done)
  · rename_i n e xs k i hx hi
    split at h <;> try (cases h; done)
    rename_i m el hu
    generalize hy : xs.getD i.toNat .nilp = y at h
    simp only at h
    cases hb : m.beq n && (szOf P el).beq e && !(szOf P el).beq 0 && tyOK P el (D.ty P 8 el y).size (D.ty P 8 el y).isAgg <;> simp only [hb, cond_true, cond_false] at h <;> cases h
    simp only [Bool.and_eq_true, Bool.not_eq_true'] at hb
    obtain ⟨⟨⟨hb1, hb2⟩, hb3⟩, hb4⟩ := hb
    have hmn := Nat.eq_of_beq_eq_true hb1
    have hes := Nat.eq_of_beq_eq_true hb2
    have hne : szOf P el ≠ 0 := fun e => by rw [e] at hb3; cases hb3
    subst hmn; subst hes
    obtain ⟨⟨h0, h1⟩, hty⟩ := hside
    rw [← hty] at hb4 ⊢
    refine steps_value fun ρ X a w hs => ?_
    have he := hs.ev x
    rw [hx] at he
    have hei := hs.ev ix
    rw [hi] at hei
    obtain ⟨cs, g1, g2⟩ := repA_d he
    cases g1 with
    | arr a1 a2 a3 =>
      have hel : xs[i.toNat]? = some y := by rw [← hy, List.getD_eq_getElem?_getD, List.getElem?_eq_getElem (by omega)]; rfl
      obtain ⟨pre, c, post, e1, e2, e3, _⟩ := RepL.get a3 hel
      refine ⟨wrapV y.isAgg c, ?_, repA_mk e3, fun m hm => by cases hm⟩
      simp only [execOp, ho]
      refine run_map ?_
      simp only [Instr.index, repA_int hei, g2, asIntOf, wrapV, D.isAgg, if_true]
      rw [run_bind_ok (run_pure _ w)]
      dsimp only
      rw [run_bind_ok (run_underlying hu w)]
      dsimp only
      rw [if_pos ⟨h0, h1⟩, run_bind_ok (szOf_run hne w), e1]
      refine run_part (by rw [e3.length]; exact hb4) ?_ (fun hag => notAgg_size (ρ := ρ) (.d e3) hag)
      rw [e2, D.sizes_const _ (fun y hy => a2 y (List.mem_of_mem_take hy)), List.length_take, Nat.min_eq_left (by omega)]
  · rename_i s k i hx hi
    split at h <;> cases h
    rename_i hu
    obtain ⟨h0, h1⟩ := hside
    refine steps_value fun ρ X a w hs => ?_
    have he := hs.ev x
    rw [hx] at he
    have hei := hs.ev ix
    rw [hi] at hei
    have hlt : i.toNat < s.size := by omega
    refine ⟨.int .u8 (s[i.toNat]'hlt).toNat, ?_, ?_, fun m hm => by cases hm⟩
    · simp only [execOp, ho]
      refine run_map ?_
      simp only [Instr.index, repA_int hei, repA_str he, asIntOf]
      rw [run_bind_ok (run_pure _ w)]
      dsimp only
      rw [run_bind_ok (run_underlying hu w)]
      dsimp only
      rw [if_pos h0, getElem?_pos s i.toNat hlt]
      rfl
    · have : s.data.toList.getD i.toNat 0 = s[i.toNat]'hlt := by
        rw [List.getD_eq_getElem?_getD, List.getElem?_eq_getElem (by simpa using hlt)]
        simp; rfl
      rw [this]
      exact ⟨_, .d (.int _ _), rfl⟩
def loOf : Option AV → Option Int
  | none => some 0
  | some (.d (.int _ i)) => some i
  | _ => none
def hiOf (n : Nat) : Option AV → Option Int
  | none => some n
  | some (.d (.int _ i)) => some i
  | _ => none
def cutD (xs : List D) (lo hi : Int) : List D := (xs.take hi.toNat).drop lo.toNat
def aSlice (P : Program) (T : TypeId) (hp : Nat → Option AObj) (x : AV) (lo hi : Option AV) : Option Res :=
  match P.underlying T with
  | some (.slice el) => bif (szOf P el).beq 0 then none else match x with
    | .d (.sl xs) => match loOf lo, hiOf xs.length hi with
      | some l, some h => some ⟨(0 ≤ l ∧ l ≤ h ∧ h ≤ xs.length) ∧ ∀ y, y ∈ xs → y.size = szOf P el, .d (.sl (cutD xs l h)), []⟩
      | _, _ => none
    | .sl o p e off len => match loOf lo, hiOf len hi with
      | some l, some h => bif (szOf P el).beq e then some ⟨0 ≤ l ∧ l ≤ h ∧ h ≤ len, .sl o p e (off + l.toNat) (h.toNat - l.toNat), []⟩ else none
      | _, _ => none
    | _ => none
  | some (.array n el) => bif (szOf P el).beq 0 then none else match x with
    | .ptr o p => match loOf lo, hiOf n hi, hp o with
      | some l, some h, some (.var u) => match AV.nav u p with
        | some (s, .d (.arr m e _)) => bif m.beq n && (szOf P el).beq e then some ⟨(0 ≤ l ∧ l ≤ h ∧ h ≤ n) ∧ s, .sl o p e l.toNat (h.toNat - l.toNat), []⟩ else none
        | _ => none
      | _, _, _ => none
    | .dptr (.arr m e xs) => match loOf lo, hiOf n hi with
      | some l, some h => bif m.beq n && (szOf P el).beq e then some ⟨0 ≤ l ∧ l ≤ h ∧ h ≤ n, .d (.sl (cutD xs l h)), []⟩ else none
      | _, _ => none
    | _ => none
  | some .string => match x with
    | .d (.str s) => match loOf lo, hiOf s.size hi with
      | some l, some h => some ⟨0 ≤ l ∧ l ≤ h ∧ h ≤ s.size, .d (.str (s.extract l.toNat h.toNat)), []⟩
      | _, _ => none
    | _ => none
  | _ => none
theorem loOf_rep {lo : Option Operand} {S : St} {ρ : Nat → Option Nat} {X : Nat → Prop} {a : Act} {w : World} (hs : Sim S ρ X a w) {l : Int} (h : loOf (lo.map S.ev) = some l) :
    (lo.map a.eval = none ∧ l = 0) ∨ ∃ k, lo.map a.eval = some (.int k l) := by
  cases lo with
  | none => simp only [Option.map_none, loOf, Option.some.injEq] at h; exact .inl ⟨rfl, h.symm⟩
  | some x =>
    simp only [Option.map_some] at h ⊢
    generalize hx : S.ev x = y at h
    unfold loOf at h
    split at h <;> cases h
    · rename_i h'; cases h'
    · rename_i k h'
      have := hs.ev x
      cases h'
      rw [hx] at this
      exact .inr ⟨k, by rw [repA_int this]⟩
theorem hiOf_rep {n : Nat} {hi : Option Operand} {S : St} {ρ : Nat → Option Nat} {X : Nat → Prop} {a : Act} {w : World} (hs : Sim S ρ X a w) {l : Int} (h : hiOf n (hi.map S.ev) = some l) :
    (hi.map a.eval = none ∧ l = n) ∨ ∃ k, hi.map a.eval = some (.int k l) := by
  cases hi with
  | none => simp only [Option.map_none, hiOf, Option.some.injEq] at h; exact .inl ⟨rfl, h.symm⟩
  | some x =>
    simp only [Option.map_some] at h ⊢
    generalize hx : S.ev x = y at h
    unfold hiOf at h
    split at h <;> cases h
    · rename_i h'; cases h'
    · rename_i k h'
      have := hs.ev x
      cases h'
      rw [hx] at this
      exact .inr ⟨k, by rw [repA_int this]⟩
theorem run_sliceBounds {P : Program} {b : Bool} {len cap : Nat} {lo hi : Option Value} {l h : Int} (w : World) (hl : lo = none ∧ l = 0 ∨ ∃ k, lo = some (.int k l)) (hh : hi = none ∧ h = len ∨ ∃ k, hi = some (.int k h))
    (h0 : 0 ≤ l) (h1 : l ≤ h) (h2 : h ≤ cap) : (Instr.sliceBounds b len cap lo hi none).run P w = .ok (l.toNat, h.toNat, cap) w := by
  have bd : ∀ (k : IntKind) (i : Int) (y : Nat) (c : BoundsCode), 0 ≤ i → i ≤ y → (Instr.sliceBound (.int k i) y c).run P w = .ok i.toNat w := fun k i y c h0 h1 => by
    simp only [Instr.sliceBound, asIntOf]
    rw [run_bind_ok (run_pure _ w)]
    dsimp only
    rw [if_pos ⟨h0, h1⟩]; rfl
  simp only [Instr.sliceBounds]
  rw [run_bind_ok (run_pure cap w)]
  rcases hh with ⟨rfl, rfl⟩ | ⟨k, rfl⟩
  · rw [run_bind_ok (run_pure len w)]
    rcases hl with ⟨rfl, rfl⟩ | ⟨k', rfl⟩
    · rw [run_bind_ok (run_pure 0 w)]; rfl
    · rw [run_bind_ok (bd k' l len _ h0 h1)]; rfl
  · dsimp only
    rw [run_bind_ok (bd k h cap _ (by omega) h2)]
    rcases hl with ⟨rfl, rfl⟩ | ⟨k', rfl⟩
    · rw [run_bind_ok (run_pure 0 w)]; rfl
    · rw [run_bind_ok (bd k' l h.toNat _ h0 (by omega))]; rfl
theorem RepL.cut {X : Nat → Prop} {w : World} {xs : List D} {cs : List Value} {e : Nat} (h : RepL X w xs cs) (he : ∀ x, x ∈ xs → x.size = e) {l k : Nat} (h1 : l ≤ k) (h2 : k ≤ xs.length) :
    ∃ pre c post, cs = pre ++ c ++ post ∧ pre.length = l * e ∧ RepL X w ((xs.take k).drop l) c ∧ (∀ x, x ∈ (xs.take k).drop l → x.size = e) ∧ ((xs.take k).drop l).length = k - l := by
  have hsp : xs = (xs.take k).take l ++ ((xs.take k).drop l ++ xs.drop k) := by
    rw [← List.append_assoc, List.take_append_drop, List.take_append_drop]
  have h' := h
  rw [hsp] at h'
  obtain ⟨pre, r, rfl, g1, g2⟩ := RepL.split h'
  obtain ⟨c, post, rfl, g3, g4⟩ := RepL.split g2
  refine ⟨pre, c, post, by simp, ?_, g3, fun x hx => he x (List.mem_of_mem_take (List.mem_of_mem_drop hx)), by simp; omega⟩
  rw [g1.length, D.sizes_const _ (fun x hx => he x (List.mem_of_mem_take (List.mem_of_mem_take hx))), List.length_take, List.length_take]
  congr 1
  omega
theorem aSlice_sound {P : Program} {T : TypeId} {o : Oper} {x : Operand} {lo hi : Option Operand} {S : St} {res : Res} {hp : Nat → Option AObj} (hle : ∀ n x, hp n = some x → S.hp n = some x) (ho : o.op = .slice T x lo hi none)
    (h : aSlice P T hp (S.ev x) (lo.map S.ev) (hi.map S.ev) = some res) (hside : res.side) : StepsTo P o S (S.upd o.dst res.r res.ws) := by
  unfold aSlice at h
  split at h <;> try (cases h; done)
  · rename_i el hu
    cases hz : (szOf P el).beq 0 <;> simp only [hz, cond_true, cond_false] at h <;> try (cases h; done)
    have hne : szOf P el ≠ 0 := fun e => by rw [e] at hz; cases hz
    have run : ∀ (w : World) (ev : Operand → Value) (base : Option Addr) (len cap : Nat) (l k : Int), ev x = .slice base len cap → (lo.map ev = none ∧ l = 0 ∨ ∃ k, lo.map ev = some (.int k l)) →
        (hi.map ev = none ∧ k = len ∨ ∃ j, hi.map ev = some (.int j k)) → 0 ≤ l → l ≤ k → k ≤ cap →
        (execOp ev o).run P w = .ok (.value (.slice (if cap = l.toNat then base else base.map (·.add (l.toNat * szOf P el))) (k.toNat - l.toNat) (cap - l.toNat))) w := by
      intro w ev base len cap l k hx hl hk h0 h1 h2
      simp only [execOp, ho]
      refine run_map ?_
      simp only [Instr.sliceAt]
      rw [run_bind_ok (run_underlying hu w)]
      dsimp only
      simp only [Instr.slice, hx, Option.map_none]
      rw [run_bind_ok (run_underlying hu w)]
      dsimp only
      rw [run_bind_ok (run_sliceBounds w hl hk h0 h1 h2)]
      dsimp only
      rw [run_bind_ok (szOf_run hne w)]
      rfl
    split at h <;> try (cases h; done)
    · rename_i xs hx
      split at h <;> try (cases h; done)
      rename_i l k hl hk
      have hall : (0 ≤ l ∧ l ≤ k ∧ k ≤ xs.length) ∧ res.r = .d (.sl (cutD xs l k)) ∧ res.ws = [] ∧ (xs = [] ∨ szOf P el = (xs.headD .nilp).size ∨ ∀ y, y ∈ xs → y.size = szOf P el) := by
        cases h
        exact ⟨hside.1, rfl, rfl, .inr (.inr hside.2)⟩
      obtain ⟨⟨h0, h1, h2⟩, hr, hws, hsz⟩ := hall
      rw [hr, hws]
      refine steps_value fun ρ X a w hs => ?_
      have he := hs.ev x
      rw [hx] at he
      obtain ⟨cs, g1, g2⟩ := repA_d he
      cases g1 with
      | slnil =>
        have : l = 0 ∧ k = 0 := by simp at h2; omega
        obtain ⟨rfl, rfl⟩ := this
        rename_i ad cap
        refine ⟨_, run w a.eval ad 0 cap 0 0 g2 (loOf_rep hs hl) (hiOf_rep hs hk) (by omega) (by omega) (by omega), ?_, fun m hm => by cases hm⟩
        exact ⟨_, .d .slnil, rfl⟩
      | sl a1 a2 a3 a4 a5 a6 =>
        rename_i b off cap e cs
        have hes : xs ≠ [] → e = szOf P el := fun hne' => by
          rcases hsz with hsz | hsz | hsz
          · exact absurd hsz hne'
          · rw [hsz]
            cases xs with
            | nil => exact absurd rfl hne'
            | cons y ys => exact (a3 y (by simp)).symm
          · cases xs with
            | nil => exact absurd rfl hne'
            | cons y ys => rw [← hsz y (by simp)]; exact (a3 y (by simp)).symm
        refine ⟨_, run w a.eval (some ⟨b, off, none⟩) xs.length cap l k g2 (loOf_rep hs hl) (hiOf_rep hs hk) h0 h1 (by omega), ?_, fun m hm => by cases hm⟩
        obtain ⟨pre, c, post, e1, e2, e3, e4, e5⟩ := a6.cut a3 (l := l.toNat) (k := k.toNat) (by omega) (by omega)
        have hlen : (cutD xs l k).length = k.toNat - l.toNat := e5
        by_cases hemp : xs = []
        · subst hemp
          have hlk : l = 0 ∧ k = 0 := by simp at h2; omega
          obtain ⟨rfl, rfl⟩ := hlk
          have hcut : cutD [] 0 0 = [] := rfl
          rw [hcut]
          simp only [Int.toNat_zero, Nat.zero_mul, Nat.sub_zero]
          have hb : (if cap = 0 then some (⟨b, off, none⟩ : Addr) else (some (⟨b, off, none⟩ : Addr)).map (·.add 0)) = some ⟨b, off, none⟩ := by
            split <;> simp [Addr.add]
          rw [hb]
          exact ⟨_, .d (.sl (xs := []) a1 a2 (e := e) (by simp) (Nat.zero_le _) (cs := []) (fun i v hv => by simp at hv) .nil), rfl⟩
        · have hes := hes hemp
          subst hes
          rw [← hlen]
          rw [e1] at a5
          have h5 := a5.part
          rw [e2] at h5
          split
          · rename_i hcl
            have hcut : cutD xs l k = [] := List.eq_nil_of_length_eq_zero (by omega)
            rw [hcut]
            exact ⟨_, .d (.sl (xs := []) a1 a2 (e := szOf P el) (by simp) (Nat.zero_le _) (cs := []) (fun i v hv => by simp at hv) .nil), rfl⟩
          · simp only [Option.map_some, addr_add]
            exact ⟨_, .d (.sl a1 a2 e4 (by omega) h5 e3), rfl⟩
    · rename_i n p e off len hx
      split at h <;> try (cases h; done)
      rename_i l k hl hk
      cases hb : (szOf P el).beq e <;> simp only [hb, cond_true, cond_false] at h <;> cases h
      have hes := Nat.eq_of_beq_eq_true hb
      obtain ⟨h0, h1, h2⟩ := hside
      refine steps_value fun ρ X a w hs => ?_
      have he := hs.ev x
      have hnm := hs.evNames x
      rw [hx] at he hnm
      rcases repA_sl he with ⟨g0, rfl, g1⟩ | ⟨b, cap, q, c, T', z, g0, g1, g2, g3, g4, g5⟩
      · have hlk : l = 0 ∧ k = 0 := by omega
        obtain ⟨rfl, rfl⟩ := hlk
        refine ⟨_, run w a.eval none 0 0 0 0 g1 (loOf_rep hs hl) (hiOf_rep hs hk) (by omega) (by omega) (by omega), ?_, fun m hm => hnm m hm⟩
        exact ⟨_, .slnil g0, rfl⟩
      refine ⟨_, run w a.eval _ len cap l k g1 (loOf_rep hs hl) (hiOf_rep hs hk) h0 h1 (by omega), ?_, fun m hm => hnm m hm⟩
      have hle : (l.toNat : Int) ≤ cap := by omega
      have hb2 : pOff p + (off + l.toNat + (cap - l.toNat)) * e ≤ c.size := by
        have : off + l.toNat + (cap - l.toNat) = off + cap := by omega
        rw [this]; exact g3
      split
      · rename_i hcl
        exact ⟨_, .sl g0 g2 hb2 (by omega) (.inl (by omega)), rfl⟩
      · simp only [Option.map_some, addr_add]
        refine ⟨_, .sl g0 g2 hb2 (by omega) ?_, rfl⟩
        rcases g5 with g5 | g5
        · exact .inl (by omega)
        · right; rw [g5, hes, Nat.add_mul]; omega
  · rename_i n el hu
    cases hz : (szOf P el).beq 0 <;> simp only [hz, cond_true, cond_false] at h <;> try (cases h; done)
    have hne : szOf P el ≠ 0 := fun e => by rw [e] at hz; cases hz
    have run : ∀ (w : World) (ev : Operand → Value) (b q : Nat) (l k : Int), ev x = .pointer (some ⟨b, q, none⟩) → (lo.map ev = none ∧ l = 0 ∨ ∃ k, lo.map ev = some (.int k l)) →
        (hi.map ev = none ∧ k = n ∨ ∃ j, hi.map ev = some (.int j k)) → 0 ≤ l → l ≤ k → k ≤ n →
        (execOp ev o).run P w = .ok (.value (.slice (some (if n = l.toNat then ⟨b, q, none⟩ else ⟨b, q + l.toNat * szOf P el, none⟩)) (k.toNat - l.toNat) (n - l.toNat))) w := by
      intro w ev b q l k hx hl hk h0 h1 h2
      simp only [execOp, ho]
      refine run_map ?_
      simp only [Instr.sliceAt]
      rw [run_bind_ok (run_underlying hu w)]
      simp only [hx, Instr.sureAddr, Option.map_none]
      rw [run_bind_ok (run_pure _ w), run_bind_ok (run_sliceBounds w hl hk h0 h1 h2)]
      dsimp only
      rw [run_bind_ok (szOf_run hne w), addr_add]
      rfl
    split at h <;> try (cases h; done)
    · rename_i n' p hx
      split at h <;> try (cases h; done)
      rename_i l k u hl hk hu'
      have hu' := hle _ _ hu'
      split at h <;> try (cases h; done)
      rename_i s m e xs hn
      cases hb : m.beq n && (szOf P el).beq e <;> simp only [hb, cond_true, cond_false] at h <;> cases h
      simp only [Bool.and_eq_true] at hb
      have hmn := Nat.eq_of_beq_eq_true hb.1
      have hes := Nat.eq_of_beq_eq_true hb.2
      subst hmn
      obtain ⟨⟨h0, h1, h2⟩, hsd⟩ := hside
      refine steps_value fun ρ X a w hs => ?_
      have he := hs.ev x
      have hnm := hs.evNames x
      rw [hx] at he hnm
      obtain ⟨b, hb0, hv⟩ := repA_ptr he
      refine ⟨_, run w a.eval _ _ l k hv (loOf_rep hs hl) (hiOf_rep hs hk) h0 h1 h2, ?_, fun m hm => hnm m hm⟩
      obtain ⟨b', cs, T', z, g0, g1, _, g3⟩ := hs.objs _ _ hu'
      rw [hb0] at g0; cases g0
      obtain ⟨pre, c, post, e1, e2, e3⟩ := AV.nav_rep hn hsd g3
      have hcl : c.length = m * e := e3.length
      have hb2 : pOff p + (l.toNat + (m - l.toNat)) * e ≤ cs.toArray.size := by
        have : l.toNat + (m - l.toNat) = m := by omega
        rw [this, e1]; simp; omega
      have hadr : (some (if m = l.toNat then (⟨b, pOff p, none⟩ : Addr) else ⟨b, pOff p + l.toNat * szOf P el, none⟩)) = some ⟨b, if m = l.toNat then pOff p else pOff p + l.toNat * e, none⟩ := by
        rw [hes]; split <;> rfl
      rw [hadr]
      refine ⟨_, .sl hb0 g1 hb2 (by omega) ?_, rfl⟩
      split
      · exact .inl (by omega)
      · exact .inr rfl
    · rename_i m e xs hx
      split at h <;> try (cases h; done)
      rename_i l k hl hk
      cases hb : m.beq n && (szOf P el).beq e <;> simp only [hb, cond_true, cond_false] at h <;> cases h
      simp only [Bool.and_eq_true] at hb
      have hmn := Nat.eq_of_beq_eq_true hb.1
      have hes := Nat.eq_of_beq_eq_true hb.2
      subst hmn
      obtain ⟨h0, h1, h2⟩ := hside
      refine steps_value fun ρ X a w hs => ?_
      have he := hs.ev x
      rw [hx] at he
      obtain ⟨b, q, cs, hv, g1, g2, g3, g4⟩ := repA_dptr he
      refine ⟨_, run w a.eval _ _ l k hv (loOf_rep hs hl) (hiOf_rep hs hk) h0 h1 h2, ?_, fun m hm => by cases hm⟩
      cases g4 with
      | arr a1 a2 a3 =>
        obtain ⟨pre, c, post, e1, e2, e3, e4, e5⟩ := a3.cut a2 (l := l.toNat) (k := k.toNat) (by omega) (by omega)
        have hlen : (cutD xs l k).length = k.toNat - l.toNat := e5
        rw [e1] at g3
        have h5 := g3.part
        rw [e2] at h5
        rw [← hlen, hes]
        split
        · rename_i hcl
          have hcut : cutD xs l k = [] := List.eq_nil_of_length_eq_zero (by omega)
          rw [hcut]
          exact ⟨_, .d (.sl (xs := []) g1 g2 (e := e) (by simp) (Nat.zero_le _) (cs := []) (fun i v hv => by simp at hv) .nil), rfl⟩
        · exact ⟨_, .d (.sl g1 g2 e4 (by omega) h5 e3), rfl⟩
  · rename_i hu
    split at h <;> try (cases h; done)
    rename_i s hx
    split at h <;> cases h
    rename_i l k hl hk
    obtain ⟨h0, h1, h2⟩ := hside
    refine steps_value fun ρ X a w hs => ?_
    have he := hs.ev x
    rw [hx] at he
    refine ⟨.string (s.extract l.toNat k.toNat), ?_, ⟨_, .d (.str _), rfl⟩, fun m hm => by cases hm⟩
    simp only [execOp, ho]
    refine run_map ?_
    simp only [Instr.sliceAt]
    rw [run_bind_ok (run_underlying hu w)]
    dsimp only
    simp only [Instr.slice, repA_str he, Option.map_none]
    rw [run_bind_ok (run_underlying hu w)]
    simp only [Option.isSome_none, Bool.false_eq_true, if_false]
    rw [run_bind_ok (run_sliceBounds w (loOf_rep hs hl) (hiOf_rep hs hk) h0 h1 h2)]
    rfl
end Go.Sym

namespace Go.Sym
def elsOf (hp : Nat → Option AObj) : AV → Option (Prop × List D)
  | .d (.sl xs) => some (True, xs)
  | .d .nils => some (True, [])
  | .sl o p e off len => match hp o with
    | some (.row e' xs) => match p with
      | [] => bif e.beq e' then some (off + len ≤ xs.length, (xs.drop off).take len) else none
      | _ => none
    | some (.var u) => match AV.nav u p with
      | some (s, .d (.arr _ e' xs)) => bif e.beq e' then some (s ∧ off + len ≤ xs.length, (xs.drop off).take len) else none
      | _ => none
    | _ => none
  | .cst (.slice _ 0 _) => some (True, [])
  | _ => none
theorem RepL.mid {X : Nat → Prop} {w : World} {xs : List D} {cs : List Value} {e : Nat} (h : RepL X w xs cs) (he : ∀ x, x ∈ xs → x.size = e) {off len : Nat} (hl : off + len ≤ xs.length) :
    ∃ pre c post, cs = pre ++ c ++ post ∧ pre.length = off * e ∧ RepL X w ((xs.drop off).take len) c ∧ (∀ x, x ∈ (xs.drop off).take len → x.size = e) := by
  have hc := h.cut he (l := off) (k := off + len) (by omega) hl
  have : (xs.take (off + len)).drop off = (xs.drop off).take len := by
    rw [List.drop_take]; congr 1; omega
  rw [this] at hc
  obtain ⟨pre, c, post, h1, h2, h3, h4, _⟩ := hc
  exact ⟨pre, c, post, h1, h2, h3, h4⟩
theorem elsOf_rep {S : St} {ρ : Nat → Option Nat} {X : Nat → Prop} {a : Act} {w : World} (hs : Sim S ρ X a w) {x : AV} {s : Prop} {xs : List D} {hp : Nat → Option AObj} (hle : ∀ n x, hp n = some x → S.hp n = some x) (h : elsOf hp x = some (s, xs)) (hside : s) {v : Value}
    (hv : RepA ρ X w x v) : (xs = [] ∧ ∃ ad cap, v = .slice ad 0 cap) ∨ ∃ b q cap cs e, v = .slice (some ⟨b, q, none⟩) xs.length cap ∧ RowAt w b q cs ∧ RepL X w xs cs ∧ (∀ y, y ∈ xs → y.size = e) ∧ xs.length ≤ cap ∧ b < w.heap.size := by
  unfold elsOf at h
  split at h <;> try (cases h; done)
  · cases h
    obtain ⟨cs, h1, h2⟩ := repA_d hv
    cases h1 with
    | slnil => exact .inl ⟨rfl, _, _, h2⟩
    | sl a1 a2 a3 a4 a5 a6 => exact .inr ⟨_, _, _, _, _, h2, a5, a6, a3, a4, a2⟩
  · cases h
    obtain ⟨cs, h1, h2⟩ := repA_d hv
    cases h1
    exact .inl ⟨rfl, _, _, h2⟩
  · rename_i o p e off len
    rcases repA_sl hv with ⟨g0, rfl, g1⟩ | ⟨b, cap, q, c, T', z, g0, g1, g2, g3, g4, g5⟩
    · refine .inl ⟨?_, _, _, g1⟩
      split at h
      · split at h <;> try (cases h; done)
        rename_i e' ys _ _
        cases hb : e.beq e' <;> simp only [hb, cond_true, cond_false] at h <;> cases h
        simp
      · split at h <;> try (cases h; done)
        rename_i s' m e' ys _
        cases hb : e.beq e' <;> simp only [hb, cond_true, cond_false] at h <;> cases h
        simp
      · cases h
    · have hlt : b < w.heap.size := (Array.getElem?_eq_some_iff.1 g2).1
      right
      split at h
      · rename_i e' ys ho
        have ho := hle _ _ ho
        split at h <;> try (cases h; done)
        cases hb : e.beq e' <;> simp only [hb, cond_true, cond_false] at h <;> cases h
        have he := Nat.eq_of_beq_eq_true hb
        subst he
        have hlen : ((ys.drop off).take len).length = len := by simp; omega
        rcases hs.objs o _ ho with ⟨k0, _⟩ | ⟨b', cs, rest, T2, z2, k0, k1, k2, k3, k4⟩
        · rw [g0] at k0; cases k0
        rw [g0] at k0; cases k0
        obtain ⟨pre, c', post, e1, e2, e3, e4⟩ := k3.mid k4 hside
        by_cases hcap : cap = 0
        · have : len = 0 := by omega
          subst this
          refine ⟨b, q, cap, [], e, by rw [hlen]; exact g1, fun i v hv => by simp at hv, ?_, e4, by omega, hlt⟩
          simp
          exact .nil
        · have hq : q = off * e := by
            rcases g5 with g5 | g5
            · exact absurd g5 hcap
            · simpa [pOff] using g5
          refine ⟨b, q, cap, c', e, by rw [hlen]; exact g1, ?_, e3, e4, by omega, hlt⟩
          rw [hq, ← e2]
          refine rowAt_of_heap (post := post ++ rest) ?_ (T := T2) (z := z2)
          rw [k1, e1]; simp
      · rename_i u ho
        have ho := hle _ _ ho
        split at h <;> try (cases h; done)
        rename_i s' m e' ys hn
        cases hb : e.beq e' <;> simp only [hb, cond_true, cond_false] at h <;> cases h
        have he := Nat.eq_of_beq_eq_true hb
        subst he
        have hlen : ((ys.drop off).take len).length = len := by simp; have := hside.2; omega
        obtain ⟨b', cs, T2, z2, k0, k1, k2, k3⟩ := hs.objs o _ ho
        rw [g0] at k0; cases k0
        obtain ⟨pre, c1, post, e1, e2, e3⟩ := AV.nav_rep hn hside.1 k3
        cases e3 with
        | d e3 =>
          cases e3 with
          | arr f1 f2 f3 =>
            obtain ⟨pre', c', post', d1, d2, d3, d4⟩ := f3.mid f2 hside.2
            by_cases hcap : cap = 0
            · have : len = 0 := by omega
              subst this
              refine ⟨b, q, cap, [], e, by rw [hlen]; exact g1, fun i v hv => by simp at hv, ?_, d4, by omega, hlt⟩
              simp
              exact .nil
            · have hq : q = pOff p + off * e := by
                rcases g5 with g5 | g5
                · exact absurd g5 hcap
                · exact g5
              refine ⟨b, q, cap, c', e, by rw [hlen]; exact g1, ?_, d3, d4, by omega, hlt⟩
              have : q = (pre ++ pre').length := by rw [List.length_append, e2, d2]; exact hq
              rw [this]
              refine rowAt_of_heap (post := post' ++ post) ?_ (T := T2) (z := z2)
              rw [k1, e1, d1]; simp
      · cases h
  · cases h
    obtain ⟨cs, h1, h2⟩ := hv
    cases h1
    exact .inl ⟨rfl, _, _, h2⟩
def elTy (P : Program) (T : TypeId) : Option TypeId := match P.underlying T with
  | some (.slice e) => some e
  | _ => none
theorem elTy_spec {P : Program} {T e : TypeId} (h : elTy P T = some e) : P.underlying T = some (.slice e) := by
  unfold elTy at h
  split at h <;> cases h
  assumption
theorem one_get (v : Value) : (#[v] : Array Value)[0]? = some v := rfl
def aLen (P : Program) (T : TypeId) (x : AV) : Option Res :=
  match P.underlying T with
  | some (.slice _) => match x with
    | .d (.sl xs) => some ⟨True, .d (.int .i64 xs.length), []⟩
    | .d .nils => some ⟨True, .d (.int .i64 0), []⟩
    | .sl _ _ _ _ len => some ⟨True, .d (.int .i64 len), []⟩
    | _ => none
  | some .string => match x with
    | .d (.str s) => some ⟨True, .d (.int .i64 s.size), []⟩
    | _ => none
  | some (.array n _) => some ⟨True, .d (.int .i64 n), []⟩
  | _ => none
theorem run_builtin {P : Program} {o : Oper} {b : Builtin} {args : Array Operand} {tys : Array TypeId} {ev : Operand → Value} {w w' : World} {v : Value}
    (ho : o.op = .call { callee := .builtin b, args := args, argTypes := tys }) (h : (builtin b tys o.type (args.map fun | .const _ => true | _ => false) (args.map ev)).run P w = .ok (.value v) w') :
    (execOp ev o).run P w = .ok (.value v) w' := by
  simp only [execOp, ho, resolve]
  rw [run_bind_ok (run_pure _ w)]
  simp only [invoke]
  exact h
theorem aLen_sound {P : Program} {T : TypeId} {tys : Array TypeId} {o : Oper} {x : Operand} {S : St} {res : Res} (ho : o.op = .call { callee := .builtin .len, args := #[x], argTypes := tys })
    (hT : tys[0]? = some T) (h : aLen P T (S.ev x) = some res) : StepsTo P o S (S.upd o.dst res.r res.ws) := by
  have key : ∀ {w : World} {ev : Operand → Value} {v : Value}, (Builtin.len_ tys o.type #[ev x]).run P w = .ok v w → (execOp ev o).run P w = .ok (.value v) w := fun hr => by
    refine run_builtin ho ?_
    simp only [builtin, List.map_toArray, List.map_cons, List.map_nil]
    exact run_map hr
  have it : ∀ {ρ : Nat → Option Nat} {X : Nat → Prop} {w : World} {k : IntKind} {n : Int}, RepA ρ X w (.d (.int k n)) (.int k n) := fun {_ _ _ k n} => ⟨_, .d (.int k n), rfl⟩
  unfold aLen at h
  split at h <;> try (cases h; done)
  · rename_i el hu
    split at h <;> cases h
    · rename_i xs hx
      refine steps_value fun ρ X a w hs => ?_
      have he := hs.ev x
      rw [hx] at he
      obtain ⟨cs, h1, h2⟩ := repA_d he
      refine ⟨.int .i64 xs.length, key ?_, it, fun m hm => by cases hm⟩
      cases h1 with
      | slnil =>
        simp only [Builtin.len_, hT, h2, one_get]
        rw [run_bind_ok (run_underlying hu w)]; rfl
      | sl a1 a2 a3 a4 a5 a6 =>
        simp only [Builtin.len_, hT, h2, one_get]
        rw [run_bind_ok (run_underlying hu w)]; rfl
    · rename_i hx
      refine steps_value fun ρ X a w hs => ?_
      have he := hs.ev x
      rw [hx] at he
      obtain ⟨cs, h1, h2⟩ := repA_d he
      refine ⟨.int .i64 0, key ?_, it, fun m hm => by cases hm⟩
      cases h1 with
      | nils =>
        simp only [Builtin.len_, hT, h2, one_get]
        rw [run_bind_ok (run_underlying hu w)]; rfl
    · rename_i n p e off len hx
      refine steps_value fun ρ X a w hs => ?_
      have he := hs.ev x
      rw [hx] at he
      refine ⟨.int .i64 len, key ?_, it, fun m hm => by cases hm⟩
      rcases repA_sl he with ⟨_, rfl, g1⟩ | ⟨b, cap, q, c, T', z, g0, g1, _⟩
      · simp only [Builtin.len_, hT, g1, one_get]
        rw [run_bind_ok (run_underlying hu w)]; rfl
      · simp only [Builtin.len_, hT, g1, one_get]
        rw [run_bind_ok (run_underlying hu w)]; rfl
  · rename_i hu
    split at h <;> cases h
    rename_i s hx
    refine steps_value fun ρ X a w hs => ?_
    have he := hs.ev x
    rw [hx] at he
    refine ⟨.int .i64 s.size, key ?_, it, fun m hm => by cases hm⟩
    simp only [Builtin.len_, hT, repA_str he, one_get]
    rw [run_bind_ok (run_underlying hu w)]; rfl
  · rename_i n el hu
    cases h
    refine steps_value fun ρ X a w hs => ?_
    refine ⟨.int .i64 n, key ?_, it, fun m hm => by cases hm⟩
    simp only [Builtin.len_, hT, one_get]
    rw [run_bind_ok (run_underlying hu w)]
    cases a.eval x <;> rfl
end Go.Sym

namespace Go.Sym
theorem nextslicecap_room {need old : Nat} (h : old < need) : Builtin.nextslicecap need old ≤ need + need / 4 + 512 := by
  unfold Builtin.nextslicecap
  split
  · omega
  · split
    · omega
    · rw [growBy_four]
      repeat' split
      all_goals omega
def Room (n bytes : Nat) : Prop := (n + n / 4 + 512) * bytes ≤ 281474976710656
structure AppTy (P : Program) (T T2 : TypeId) where
  el : TypeId
  i : TypeInfo
  z : Value
  u : P.underlying T = some (.slice el)
  hi : P.info? el = some i
  hz : i.zero = some z
  hsz : z.cells.size = i.size
  hne : i.size ≠ 0
  hby : i.bytes ≠ 0
  d2 : TypeDesc
  u2 : P.underlying T2 = some d2
  ni : ∀ k, d2 ≠ .int k
def isIntTy : TypeDesc → Bool
  | .int _ => true
  | _ => false
def appTy (P : Program) (T T2 : TypeId) : Option (Nat × Nat) :=
  match P.underlying T, P.underlying T2 with
  | some (.slice el), some d2 => match P.info? el with
    | some i => match i.zero with
      | some z => bif z.cells.size.beq i.size && !i.size.beq 0 && !i.bytes.beq 0 && !isIntTy d2 then some (i.size, i.bytes) else none
      | none => none
    | none => none
  | _, _ => none
theorem appTy_spec {P : Program} {T T2 : TypeId} {e b : Nat} (h : appTy P T T2 = some (e, b)) : ∃ t : AppTy P T T2, t.i.size = e ∧ t.i.bytes = b := by
  unfold appTy at h
  split at h <;> try (cases h; done)
  rename_i el d2 hu hu2
  split at h <;> try (cases h; done)
  rename_i i hi
  split at h <;> try (cases h; done)
  rename_i z hz
  cases hb : z.cells.size.beq i.size && !i.size.beq 0 && !i.bytes.beq 0 && !isIntTy d2 <;> simp only [hb, cond_true, cond_false] at h <;> cases h
  simp only [Bool.and_eq_true, Bool.not_eq_true'] at hb
  refine ⟨⟨el, i, z, hu, hi, hz, Nat.eq_of_beq_eq_true hb.1.1.1, fun e => ?_, fun e => ?_, d2, hu2, fun k e => ?_⟩, rfl, rfl⟩
  · rw [e] at hb; cases hb.1.1.2
  · rw [e] at hb; cases hb.1.2
  · rw [e] at hb; cases hb.2
theorem zeroCells_size (z : Array Value) (n : Nat) : (Builtin.zeroCells z n).size = n * z.size := by simp [Builtin.zeroCells]
section
variable {P : Program}
theorem run_append_front {T T2 ty : TypeId} (t : AppTy P T T2) {base : Option Addr} {sLen sCap n : Nat} {x : Value} {w : World} (hlen : (Builtin.lenOf x).run P w = .ok n w) :
    (Builtin.append_ #[T, T2] ty #[.slice base sLen sCap, x]).run P w =
      (if sLen + n ≤ sCap then (do
        let new ← Builtin.firstCells t.i.size n x
        if let some a := base then storeCells (a.add (sLen * t.i.size)) new.toList
        pure (.slice base (sLen + n) sCap) : Sem Value)
      else (do
        if ((sLen + n : Nat) : Int) > IntKind.i64.max ∧ (false = true ∨ (← typeInfo t.el).bytes = 0) then runtimePanic (.error "growslice: len out of range")
        if Builtin.nextslicecap (sLen + n) sCap * (← typeInfo t.el).bytes > 2 ^ 48 then (if false = true then runtimePanic (.error "growslice: len out of range") else do
          if !(← Builtin.mayShare t.i.size sLen n base x) then mark .noRoom
          unsupported (.resourceLimit "append: a slice or a string whose bytes no memory bears"))
        let newCap ← choose (.appendCap (sLen + n) sCap t.el)
        askRoom (newCap * (← typeInfo t.el).bytes)
        let old ← Builtin.firstCells t.i.size sLen (.slice base sLen sCap)
        let new ← Builtin.firstCells t.i.size n x
        let rest := Builtin.zeroCells (← zeroValue t.el).cells (newCap - (sLen + n))
        pure (.slice (some (← newRow t.el (old ++ new ++ rest))) (sLen + n) newCap) : Sem Value)).run P w := by
  have hsz : (sizeOf t.el).run P w = .ok t.i.size w := by
    simp only [sizeOf, typeInfo, program]
    simp [Sem.run, Sem.run_bind, t.hi]
  simp only [Builtin.append_]
  rw [show (#[T, T2] : Array TypeId)[0]? = some T from rfl, show (#[T, T2] : Array TypeId)[1]? = some T2 from rfl, show (#[Value.slice base sLen sCap, x] : Array Value)[0]? = some (.slice base sLen sCap) from rfl,
    show (#[Value.slice base sLen sCap, x] : Array Value)[1]? = some x from rfl]
  simp only []
  rw [run_bind_ok (run_underlying t.u w)]
  simp only []
  rw [run_bind_ok hsz, run_bind_ok (run_underlying t.u2 w)]
  cases hd : t.d2
  all_goals (try exact absurd hd (t.ni _))
  all_goals
    rw [run_bind_ok (run_pure _ w)]
    simp only [Bool.false_eq_true, if_false, Bool.not_false, if_true]
    rw [run_bind_ok hlen]
    split <;> rfl
theorem run_askRoom (n : Nat) (w : World) : (askRoom n).run P w = .ok () w := by
  unfold askRoom
  split
  · simp [mark, Sem.run]
  · rfl
theorem run_append_grows {T T2 ty : TypeId} (t : AppTy P T T2) {base : Option Addr} {sLen sCap n : Nat} {x : Value} {w : World} {olds news : Array Value} (hlen : (Builtin.lenOf x).run P w = .ok n w)
    (hold : (Builtin.firstCells t.i.size sLen (.slice base sLen sCap)).run P w.drew = .ok olds w.drew) (hnew : (Builtin.firstCells t.i.size n x).run P w.drew = .ok news w.drew)
    (hg : sCap < sLen + n) (hroom : Room (sLen + n) t.i.bytes) :
    (Builtin.append_ #[T, T2] ty #[.slice base sLen sCap, x]).run P w =
      .ok (.slice (some ⟨w.heap.size, 0, none⟩) (sLen + n) (grownCap w (sLen + n) sCap t.el))
        (w.drew.alloc (.cells (olds ++ news ++ Builtin.zeroCells t.z.cells (grownCap w (sLen + n) sCap t.el - (sLen + n))) t.el)) := by
  have hti : ∀ w : World, (typeInfo t.el).run P w = .ok t.i w := fun w => by
    simp only [typeInfo, program]
    simp [Sem.run, Sem.run_bind, t.hi]
  have hzv : ∀ w : World, (zeroValue t.el).run P w = .ok t.z w := fun w => by
    simp only [zeroValue, typeInfo, program]
    simp [Sem.run, Sem.run_bind, t.hi, t.hz]
  have h48 : ¬ (Builtin.nextslicecap (sLen + n) sCap * t.i.bytes > 2 ^ 48) := by
    have h1 := nextslicecap_room hg
    have h2 : Builtin.nextslicecap (sLen + n) sCap * t.i.bytes ≤ (sLen + n + (sLen + n) / 4 + 512) * t.i.bytes := Nat.mul_le_mul_right _ h1
    have h3 : (sLen + n + (sLen + n) / 4 + 512) * t.i.bytes ≤ 281474976710656 := hroom
    omega
  rw [run_append_front t hlen, if_neg (by omega)]
  rw [run_bind_ok (hti w)]
  rw [if_neg (fun h => h.2.elim (fun h => nomatch h) t.hby)]
  dsimp only
  rw [run_bind_ok (hti w), if_neg h48]
  have hch : (choose (.appendCap (sLen + n) sCap t.el)).run P w = .ok (grownCap w (sLen + n) sCap t.el) w.drew := by
    simp [choose, Sem.run, Question.forced, grownCap]
  rw [run_bind_ok hch, run_bind_ok (hti _), run_bind_ok (run_askRoom _ _), run_bind_ok hold, run_bind_ok hnew, run_bind_ok (hzv _)]
  simp only [newRow]
  rfl
end
def appEls (hp : Nat → Option AObj) : AV → Option (Prop × List D)
  | .d (.str s) => some (True, s.data.toList.map fun b => .int .u8 b.toNat)
  | x => elsOf hp x
theorem RepL.bytes {X : Nat → Prop} {w : World} : ∀ (l : List UInt8), RepL X w (l.map fun b => D.int .u8 b.toNat) (l.map fun b => Value.int .u8 b.toNat)
  | [] => .nil
  | b :: l => by
    have := RepL.cons (.int .u8 b.toNat : RepD X w _ _) (RepL.bytes (X := X) (w := w) l)
    exact this
theorem appEls_rep {P : Program} {S : St} {ρ : Nat → Option Nat} {X : Nat → Prop} {a : Act} {w : World} (hs : Sim S ρ X a w) {x : AV} {s : Prop} {ys : List D} {hp : Nat → Option AObj} (hle : ∀ n x, hp n = some x → S.hp n = some x) (h : appEls hp x = some (s, ys)) (hside : s) {v : Value}
    (hv : RepA ρ X w x v) {e : Nat} (he : ∀ y, y ∈ ys → y.size = e) :
    ∃ cs : List Value, (Builtin.lenOf v).run P w = .ok ys.length w ∧ (∀ d, (Builtin.firstCells e ys.length v).run P { w with drawn := d } = .ok cs.toArray { w with drawn := d }) ∧ RepL X w ys cs := by
  by_cases hx : ∃ t, x = .d (.str t)
  · obtain ⟨t, rfl⟩ := hx
    cases h
    have := repA_str hv
    subst this
    have hl : (t.data.toList.map fun b => (D.int .u8 b.toNat : D)).length = t.size := by simp
    rw [hl]
    refine ⟨t.data.toList.map fun b => .int .u8 b.toNat, ?_, fun d => ?_, RepL.bytes _⟩
    · rfl
    · simp only [Builtin.firstCells, run_pure]
      congr 1
      have : t.extract 0 t.size = t := by simp
      rw [this]
      apply Array.ext'
      simp
  · have h : elsOf hp x = some (s, ys) := by
      unfold appEls at h
      split at h
      · exact absurd ⟨_, rfl⟩ hx
      · exact h
    rcases elsOf_rep hs hle h hside hv with ⟨rfl, ad, cap, rfl⟩ | ⟨b, q, cap, cs, e', rfl, h2, h3, h4, _, _⟩
    · refine ⟨[], rfl, fun d => ?_, .nil⟩
      have h0 : ([] : List D).length * e = 0 := by simp
      cases ad with
      | none => rfl
      | some ad => simp only [Builtin.firstCells]; rw [h0]; rfl
    · refine ⟨cs, rfl, fun d => ?_, h3⟩
      simp only [Builtin.firstCells]
      have hl : ys.length * e = cs.length := by rw [h3.length, D.sizes_const ys he]
      rw [hl]
      exact run_loadCells (w := { w with drawn := d }) h2
def aAppend (P : Program) (nm : Nat) (tys : Array TypeId) (hp : Nat → Option AObj) (s x : AV) : Option Res :=
  match tys[0]?, tys[1]? with
  | some T, some T2 => match appTy P T T2, appEls hp x with
    | some (e, bytes), some (sd, ys) => match s with
      | .d .nils => some ⟨(sd ∧ Room ys.length bytes) ∧ ∀ y, y ∈ ys → y.size = e, .sl nm [] e 0 ys.length, [(nm, .row e ys)]⟩
      | .sl o [] e' 0 len => match hp o with
        | some (.row e'' xs) => bif e'.beq e && e''.beq e then some ⟨(sd ∧ len = xs.length ∧ Room (xs ++ ys).length bytes) ∧ ∀ y, y ∈ ys → y.size = e, .sl nm [] e 0 (xs ++ ys).length, [(nm, .row e (xs ++ ys)), (o, .dead)]⟩ else none
        | _ => none
      | _ => none
    | _, _ => none
  | _, _ => none
theorem Sim.moved {S : St} {ρ : Nat → Option Nat} {X Y : Nat → Prop} {a : Act} {w w' : World} (hs : Sim S ρ X a w) {nm : Nat} {x : AObj} {ws : List (Nat × AObj)} {dst : Option Tmp} {r : AV} {v : Value} {nb : Option Nat}
    (hf : S.hp nm = none) (hlk : ∀ n y, lkp ws n = some y → (n = nm ∧ y = x) ∨ (y = .dead ∧ S.hp n ≠ none)) (hnmw : lkp ws nm = some x)
    (hext : Ext Y w w') (hY : ∀ b, Y b → ∃ o y, lkp ws o ≠ none ∧ S.hp o = some y ∧ y.alive = true ∧ ρ o = some b)
    (hnb : ∀ b, nb = some b → w.heap.size ≤ b ∨ ∃ o y, lkp ws o ≠ none ∧ S.hp o = some y ∧ y.alive = true ∧ ρ o = some b)
    (hobj : ∀ ρ' X', Goes ρ ρ' X X' Y w w' → ρ' nm = nb → ObjAt ρ' X' w' nm x)
    (hn : ∀ n, n ∈ x.names → S.hp n ≠ none)
    (hr : ∀ ρ' X', Goes ρ ρ' X X' Y w w' → ρ' nm = nb → RepA ρ' X' w' r v) (hrn : ∀ n, n ∈ r.names → S.hp n ≠ none ∨ n = nm) :
    ∃ ρ' X', Sim (S.upd dst r ws) ρ' X' (a.put dst v) w' ∧ Evo S (S.upd dst r ws) ρ ρ' X X' w w' := by
  let ρ' : Nat → Option Nat := fun m => bif nm.beq m then nb else ρ m
  let X' : Nat → Prop := fun c => (nb = some c ∧ w.heap.size ≤ c) ∨ X c
  have hρ : ∀ n, n ≠ nm → ρ' n = ρ n := fun n h => by
    simp only [ρ']
    cases hb : nm.beq n with
    | true => exact absurd (Nat.eq_of_beq_eq_true hb).symm h
    | false => rfl
  have hρn : ρ' nm = nb := by simp [ρ']
  have hne : ∀ n, S.hp n ≠ none → n ≠ nm := fun n h e => h (by rw [e]; exact hf)
  have hX : ∀ b, b < w.heap.size → (X' b ↔ X b) := fun b hb => ⟨fun h => h.elim (fun h => by omega) id, .inr⟩
  have hYX : ∀ b, Y b → X b := fun b hb => by obtain ⟨o, y, _, h2, h3, h4⟩ := hY b hb; exact hs.own o y b h2 h3 h4
  have g : Goes ρ ρ' X X' Y w w' := ⟨hext, fun b _ hx hy => hx (hYX b hy), fun b hb h => (hX b hb).1 h⟩
  refine ⟨ρ', X', hs.step (Y := Y) hext (fun b hb => ?_) (fun n h => hρ n (hne n h)) (fun b hb h => (hX b hb).1 h) (fun o x b _ h1 h2 h3 => (hX b ((hs.objs o x h1).lt h2 h3)).2 (hs.own o x b h1 h2 h3)) ?_ ?_ ?_ ?_ ?_ (hr ρ' X' g hρn) (fun n h => ?_), ?_⟩
  · obtain ⟨o, y, h1, h2, h3, h4⟩ := hY b hb
    cases hl : lkp ws o with
    | none => exact absurd hl h1
    | some y' => exact ⟨o, y, y', hl, h2, h3, h4⟩
  · intro o y h
    rcases hlk o y h with ⟨rfl, rfl⟩ | ⟨rfl, _⟩
    · exact hobj ρ' X' g hρn
    · trivial
  · intro o y b h ha hb
    rcases hlk o y h with ⟨rfl, rfl⟩ | ⟨rfl, _⟩
    · rw [hρn] at hb
      rcases hnb b hb with h1 | ⟨o', y', _, h2, h3, h4⟩
      · exact .inl ⟨hb, h1⟩
      · exact .inr (hs.own o' y' b h2 h3 h4)
    · cases ha
  · intro o y o' y' b h ha h' ha' _ _
    rcases hlk o y h with ⟨rfl, rfl⟩ | ⟨rfl, _⟩
    · rcases hlk o' y' h' with ⟨rfl, rfl⟩ | ⟨rfl, _⟩
      · rfl
      · cases ha'
    · cases ha
  · intro o y o' y' b h ha h' hy' ha' hb hb'
    rcases hlk o y h with ⟨rfl, rfl⟩ | ⟨rfl, _⟩
    · rw [hρn] at hb
      rcases hnb b hb with h1 | ⟨o2, y2, h1, h2, h3, h4⟩
      · have := (hs.objs o' y' hy').lt ha' hb'; omega
      · have := hs.inj _ _ _ _ _ h2 h3 hy' ha' h4 hb'
        subst this; exact h1 h'
    · cases ha
  · intro o y h n hn'
    rcases hlk o y h with ⟨rfl, rfl⟩ | ⟨rfl, _⟩
    · exact .inl (hn n hn')
    · cases hn'
  · rcases hrn n h with h | h
    · exact .inl h
    · subst h; exact .inr (by rw [hnmw]; simp)
  · refine ⟨hext.mono fun b _ hb => ?_, fun b hb => ⟨(hX b hb).1, fun h => .inl ((hX b hb).2 h)⟩, fun o y b hy hay hb => ?_, fun n h => hρ n (hne n h)⟩
    · obtain ⟨o, y, _, h2, h3, h4⟩ := hY b hb; exact ⟨o, y, h2, h3, h4⟩
    · rw [St.hp_upd] at hy
      cases hl : lkp ws o with
      | some y' =>
        simp only [hl, Option.some.injEq] at hy; subst hy
        rcases hlk o y' hl with ⟨rfl, rfl⟩ | ⟨rfl, _⟩
        · rw [hρn] at hb
          rcases hnb b hb with h1 | ⟨o', z, _, h2, h3, h4⟩
          · exact .inl h1
          · exact .inr ⟨o', z, h2, h3, h4⟩
        · cases hay
      | none =>
        simp only [hl] at hy
        rw [hρ o (hne o (by rw [hy]; simp))] at hb
        exact .inr ⟨o, y, hy, hay, hb⟩
theorem steps_own {P : Program} {o : Oper} {S S' : St}
    (h : ∀ (ρ : Nat → Option Nat) (X : Nat → Prop) (a : Act) (w : World), Sim S ρ X a w → ∃ v w', (execOp a.eval o).run P w = .ok (.value v) w' ∧ ∃ ρ' X', Sim S' ρ' X' (a.put o.dst v) w' ∧ Evo S S' ρ ρ' X X' w w') :
    StepsTo P o S S' := by
  intro ρ X a w hs
  obtain ⟨v, w', hv, hr⟩ := h ρ X a w hs
  unfold Does
  rw [hv]
  exact hr
theorem grownCap_ge (w : World) (need old : Nat) (e : TypeId) : need ≤ grownCap w need old e := by
  show need ≤ need + _ % _
  omega
theorem grown_end {P : Program} {T T2 : TypeId} (t : AppTy P T T2) {S : St} {ρ : Nat → Option Nat} {X : Nat → Prop} {a : Act} {w : World} (hs : Sim S ρ X a w) {nm : Nat} {ws : List (Nat × AObj)} {dst : Option Tmp} {zs : List D} {cs : List Value} {cap : Nat}
    (hf : S.hp nm = none) (hlk : ∀ n y, lkp ws n = some y → (n = nm ∧ y = .row t.i.size zs) ∨ (y = .dead ∧ S.hp n ≠ none)) (hnmw : lkp ws nm = some (.row t.i.size zs))
    (hrep : RepL X w zs cs) (he : ∀ y, y ∈ zs → y.size = t.i.size) (hcap : zs.length ≤ cap) :
    ∃ ρ' X', Sim (S.upd dst (.sl nm [] t.i.size 0 zs.length) ws) ρ' X' (a.put dst (.slice (some ⟨w.heap.size, 0, none⟩) zs.length cap)) (w.drew.alloc (.cells (cs.toArray ++ Builtin.zeroCells t.z.cells (cap - zs.length)) t.el)) ∧
      Evo S (S.upd dst (.sl nm [] t.i.size 0 zs.length) ws) ρ ρ' X X' w (w.drew.alloc (.cells (cs.toArray ++ Builtin.zeroCells t.z.cells (cap - zs.length)) t.el)) := by
  have hdr : Ext (fun _ => False) w w.drew := Ext.drew _ w
  obtain ⟨hext, hnew⟩ := alloc_new w.drew (cs.toArray ++ Builtin.zeroCells t.z.cells (cap - zs.length)) t.el (0, 0)
  have hext := hdr.trans hext
  have hnew : (w.drew.alloc (.cells (cs.toArray ++ Builtin.zeroCells t.z.cells (cap - zs.length)) t.el)).heap[w.heap.size]? = some (.cells (cs.toArray ++ Builtin.zeroCells t.z.cells (cap - zs.length)) t.el (0, 0)) := hnew
  have hcl : cs.length = zs.length * t.i.size := by rw [hrep.length, D.sizes_const zs he]
  refine hs.moved hf hlk hnmw (nb := some w.heap.size) hext (fun _ h => h.elim) (fun b hb => by cases hb; exact .inl (Nat.le_refl _)) (fun ρ' X' g hρ => ?_) (fun n hn => by cases hn) (fun ρ' X' g hρ => ?_) (fun n hn => by simp [AV.names] at hn; exact .inr hn)
  · refine .inr ⟨w.heap.size, cs, (Builtin.zeroCells t.z.cells (cap - zs.length)).toList, t.el, (0, 0), hρ, ?_, .inl rfl, hrep.mono g.ext g.off g.own, he⟩
    rw [hnew]
    congr 2
    apply Array.ext'; simp
  · refine repA_of_c (.sl hρ hnew ?_ hcap (.inr (by simp [pOff])))
    rw [Array.size_append, zeroCells_size, t.hsz]
    simp only [pOff, List.size_toArray, Nat.zero_add]
    rw [hcl, ← Nat.add_mul]
    have : zs.length + (cap - zs.length) = cap := by omega
    rw [this]
    exact Nat.le_refl _
theorem aAppend_sound {P : Program} {tys : Array TypeId} {o : Oper} {s x : Operand} {S : St} {res : Res} {nm : Nat} {hp : Nat → Option AObj} (hle : ∀ n x, hp n = some x → S.hp n = some x) (ho : o.op = .call { callee := .builtin .append, args := #[s, x], argTypes := tys })
    (h2 : tys.size = 2) (h : aAppend P nm tys hp (S.ev s) (S.ev x) = some res) (hside : res.side) (hf : S.hp nm = none) : StepsTo P o S (S.upd o.dst res.r res.ws) := by
  unfold aAppend at h
  split at h <;> try (cases h; done)
  rename_i T T2 hT hT2
  have htys : tys = #[T, T2] := by
    apply Array.ext
    · simp [h2]
    · intro i h1 h3
      have : i = 0 ∨ i = 1 := by simp at h3; omega
      rcases this with rfl | rfl
      · have := (Array.getElem?_eq_some_iff.1 hT).2; simpa using this
      · have := (Array.getElem?_eq_some_iff.1 hT2).2; simpa using this
  subst htys
  split at h <;> try (cases h; done)
  rename_i e bytes sd ys hty hels
  obtain ⟨t, rfl, rfl⟩ := appTy_spec hty
  have key : ∀ {w w' : World} {ev : Operand → Value} {v : Value}, (Builtin.append_ #[T, T2] o.type #[ev s, ev x]).run P w = .ok v w' → (execOp ev o).run P w = .ok (.value v) w' := fun hr => by
    refine run_builtin ho ?_
    simp only [builtin, List.map_toArray, List.map_cons, List.map_nil]
    exact run_map hr
  have one : ∀ {y : AObj} (n : Nat) (z : AObj), lkp [(nm, y)] n = some z → n = nm ∧ z = y := fun n z h => by
    have := lkp_mem h
    simp at this
    exact this
  have two : ∀ {y : AObj} {m : Nat} (n : Nat) (z : AObj), lkp [(nm, y), (m, .dead)] n = some z → (n = nm ∧ z = y) ∨ (n = m ∧ z = .dead) := fun n z h => by
    have := lkp_mem h
    simp at this
    exact this
  have self : ∀ {y : AObj} {l : List (Nat × AObj)}, lkp ((nm, y) :: l) nm = some y := by intro y l; simp [lkp]
  split at h <;> try (cases h; done)
  · rename_i hsx
    cases h
    obtain ⟨⟨hsd, hroom⟩, hsz⟩ := hside
    refine steps_own fun ρ X a w hs => ?_
    have hes := hs.ev s
    rw [hsx] at hes
    have hsv : a.eval s = .slice none 0 0 := by
      obtain ⟨cs, h1, h2⟩ := repA_d hes
      cases h1; exact h2
    obtain ⟨cs, hl, hc, hrep⟩ := appEls_rep (P := P) hs hle hels hsd (hs.ev x) hsz
    by_cases hn : ys.length = 0
    · have hys : ys = [] := List.eq_nil_of_length_eq_zero hn
      subst hys
      refine ⟨.slice none 0 0, w, key ?_, ?_⟩
      · rw [hsv, run_append_front t hl, if_pos (by simp)]
        rw [run_bind_ok (hc w.drawn)]
        rfl
      · refine hs.moved hf (fun n y h => .inl (one n y h)) self (nb := none) (Ext.refl (fun _ => False) w) (fun _ h => h.elim) (fun _ h => by cases h) (fun ρ' X' g hρ => .inl ⟨hρ, rfl⟩) (fun n hn => by cases hn)
          (fun ρ' X' g hρ => repA_of_c (.slnil hρ)) (fun n hn => by simp [AV.names] at hn; exact .inr hn)
    · have hrun := run_append_grows (ty := o.type) (base := none) (sLen := 0) (sCap := 0) t hl (olds := #[]) rfl (hc _) (by omega) (by simpa using hroom)
      rw [← hsv] at hrun
      refine ⟨_, _, key hrun, ?_⟩
      · simp only [Nat.zero_add, Array.empty_append]
        exact grown_end t hs hf (fun n y h => .inl (one n y h)) self hrep hsz (grownCap_ge _ _ _ _)
  · rename_i m e' len hsx
    split at h <;> try (cases h; done)
    rename_i e'' xs hm
    have hm := hle _ _ hm
    cases hb : e'.beq t.i.size && e''.beq t.i.size <;> simp only [hb, cond_true, cond_false] at h <;> cases h
    simp only [Bool.and_eq_true] at hb
    have he1 := Nat.eq_of_beq_eq_true hb.1
    have he2 := Nat.eq_of_beq_eq_true hb.2
    subst he1; subst he2
    obtain ⟨⟨hsd, rfl, hroom⟩, hsz⟩ := hside
    refine steps_own fun ρ X a w hs => ?_
    have hes := hs.ev s
    rw [hsx] at hes
    obtain ⟨cs, hl, hc, hrep⟩ := appEls_rep (P := P) hs hle hels hsd (hs.ev x) hsz
    have hdeadm : ∀ (n : Nat) (y : AObj), lkp [(nm, AObj.row t.i.size (xs ++ ys)), (m, AObj.dead)] n = some y → (n = nm ∧ y = AObj.row t.i.size (xs ++ ys)) ∨ (y = AObj.dead ∧ S.hp n ≠ none) := fun n y h => by
      rcases two n y h with h | ⟨rfl, rfl⟩
      · exact .inl h
      · exact .inr ⟨rfl, by rw [hm]; simp⟩
    have hmne : m ≠ nm := fun e => by rw [e, hf] at hm; cases hm
    have hlm : lkp [(nm, AObj.row t.i.size (xs ++ ys)), (m, .dead)] m ≠ none := by
      simp only [lkp]
      cases hb : nm.beq m with
      | true => exact absurd (Nat.eq_of_beq_eq_true hb).symm hmne
      | false => simp
    rcases repA_sl hes with ⟨g0, gl, g1⟩ | ⟨b, cap, q, c, T', z, g0, g1, g2, g3, g4, g5⟩
    · -- it is nil
      have hxs : xs = [] := List.eq_nil_of_length_eq_zero gl
      subst hxs
      simp only [List.nil_append] at *
      by_cases hn : ys.length = 0
      · have hys : ys = [] := List.eq_nil_of_length_eq_zero hn
        subst hys
        refine ⟨.slice none 0 0, w, key ?_, ?_⟩
        · rw [g1, run_append_front t hl, if_pos (by simp)]
          rw [run_bind_ok (hc w.drawn)]
          rfl
        · refine hs.moved hf hdeadm self (nb := none) (Ext.refl (fun _ => False) w) (fun _ h => h.elim) (fun _ h => by cases h) (fun ρ' X' g hρ => .inl ⟨hρ, rfl⟩) (fun n hn => by cases hn)
            (fun ρ' X' g hρ => repA_of_c (.slnil hρ)) (fun n hn => by simp [AV.names] at hn; exact .inr hn)
      · have hrun := run_append_grows (ty := o.type) (base := none) (sLen := 0) (sCap := 0) t hl (olds := #[]) rfl (hc _) (by omega) (by simpa using hroom)
        rw [← g1] at hrun
        refine ⟨_, _, key hrun, ?_⟩
        · simp only [Nat.zero_add, Array.empty_append]
          exact grown_end t hs hf hdeadm self hrep hsz (grownCap_ge _ _ _ _)
    · rcases hs.objs m _ hm with ⟨k0, _⟩ | ⟨b', os, rest, T2', z2, k0, k1, k2, k3, k4⟩
      · rw [g0] at k0; cases k0
      rw [g0] at k0; cases k0
      have hol : os.length = xs.length * t.i.size := by rw [k3.length, D.sizes_const xs k4]
      have hcl : cs.length = ys.length * t.i.size := by rw [hrep.length, D.sizes_const ys hsz]
      have hall : ∀ y, y ∈ xs ++ ys → y.size = t.i.size := fun y hy => by
        rcases List.mem_append.1 hy with h | h
        · exact k4 y h
        · exact hsz y h
      have hq : cap ≠ 0 → q = 0 := fun hc0 => by
        rcases g5 with g5 | g5
        · exact absurd g5 hc0
        · simpa [pOff] using g5
      have hcsz : cap * t.i.size ≤ (os ++ rest).length := by
        rw [k1] at g2
        simp only [Option.some.injEq, Obj.cells.injEq] at g2
        obtain ⟨rfl, _, _⟩ := g2
        simpa [pOff] using g3
      by_cases hroomy : (xs ++ ys).length ≤ cap
      · -- there is room
        have hlen2 : xs.length + ys.length = (xs ++ ys).length := by simp
        by_cases hy0 : ys = []
        · subst hy0
          have hcs0 : cs = [] := List.eq_nil_of_length_eq_zero (by simpa using hcl)
          subst hcs0
          simp only [List.append_nil] at *
          refine ⟨.slice (some ⟨b, q, none⟩) xs.length cap, w, key ?_, ?_⟩
          · rw [g1, run_append_front t hl, if_pos (by simpa using hroomy), run_bind_ok (hc w.drawn)]
            rfl
          · refine hs.moved hf hdeadm self (nb := some b) (Ext.refl (fun _ => False) w) (fun _ h => h.elim) (fun b' h => ?_) (fun ρ' X' g hρ => ?_) (fun n hn => by cases hn)
              (fun ρ' X' g hρ => repA_of_c (.sl hρ g2 g3 g4 g5)) (fun n hn => by simp [AV.names] at hn; exact .inr hn)
            · cases h; exact .inr ⟨m, _, hlm, hm, rfl, g0⟩
            · exact .inr ⟨b, os, rest, T2', z2, hρ, k1, k2, k3.mono g.ext g.off g.own, k4⟩
        · have hy1 : 1 ≤ ys.length := by cases ys with | nil => exact absurd rfl hy0 | cons _ _ => simp
          have hq := hq (by simp at hroomy; omega)
          subst hq
          have hfit : cs.length ≤ rest.length := by
            have h1 : (xs.length + ys.length) * t.i.size ≤ cap * t.i.size := Nat.mul_le_mul_right _ (by simpa using hroomy)
            rw [Nat.add_mul] at h1
            simp at hcsz; omega
          have hstore := run_storeCells (P := P) (b := b) (T := T2') (z := z2) os (xs.length * t.i.size) cs (rest.take cs.length) (rest.drop cs.length) [] w
            (by simpa using k1) (by simpa using k2) hol (by simp; omega) hrep.cell
          simp only [List.append_nil, List.length_nil] at hstore
          refine ⟨.slice (some ⟨b, 0, none⟩) (xs ++ ys).length cap, World.lay w b (os ++ cs ++ rest.drop cs.length), key ?_, ?_⟩
          · rw [g1, run_append_front t hl, if_pos (by rw [hlen2]; exact hroomy), run_bind_ok (hc w.drawn)]
            simp only [addr_add, Nat.zero_add]
            rw [run_bind_ok hstore, hlen2]
            rfl
          · have hnewl : (os ++ cs ++ rest.drop cs.length).length = (os ++ rest).length := by simp; omega
            have hh := heap_lay k1 (os ++ cs ++ rest.drop cs.length)
            have hext : Ext (fun k => k = b) w (World.lay w b (os ++ cs ++ rest.drop cs.length)) := by
              refine ⟨rfl, rfl, rfl, by simp [World.lay], fun k _ hne => heap_lay_ne w _ hne, fun k c' T3 z3 hc' => ?_⟩
              by_cases hkb : k = b
              · subst hkb
                rw [k1] at hc'
                simp only [Option.some.injEq, Obj.cells.injEq] at hc'
                obtain ⟨rfl, rfl, rfl⟩ := hc'
                exact ⟨_, _, hh, by simpa using hnewl⟩
              · exact ⟨c', _, by rw [heap_lay_ne w _ hkb]; exact hc', rfl⟩
            refine hs.moved hf hdeadm self (nb := some b) hext (fun k hk => ⟨m, _, hlm, hm, rfl, by rw [hk]; exact g0⟩) (fun b' h => ?_) (fun ρ' X' g hρ => ?_) (fun n hn => by cases hn)
              (fun ρ' X' g hρ => repA_of_c (.sl hρ hh ?_ hroomy (.inr (by simp [pOff])))) (fun n hn => by simp [AV.names] at hn; exact .inr hn)
            · cases h; exact .inr ⟨m, _, hlm, hm, rfl, g0⟩
            · exact .inr ⟨b, os ++ cs, rest.drop cs.length, T2', z2, hρ, hh, by rw [hnewl]; exact k2, (k3.mono g.ext g.off g.own).append (hrep.mono g.ext g.off g.own), hall⟩
            · simp only [pOff, Nat.zero_add, List.size_toArray]
              rw [hnewl]
              exact hcsz
      · -- it grows
        have hlen2 : xs.length + ys.length = (xs ++ ys).length := by simp
        have hrow : RowAt w b q os := by
          by_cases hx0 : xs.length = 0
          · have : os = [] := List.eq_nil_of_length_eq_zero (by rw [hol, hx0]; simp)
            subst this
            intro i v hv; simp at hv
          · have := hq (by omega)
            subst this
            have := rowAt_of_heap (w := w) (b := b) (pre := []) (c := os) (post := rest) (T := T2') (z := z2) (by simpa using k1)
            simpa using this
        have hold : (Builtin.firstCells t.i.size xs.length (.slice (some ⟨b, q, none⟩) xs.length cap)).run P w.drew = .ok os.toArray w.drew := by
          simp only [Builtin.firstCells]
          rw [← hol]
          exact run_loadCells (w := w.drew) hrow
        have hrun := run_append_grows (ty := o.type) t hl hold (hc _) (by omega) (by rw [hlen2]; exact hroom)
        rw [← g1] at hrun
        refine ⟨_, _, key hrun, ?_⟩
        · rw [hlen2]
          have := grown_end t hs (dst := o.dst) hf hdeadm self (k3.append hrep) hall (grownCap_ge w (xs ++ ys).length cap t.el)
          have e : os.toArray ++ cs.toArray = (os ++ cs).toArray := by simp
          simp only [e]
          exact this
end Go.Sym

namespace Go.Sym
def aUn (op : UnOp) : AV → Option Res
  | .d (.bool b) => match op with
    | .not => some ⟨True, .d (.bool (!b)), []⟩
    | _ => none
  | .d (.int k n) => match op with
    | .neg => some ⟨True, .d (.int k (k.wrap (0 - n))), []⟩
    | .xor => some ⟨True, .d (.int k (aBits .xor k (if k.signed then -1 else k.max) n)), []⟩
    | _ => none
  | _ => none
theorem aUn_sound {P : Program} {op : UnOp} {T : TypeId} {o : Oper} {x : Operand} {S : St} {res : Res} (ho : o.op = .unOp op T x) (h : aUn op (S.ev x) = some res) : StepsTo P o S (S.upd o.dst res.r res.ws) := by
  unfold aUn at h
  split at h <;> try (cases h; done)
  · rename_i b hx
    split at h <;> cases h
    refine steps_value fun ρ X a w hs => ?_
    have he := hs.ev x
    rw [hx] at he
    refine ⟨.bool !b, ?_, ⟨_, .d (.bool _), rfl⟩, fun m hm => by cases hm⟩
    simp only [execOp, ho, repA_bool he]
    rfl
  · rename_i k n hx
    split at h <;> cases h
    · refine steps_value fun ρ X a w hs => ?_
      have he := hs.ev x
      rw [hx] at he
      refine ⟨.int k (k.wrap (0 - n)), ?_, ⟨_, .d (.int _ _), rfl⟩, fun m hm => by cases hm⟩
      simp only [execOp, ho, repA_int he]
      rfl
    · refine steps_value fun ρ X a w hs => ?_
      have he := hs.ev x
      rw [hx] at he
      refine ⟨.int k (aBits .xor k (if k.signed then -1 else k.max) n), ?_, ⟨_, .d (.int _ _), rfl⟩, fun m hm => by cases hm⟩
      simp only [execOp, ho, repA_int he]
      rfl
def aMove (x : AV) : Option Res := some ⟨True, x, []⟩
theorem aMove_sound {P : Program} {o : Oper} {x : Operand} {S : St} {res : Res} (ho : o.op = .move x ∨ o.op = .assign x) (h : aMove (S.ev x) = some res) : StepsTo P o S (S.upd o.dst res.r res.ws) := by
  cases h
  refine steps_value fun ρ X a w hs => ⟨a.eval x, ?_, hs.ev x, hs.evNames x⟩
  rcases ho with ho | ho <;> simp only [execOp, ho] <;> rfl
def aPick (c x y : AV) : Option Res := match c, x, y with
  | .d (.bool c), .d (.bool x), .d (.bool y) => some ⟨True, .d (.bool (bif c then x else y)), []⟩
  | .d (.bool true), x, _ => some ⟨True, x, []⟩
  | .d (.bool false), _, y => some ⟨True, y, []⟩
  | _, _, _ => none
theorem aPick_sound {P : Program} {o : Oper} {c x y : Operand} {S : St} {res : Res} (ho : o.op = .pick c x y) (h : aPick (S.ev c) (S.ev x) (S.ev y) = some res) : StepsTo P o S (S.upd o.dst res.r res.ws) := by
  unfold aPick at h
  split at h <;> cases h
  · rename_i c' x' y' hc hx hy
    refine steps_value fun ρ X a w hs => ?_
    have h1 := hs.ev c
    have h2 := hs.ev x
    have h3 := hs.ev y
    rw [hc] at h1; rw [hx] at h2; rw [hy] at h3
    refine ⟨.bool (bif c' then x' else y'), ?_, ⟨_, .d (.bool _), rfl⟩, fun m hm => by cases hm⟩
    simp only [execOp, ho, repA_bool h1, repA_bool h2, repA_bool h3, asBool]
    cases c' <;> rfl
  · rename_i hc _
    refine steps_value fun ρ X a w hs => ⟨a.eval x, ?_, hs.ev x, hs.evNames x⟩
    have h1 := hs.ev c
    rw [hc] at h1
    simp only [execOp, ho, repA_bool h1, asBool]
    rfl
  · rename_i hc _
    refine steps_value fun ρ X a w hs => ⟨a.eval y, ?_, hs.ev y, hs.evNames y⟩
    have h1 := hs.ev c
    rw [hc] at h1
    simp only [execOp, ho, repA_bool h1, asBool]
    rfl
def aExtract (i : Nat) : AV → Option Res
  | .tup vs => match vs[i]? with
    | some x => bif x.plain then some ⟨True, x, []⟩ else none
    | none => none
  | _ => none
theorem RepT.get {ρ : Nat → Option Nat} {X : Nat → Prop} {w : World} : ∀ {xs : List AV} {vs : List Value} {i : Nat} {x : AV}, RepT ρ X w xs vs → xs[i]? = some x → ∃ v, vs[i]? = some v ∧ RepA1 ρ X w x v
  | x :: _, v :: _, 0, _, ⟨h, _⟩, hi => by simp only [List.getElem?_cons_zero, Option.some.injEq] at hi; subst hi; exact ⟨v, rfl, h⟩
  | _ :: _, _ :: _, i + 1, _, ⟨_, hs⟩, hi => by simp only [List.getElem?_cons_succ] at hi ⊢; exact RepT.get hs hi
  | [], _, _, _, _, hi => by simp at hi
  | _ :: _, [], _, _, h, _ => h.elim
theorem aExtract_sound {P : Program} {i : Nat} {o : Oper} {x : Operand} {S : St} {res : Res} (ho : o.op = .extract x i) (h : aExtract i (S.ev x) = some res) : StepsTo P o S (S.upd o.dst res.r res.ws) := by
  unfold aExtract at h
  split at h <;> try (cases h; done)
  rename_i vs hx
  split at h <;> try (cases h; done)
  rename_i y hy
  cases hp : y.plain <;> simp only [hp, cond_true, cond_false] at h <;> cases h
  refine steps_value fun ρ X a w hs => ?_
  have h1 := hs.ev x
  have h2 := hs.evNames x
  rw [hx] at h1 h2
  obtain ⟨us, hu, hr⟩ := h1
  obtain ⟨v, hv, hrv⟩ := hr.get hy
  refine ⟨v, ?_, ?_, fun m hm => h2 m ?_⟩
  · simp only [execOp, ho, hu]
    refine run_map ?_
    simp only [Instr.extract, List.getElem?_toArray, hv]
    rfl
  · cases y <;> first | exact hrv | cases hp
  · show m ∈ AV.namesL vs
    have : ∀ {l : List AV} {j : Nat}, l[j]? = some y → m ∈ AV.namesL l := by
      intro l
      induction l with
      | nil => intro j h; simp at h
      | cons b l ih =>
        intro j h
        simp only [AV.namesL, List.mem_append]
        cases j with
        | zero => simp only [List.getElem?_cons_zero, Option.some.injEq] at h; subst h; exact .inl hm
        | succ j => simp only [List.getElem?_cons_succ] at h; exact .inr (ih h)
    exact this hy
def AV.single : AV → Bool
  | .ptr _ _ => true
  | .fn _ _ => true
  | .dptr _ => true
  | .sl _ _ _ _ _ => true
  | _ => false
def aMakeFunc (fn : Fn) (first : Array Operand) (ins : List AV) : Option Res := match fn with
  | .func f => bif first.isEmpty && ins.all AV.single then some ⟨True, .fn (.func f) ins, []⟩ else none
  | _ => none
theorem aMakeFunc_sound {P : Program} {fn : Fn} {o : Oper} {first caps : Array Operand} {S : St} {res : Res} (ho : o.op = .makeFunc fn first caps) (h : aMakeFunc fn first (caps.toList.map S.ev) = some res) :
    StepsTo P o S (S.upd o.dst res.r res.ws) := by
  unfold aMakeFunc at h
  split at h <;> try (cases h; done)
  rename_i f
  cases hb : first.isEmpty && (caps.toList.map S.ev).all AV.single <;> simp only [hb, cond_true, cond_false] at h <;> cases h
  simp only [Bool.and_eq_true] at hb
  have hfe : first = #[] := by simpa using hb.1
  refine steps_value fun ρ X a w hs => ⟨.func (.func f) #[] (caps.map a.eval), ?_, ?_, fun m hm => ?_⟩
  · simp only [execOp, ho, hfe, Array.map_empty]
    rfl
  · have : ∀ (l : List Operand), (l.map S.ev).all AV.single = true → RepCs ρ X w (l.map S.ev) (l.map a.eval) := by
      intro l
      induction l with
      | nil => intro _; exact .nil
      | cons x l ih =>
        intro h
        simp only [List.map_cons, List.all_cons, Bool.and_eq_true] at h
        have hx : RepC ρ X w (S.ev x) [a.eval x] := by
          have := hs.ev x
          generalize S.ev x = y at *
          have hp : y.plain = true := by cases y <;> first | rfl | cases h.1
          obtain ⟨cs, h1, h2, _⟩ := repA_cells hp this
          have hag : y.isAgg = false := by cases y <;> first | rfl | cases h.1
          have hl := notAgg_size h1 hag
          obtain ⟨v, rfl⟩ := List.length_eq_one_iff.1 hl
          rw [hag] at h2
          rw [h2]; exact h1
        exact .cons hx (ih h.2)
    have := RepC.fn (f := .func f) (this caps.toList hb.2)
    refine ⟨_, this, ?_⟩
    show _ = Value.func (.func f) #[] (caps.toList.map a.eval).toArray
    congr 1
    apply Array.ext'; simp
  · have : ∀ (l : List Operand), m ∈ AV.namesL (l.map S.ev) → S.hp m ≠ none := by
      intro l
      induction l with
      | nil => intro h; cases h
      | cons x l ih =>
        intro h
        simp only [List.map_cons, AV.namesL, List.mem_append] at h
        rcases h with h | h
        · exact hs.evNames x m h
        · exact ih h
    exact this caps.toList hm
def aMakeIface (P : Program) (T : TypeId) (x : AV) : Option Res := match P.underlying T, x with
  | some (.struct _), .d (.st []) => some ⟨True, .cst (.iface T (.agg #[])), []⟩
  | _, _ => none
theorem aMakeIface_sound {P : Program} {T : TypeId} {o : Oper} {x : Operand} {S : St} {res : Res} (ho : o.op = .makeInterface T x) (h : aMakeIface P T (S.ev x) = some res) : StepsTo P o S (S.upd o.dst res.r res.ws) := by
  unfold aMakeIface at h
  split at h <;> cases h
  rename_i fs hu hx
  refine steps_value fun ρ X a w hs => ⟨.iface T (.agg #[]), ?_, ⟨_, .cst rfl, rfl⟩, fun m hm => by cases hm⟩
  have he := hs.ev x
  rw [hx] at he
  obtain ⟨cs, h1, h2⟩ := he
  have hcs : cs = [] := by
    cases h1 with
    | d h1 => cases h1 with
      | st h1 => cases h1; rfl
  subst hcs
  have hv : a.eval x = .agg #[] := h2
  simp only [execOp, ho, hv, Instr.makeInterface]
  refine run_map (v := .iface T (.agg #[])) ?_
  rw [run_bind_ok (run_underlying hu w)]
  rfl
def aNilCheck (x : AV) : Option Res := match x with
  | .ptr _ _ => some ⟨True, x, []⟩
  | .dptr _ => some ⟨True, x, []⟩
  | .fn (.func _) _ => some ⟨True, x, []⟩
  | _ => none
theorem aNilCheck_sound {P : Program} {o : Oper} {x : Operand} {S : St} {res : Res} (ho : o.op = .nilCheck x) (h : aNilCheck (S.ev x) = some res) : StepsTo P o S (S.upd o.dst res.r res.ws) := by
  have : res = ⟨True, S.ev x, []⟩ ∧ ((∃ n p, S.ev x = .ptr n p) ∨ (∃ y, S.ev x = .dptr y) ∨ ∃ f cs, S.ev x = .fn (.func f) cs) := by
    unfold aNilCheck at h
    split at h <;> cases h
    · rename_i n p hx; rw [hx]; exact ⟨rfl, .inl ⟨_, _, rfl⟩⟩
    · rename_i y hx; rw [hx]; exact ⟨rfl, .inr (.inl ⟨_, rfl⟩)⟩
    · rename_i f cs hx; rw [hx]; exact ⟨rfl, .inr (.inr ⟨_, _, rfl⟩)⟩
  obtain ⟨rfl, hk⟩ := this
  refine steps_value fun ρ X a w hs => ⟨a.eval x, ?_, hs.ev x, hs.evNames x⟩
  have he := hs.ev x
  simp only [execOp, ho]
  rcases hk with ⟨n, p, hx⟩ | ⟨y, hx⟩ | ⟨f, cs, hx⟩
  · rw [hx] at he
    obtain ⟨b, _, hv⟩ := repA_ptr he
    rw [hv]; rfl
  · rw [hx] at he
    obtain ⟨b, q, cs, hv, _⟩ := repA_dptr he
    rw [hv]; rfl
  · rw [hx] at he
    obtain ⟨cs', h1, h2⟩ := he
    cases h1 with
    | fn _ => rw [h2]; rfl
def byteD (b : UInt8) : D := .int .u8 b.toNat
def bytesOf (xs : List D) : List UInt8 := xs.map fun y => UInt8.ofNat y.toInt.toNat
theorem bytesOf_map (l : List UInt8) : bytesOf (l.map byteD) = l := by
  unfold bytesOf
  rw [List.map_map]
  have : (fun y => UInt8.ofNat (D.toInt y).toNat) ∘ byteD = id := by
    funext b; simp [byteD, D.toInt]
  rw [this, List.map_id]
def aConv (P : Program) (nm : Nat) (src dst : TypeId) (hp : Nat → Option AObj) (x : AV) : Option Res :=
  match P.underlying src, P.underlying dst, x with
  | some _, some (.int k), .d (.int _ n) => some ⟨True, .d (.int k (k.wrap n)), []⟩
  | some (.slice e), some .string, x => match P.underlying e, elsOf hp x with
    | some (.int .u8), some (s, xs) => some ⟨s ∧ xs = (bytesOf xs).map byteD, .d (.str ⟨(bytesOf xs).toArray⟩), []⟩
    | _, _ => none
  | some .string, some (.slice e), .d (.str s) => match P.underlying e with
    | some (.int .u8) => some ⟨True, .sl nm [] 1 0 s.size, [(nm, .row 1 (s.data.toList.map byteD))]⟩
    | _ => none
  | some (.slice _), some (.slice e), .sl o [] e1 0 len => bif src.beq dst then match P.underlying e, hp o with
    | some (.int .u8), some (.row e2 xs) => some ⟨0 < len ∧ len = xs.length, .sl o [] e1 0 len, [(o, .row e2 xs)]⟩
    | _, _ => none
    else none
  | _, _, _ => none
theorem foldl_push_int : ∀ (l : List UInt8) (r : ByteArray), (l.map fun b => (b.toNat : Int)).foldl (fun r n => r.push (UInt8.ofNat n.toNat)) r = ⟨r.data ++ l.toArray⟩ := foldl_push_byteCells
theorem RepL.ofBytes {X : Nat → Prop} {w : World} : ∀ {l : List UInt8} {cs : List Value}, RepL X w (l.map byteD) cs → cs = (l.map fun b => (b.toNat : Int)).map (Value.int .u8)
  | [], _, h => by cases h; rfl
  | b :: l, _, h => by
    cases h with
    | cons h1 h2 => cases h1; rw [RepL.ofBytes h2]; rfl
theorem freeze_end {w : World} {b : Nat} {c : Array Value} {T : TypeId} {z : Nat × Nat} (h : w.heap[b]? = some (.cells c T z)) (hz : unfrozen z c.size) :
    ∃ z', (w.freeze ⟨b, c.size, none⟩ 1).heap[b]? = some (.cells c T z') ∧ unfrozen z' c.size ∧ Ext (fun k => k = b) w (w.freeze ⟨b, c.size, none⟩ 1) := by
  obtain ⟨lo, hi⟩ := z
  have hlt : b < w.heap.size := (Array.getElem?_eq_some_iff.1 h).1
  have hother : ∀ k, k ≠ b → (w.freeze ⟨b, c.size, none⟩ 1).heap[k]? = w.heap[k]? := fun k hk => by
    unfold World.freeze
    rw [if_neg (by decide)]
    show (w.heap.modify b _)[k]? = _
    rw [Array.getElem?_modify, if_neg (fun e => hk e.symm)]
  have hb : (w.freeze ⟨b, c.size, none⟩ 1).heap[b]? = some (.cells c T (if lo == hi then (c.size, c.size + 1) else (min lo c.size, max hi (c.size + 1)))) := by
    unfold World.freeze
    rw [if_neg (by decide)]
    show (w.heap.modify b _)[b]? = _
    rw [Array.getElem?_modify, if_pos rfl, h]
    rfl
  refine ⟨_, hb, ?_, ⟨?_, ?_, ?_, ?_, fun k _ hk => hother k hk, fun k c' T' z' hc' => ?_⟩⟩
  · unfold unfrozen at hz ⊢
    simp only at hz
    by_cases he : lo = hi
    · subst he; simp
    · have : (lo == hi) = false := by simpa using he
      rw [this]
      right
      simp only [Bool.false_eq_true, if_false]
      omega
  · unfold World.freeze; rw [if_neg (by decide)]
  · unfold World.freeze; rw [if_neg (by decide)]
  · unfold World.freeze; rw [if_neg (by decide)]
  · unfold World.freeze; rw [if_neg (by decide)]; simp
  · by_cases hk : k = b
    · subst hk
      rw [h] at hc'
      simp only [Option.some.injEq, Obj.cells.injEq] at hc'
      obtain ⟨rfl, rfl, rfl⟩ := hc'
      exact ⟨_, _, hb, rfl⟩
    · exact ⟨c', z', by rw [hother k hk]; exact hc', rfl⟩
theorem aConv_sound {P : Program} {src dst : TypeId} {o : Oper} {x : Operand} {S : St} {res : Res} {nm : Nat} {hp : Nat → Option AObj} (hle : ∀ n x, hp n = some x → S.hp n = some x) (ho : o.op = .convert src dst x) (h : aConv P nm src dst hp (S.ev x) = some res) (hside : res.side)
    (hf : S.hp nm = none) : StepsTo P o S (S.upd o.dst res.r res.ws) := by
  unfold aConv at h
  split at h <;> try (cases h; done)
  · rename_i d1 k k' n h1 h2 hx
    cases h
    refine steps_value fun ρ X a w hs => ?_
    have he := hs.ev x
    rw [hx] at he
    refine ⟨.int k (k.wrap n), ?_, ⟨_, .d (.int _ _), rfl⟩, fun m hm => by cases hm⟩
    simp only [execOp, ho, repA_int he]
    refine run_map ?_
    simp only [convert]
    rw [run_bind_ok (run_underlying h1 w), run_bind_ok (run_underlying h2 w)]
    rfl
  · rename_i x' e h1 h2
    split at h <;> cases h
    rename_i s xs h3 hels
    obtain ⟨hs1, hs2⟩ := hside
    refine steps_value fun ρ X a w hs => ⟨.string ⟨(bytesOf xs).toArray⟩, ?_, ⟨_, .d (.str _), rfl⟩, fun m hm => by cases hm⟩
    simp only [execOp, ho]
    refine run_map ?_
    rcases elsOf_rep hs hle hels hs1 (hs.ev x) with ⟨hnil, ad, cap, hv⟩ | ⟨b, q, cap, cs, e', hv, k1, k2, k3, _, _⟩
    · rw [hv, run_convert_bytes_string w src dst e ad 0 cap h1 h3 h2, hnil]
      cases ad <;> rfl
    · rw [hv, run_convert_bytes_string w src dst e _ _ _ h1 h3 h2]
      have hcs : cs = ((bytesOf xs).map fun b => (b.toNat : Int)).map (Value.int .u8) := by rw [hs2] at k2; exact k2.ofBytes
      have hlen : xs.length = cs.length := by rw [hcs]; simp [bytesOf]
      have hload : (loadCells ⟨b, q, none⟩ xs.length).run P w = .ok (((bytesOf xs).map fun b => (b.toNat : Int)).map (Value.int .u8)).toArray w := by
        rw [hlen, ← hcs]; exact run_loadCells k1
      rw [run_bytesToString w _ _ _ _ hload, foldl_push_int]
      congr 3
      apply Array.ext'
      simp
  · rename_i e s h1 h2 hx
    split at h <;> cases h
    rename_i h3
    refine steps_own fun ρ X a w hs => ?_
    have he := hs.ev x
    rw [hx] at he
    have hrun := run_bytes_of_string w src dst e s h1 h2 h3
    have key : (execOp a.eval o).run P w = .ok (.value (.slice (some ⟨w.heap.size, 0, none⟩) s.size (grownCap w s.size 0 e))) (w.drew.alloc (.cells (bytesRow s (grownCap w s.size 0 e)) e ((bytesRow s (grownCap w s.size 0 e)).size, (bytesRow s (grownCap w s.size 0 e)).size + 1))) := by
      simp only [execOp, ho, repA_str he]
      exact run_map hrun
    refine ⟨_, _, key, ?_⟩
    obtain ⟨hext, hnew⟩ := alloc_new w.drew (bytesRow s (grownCap w s.size 0 e)) e ((bytesRow s (grownCap w s.size 0 e)).size, (bytesRow s (grownCap w s.size 0 e)).size + 1)
    have hext := (Ext.drew (fun _ => False) w).trans hext
    have hrow : bytesRow s (grownCap w s.size 0 e) = ((s.data.toList.map fun (b : UInt8) => (Value.int .u8 b.toNat : Value)) ++ List.replicate (grownCap w s.size 0 e - s.size) (Value.int .u8 0)).toArray := by
      unfold bytesRow
      apply Array.ext'
      simp
    have hge := grownCap_ge w s.size 0 e
    refine hs.new hf ⟨hext, hnew⟩ (fun ρ' X' g hρ hρn => .inr ⟨w.heap.size, s.data.toList.map fun (b : UInt8) => (Value.int .u8 b.toNat : Value), List.replicate (grownCap w s.size 0 e - s.size) (Value.int .u8 0), e, ((bytesRow s (grownCap w s.size 0 e)).size, (bytesRow s (grownCap w s.size 0 e)).size + 1), hρn, ?_, .inr (by rw [hrow]; exact Nat.le_refl _), RepL.bytes _, fun y hy => ?_⟩) (fun n hn => by cases hn) (fun ρ' X' g hρ hρn => ?_) (fun n hn => by simp [AV.names] at hn; exact .inr hn)
    · rw [← hrow]
      exact hnew
    · obtain ⟨b, _, rfl⟩ := List.mem_map.1 hy; rfl
    · refine repA_of_c (.sl hρn hnew ?_ hge (.inr (by simp [pOff])))
      rw [hrow]
      simp [pOff]
      have : s.data.size = s.size := rfl
      omega
  · rename_i e1' e nn e1 len h1 h2 hx
    cases hb : src.beq dst <;> simp only [hb, cond_true, cond_false] at h <;> try (cases h; done)
    have hsd := Nat.eq_of_beq_eq_true hb
    subst hsd
    split at h <;> cases h
    rename_i e2 xs h3 ho2
    have hu := hle _ _ ho2
    obtain ⟨hl0, hl1⟩ := hside
    refine steps_own fun ρ X a w hs => ?_
    have he := hs.ev x
    rw [hx] at he
    rcases repA_sl he with ⟨_, g1, _⟩ | ⟨b, cap, q, c, T', z, g0, g1, g2, g3, g4, g5⟩
    · omega
    rcases hs.objs nn _ hu with ⟨k0, _⟩ | ⟨b', os, rest, T2, z2, k0, k1, k2, k3, k4⟩
    · rw [g0] at k0; cases k0
    rw [g0] at k0; cases k0
    obtain ⟨z', hz1, hz2, hz3⟩ := freeze_end k1 (by simpa using k2)
    have hrun : (convert src src (.slice (some ⟨b, q, none⟩) len cap)).run P w = .ok (.slice (some ⟨b, q, none⟩) len cap) (w.freeze ⟨b, (os ++ rest).toArray.size, none⟩ 1) := by
      have hsh : w.shape? b = some (T2, (os ++ rest).toArray.size) := by unfold World.shape?; rw [k1]
      simp [convert, run_underlying h2, run_underlying h3, markStringish, hsh]
    refine ⟨.slice (some ⟨b, q, none⟩) len cap, w.freeze ⟨b, (os ++ rest).toArray.size, none⟩ 1, ?_, ρ, X, hs.turn hu rfl g0 hz3 (fun Y g => .inr ⟨b, os, rest, T2, z', g0, hz1, by simpa using hz2, k3.mono g.ext g.off g.own, k4⟩) (fun n hn => by cases hn) (fun Y g => ?_) (fun n hn => ?_)⟩
    · simp only [execOp, ho, g1]
      exact run_map hrun
    · have := he.mono g (fun _ _ => rfl)
      rw [g1] at this
      exact this
    · simp [AV.names] at hn
      subst hn
      rw [hu]; simp
end Go.Sym

namespace Go.Sym
def layParts (pl : Nat → Option (Stp × Nat)) : AV → List (Nat × AV) → Option (Prop × AV)
  | x, [] => some (True, x)
  | x, (i, v) :: l => match pl i with
    | some (st, sz) => bif v.size.beq sz && v.plain then match AV.set x [st] v with
        | some (s, y) => match layParts pl y l with
          | some (s', z) => some (s ∧ s', z)
          | none => none
        | none => none
      else none
    | none => none
theorem foldl_splice (pre old post : List Value) : ∀ (v mid : List Value) (cells : Array Value) (k : Nat), old.length = v.length → cells.toList = pre ++ mid ++ old ++ post → mid.length = k →
    ((v.zipIdx k).foldl (fun cs (c, j) => cs.setIfInBounds (pre.length + j) c) cells).toList = pre ++ mid ++ v ++ post := by
  intro v
  induction v generalizing old with
  | nil =>
    intro mid cells k hl hc _
    have : old = [] := by simpa using hl
    subst this
    simpa using hc
  | cons x v ih =>
    intro mid cells k hl hc hk
    match old, hl with
    | u :: old, hl =>
      simp only [List.length_cons, Nat.add_right_cancel_iff] at hl
      simp only [List.zipIdx_cons, List.foldl_cons]
      have := ih old (mid ++ [x]) (cells.setIfInBounds (pre.length + k) x) (k + 1) hl (by
        rw [Array.toList_setIfInBounds, hc]
        rw [List.append_assoc, List.append_assoc, List.set_append_right _ _ (by omega)]
        have : pre.length + k - pre.length = k := by omega
        rw [this, List.set_append_right _ _ (by omega)]
        have : k - mid.length = 0 := by omega
        rw [this]; simp) (by simp [hk])
      rw [this]; simp
theorem layParts_rep {ρ : Nat → Option Nat} {X : Nat → Prop} {w : World} {pl : Nat → Option (Stp × Nat)} {place : Nat → Option (Nat × Nat)} (hpl : ∀ i st sz, pl i = some (st, sz) → place i = some (st.off, sz)) :
    ∀ {parts : List (Nat × AV)} {vs : List (Nat × Value)} {x y : AV} {s : Prop} {cells : Array Value}, layParts pl x parts = some (s, y) → s →
      parts.length = vs.length → (∀ (k : Nat) (i j : Nat) (a : AV) (v : Value), parts[k]? = some (i, a) → vs[k]? = some (j, v) → i = j ∧ RepA ρ X w a v) →
      RepC ρ X w x cells.toList → ∃ cells', Instr.fill place cells vs = some cells' ∧ RepC ρ X w y cells'.toList := by
  intro parts
  induction parts with
  | nil =>
    intro vs x y s cells h _ hl _ hr
    have : vs = [] := by simpa using hl.symm
    subst this
    simp only [layParts, Option.some.injEq, Prod.mk.injEq] at h
    obtain ⟨_, rfl⟩ := h
    exact ⟨cells, rfl, hr⟩
  | cons pt parts ih =>
    intro vs x y s cells h hs hl hv hr
    match vs, hl with
    | (j, v) :: vs, hl =>
      obtain ⟨i, a⟩ := pt
      simp only [layParts] at h
      split at h <;> try (cases h; done)
      rename_i st sz hpi
      cases hb : a.size.beq sz && a.plain <;> simp only [hb, cond_true, cond_false] at h <;> try (cases h; done)
      simp only [Bool.and_eq_true] at hb
      have hsz := Nat.eq_of_beq_eq_true hb.1
      split at h <;> try (cases h; done)
      rename_i s1 z hset
      split at h <;> cases h
      rename_i s2 hrest
      obtain ⟨hij, hra⟩ := hv 0 i j a v rfl rfl
      subst hij
      obtain ⟨cs, c1, _, c3⟩ := repA_cells hb.2 hra
      obtain ⟨pre, old, post, e1, e2, e3, e4⟩ := AV.set_rep hset hs.1 hr
      have hvs : v.cells.size = sz := by rw [← Array.length_toList, c3, c1.length, hsz]
      have hpre : pre.length = st.off := by rw [e2]; rfl
      have hold : old.length = v.cells.toList.length := by rw [c3, e3, c1.length]
      have hspl := foldl_splice pre old post v.cells.toList [] cells 0 hold (by simpa using e1) rfl
      simp only [List.append_nil] at hspl
      obtain ⟨cells', f1, f2⟩ := ih (vs := vs) (cells := (v.cells.zipIdx).foldl (fun cs (c, j) => cs.setIfInBounds (st.off + j) c) cells) hrest hs.2 (by simpa using hl)
        (fun k i j a v h1 h2 => hv (k + 1) i j a v (by simpa using h1) (by simpa using h2)) (by
          have : ((v.cells.zipIdx).foldl (fun cs (c, j) => cs.setIfInBounds (st.off + j) c) cells).toList = pre ++ cs ++ post := by
            rw [← c3, ← hspl, hpre, ← Array.foldl_toList, Array.toList_zipIdx]
          rw [this]; exact e4 cs c1)
      refine ⟨cells', ?_, f2⟩
      simp only [Instr.fill, hpl i st sz hpi]
      have h1 : (v.cells.size ≠ sz || decide (st.off + v.cells.size > cells.size)) = false := by
        have : cells.size = (pre ++ old ++ post).length := by rw [← e1]; simp
        simp only [Bool.or_eq_false_iff, decide_eq_false_iff_not, ne_eq, Decidable.not_not]
        refine ⟨hvs, ?_⟩
        rw [this, hvs]
        have : old.length = sz := by rw [hold, Array.length_toList, hvs]
        simp; omega
      rw [if_neg (by rw [h1]; simp)]
      exact f1
def plOf (P : Program) (T : TypeId) (i : Nat) : Option (Stp × Nat) :=
  match P.underlying T with
  | some (.struct fields) => match fields[i]? with
    | some fd => match P.info? fd.type with
      | some j => some (.fld i fd.offset, j.size)
      | none => none
    | none => none
  | some (.array _ e) => match P.info? e with
    | some j => some (.ix i j.size, j.size)
    | none => none
  | _ => none
def aBuild (P : Program) (T : TypeId) (parts : List (Nat × AV)) : Option Res :=
  match zeroD P T, P.info? T with
  | some x, some it => match it.zero with
    | some z => bif zeqs z.cells.toList x.flat && x.isAgg && (match P.underlying T with
        | some (.struct fields) => fields.toList.all fun f => (P.info? f.type).isSome
        | some (.array _ e) => (P.info? e).isSome
        | _ => false) then match layParts (plOf P T) (.d x) parts with
        | some (s, y) => bif y.isAgg then some ⟨s, y, []⟩ else none
        | none => none
      else none
    | none => none
  | _, _ => none
theorem mapM_places {P : Program} : ∀ (fs : List Field), (fs.all fun f => (P.info? f.type).isSome) = true → ∃ places, fs.mapM (fun f => (P.info? f.type).map fun i => (f.offset, i.size)) = some places ∧
    ∀ (i : Nat) (fd : Field) (j : TypeInfo), fs[i]? = some fd → P.info? fd.type = some j → places[i]? = some (fd.offset, j.size)
  | [], _ => ⟨[], rfl, fun i fd j h => by simp at h⟩
  | f :: fs, h => by
    simp only [List.all_cons, Bool.and_eq_true] at h
    obtain ⟨places, h1, h2⟩ := mapM_places fs h.2
    obtain ⟨j, hj⟩ := Option.isSome_iff_exists.1 h.1
    refine ⟨(f.offset, j.size) :: places, ?_, fun i fd j' hi hj' => ?_⟩
    · simp [List.mapM_cons, hj, h1]
    · cases i with
      | zero => simp only [List.getElem?_cons_zero, Option.some.injEq] at hi; subst hi; rw [hj] at hj'; cases hj'; rfl
      | succ i => simp only [List.getElem?_cons_succ] at hi ⊢; exact h2 i fd j' hi hj'
theorem aBuild_sound {P : Program} {T : TypeId} {o : Oper} {parts : Array (Nat × Operand)} {S : St} {res : Res} (ho : o.op = .build T parts) (h : aBuild P T (parts.toList.map fun p => (p.1, S.ev p.2)) = some res) (hside : res.side) :
    StepsTo P o S (S.upd o.dst res.r res.ws) := by
  unfold aBuild at h
  split at h <;> try (cases h; done)
  rename_i x it hx hit
  split at h <;> try (cases h; done)
  rename_i z hz
  generalize hok : (match P.underlying T with
        | some (.struct fields) => fields.toList.all fun f => (P.info? f.type).isSome
        | some (.array _ e) => (P.info? e).isSome
        | _ => false) = ok at h
  cases hb : zeqs z.cells.toList x.flat && x.isAgg && ok <;> simp only [hb, cond_true, cond_false] at h <;> try (cases h; done)
  simp only [Bool.and_eq_true] at hb
  obtain ⟨⟨hb1, hb2⟩, rfl⟩ := hb
  split at h <;> try (cases h; done)
  rename_i s y hlay
  cases hy : y.isAgg <;> simp only [hy, cond_true, cond_false] at h <;> cases h
  have hzx := zeqs_eq hb1
  have hnosl : x.noSl = true := by
    unfold zeroD at hx
    split at hx <;> try (cases hx; done)
    rename_i v hv
    cases hc : zeqs v.cells.toList (D.zero P 8 T).flat && (D.zero P 8 T).noSl <;> simp only [hc, cond_true, cond_false] at hx <;> cases hx
    simp only [Bool.and_eq_true] at hc
    exact hc.2
  refine steps_value fun ρ X a w hs => ?_
  let vs : List (Nat × Value) := (parts.map fun (i, x) => (i, a.eval x)).toList
  have hvs : vs = parts.toList.map fun p => (p.1, a.eval p.2) := by simp [vs]
  have hlen : (parts.toList.map fun p => (p.1, S.ev p.2)).length = vs.length := by rw [hvs]; simp
  have hrel : ∀ (k : Nat) (i j : Nat) (u : AV) (v : Value), (parts.toList.map fun p => (p.1, S.ev p.2))[k]? = some (i, u) → vs[k]? = some (j, v) → i = j ∧ RepA ρ X w u v := by
    intro k i j u v h1 h2
    rw [hvs] at h2
    rw [List.getElem?_map] at h1 h2
    cases hp : parts.toList[k]? with
    | none => rw [hp] at h1; cases h1
    | some p =>
      rw [hp] at h1 h2
      simp only [Option.map_some, Option.some.injEq, Prod.mk.injEq] at h1 h2
      obtain ⟨rfl, rfl⟩ := h1
      obtain ⟨rfl, rfl⟩ := h2
      exact ⟨rfl, hs.ev p.2⟩
  have hrx : RepC ρ X w (.d x) z.cells.toList := by rw [hzx]; exact .d (D.flat_rep x hnosl)
  have hnames : ∀ n, n ∈ y.names → S.hp n ≠ none := by
    have : ∀ (l : List (Nat × Operand)) (u : AV) (s : Prop), (∀ n, n ∈ u.names → S.hp n ≠ none) → layParts (plOf P T) u (l.map fun p => (p.1, S.ev p.2)) = some (s, y) → ∀ n, n ∈ y.names → S.hp n ≠ none := by
      intro l
      induction l with
      | nil => intro u s hu h; simp only [List.map_nil, layParts, Option.some.injEq, Prod.mk.injEq] at h; rw [← h.2]; exact hu
      | cons p l ih =>
        intro u s hu h
        simp only [List.map_cons, layParts] at h
        split at h <;> try (cases h; done)
        rename_i st sz _
        cases hb : (S.ev p.2).size.beq sz && (S.ev p.2).plain <;> simp only [hb, cond_true, cond_false] at h <;> try (cases h; done)
        split at h <;> try (cases h; done)
        rename_i s1 u' hset
        split at h <;> cases h
        rename_i s2 hrest
        refine ih u' s2 (fun n hn => ?_) hrest
        rcases AV.set_names hset n hn with h | h
        · exact hu n h
        · exact hs.evNames p.2 n h
    exact this parts.toList (.d x) _ (fun n hn => by cases hn) hlay
  have run : ∀ cells, P.built T vs = some cells → (execOp a.eval o).run P w = .ok (.value (.agg cells)) w := fun cells hc => by
    simp only [execOp, ho]
    exact run_map (run_build w T _ cells hc)
  cases hu : P.underlying T with
  | none => rw [hu] at hok; cases hok
  | some d =>
    rw [hu] at hok
    cases d <;> try (cases hok; done)
    case array n e =>
      obtain ⟨ie, hie⟩ := Option.isSome_iff_exists.1 hok
      obtain ⟨cells, c1, c2⟩ := layParts_rep (ρ := ρ) (X := X) (w := w) (pl := plOf P T) (place := fun i => some (i * ie.size, ie.size)) (fun i st sz h => by
        simp only [plOf, hu, hie, Option.some.injEq, Prod.mk.injEq] at h
        obtain ⟨rfl, rfl⟩ := h; rfl) hlay hside hlen hrel hrx
      refine ⟨.agg cells, run cells ?_, ?_, hnames⟩
      · simp only [Program.built, hit, hu, hz, hie]; exact c1
      · have := repA_of_c c2; rw [hy] at this; exact this
    case struct fields =>
      obtain ⟨places, p1, p2⟩ := mapM_places fields.toList hok
      obtain ⟨cells, c1, c2⟩ := layParts_rep (ρ := ρ) (X := X) (w := w) (pl := plOf P T) (place := (places.toArray[·]?)) (fun i st sz h => by
        simp only [plOf, hu] at h
        split at h <;> try (cases h; done)
        rename_i fd hfd
        split at h <;> cases h
        rename_i j hj
        have := p2 i fd j (by simpa using hfd) hj
        simpa [Stp.off] using this) hlay hside hlen hrel hrx
      refine ⟨.agg cells, run cells ?_, ?_, hnames⟩
      · simp only [Program.built, hit, hu, hz, p1]; exact c1
      · have := repA_of_c c2; rw [hy] at this; exact this
def dsOf : List AV → Option (List D)
  | [] => some []
  | .d x :: l => match dsOf l with
    | some xs => some (x :: xs)
    | none => none
  | _ :: _ => none
def aBuildSlice (P : Program) (nm : Nat) (T : TypeId) (len : Nat) (parts : List (Nat × AV)) : Option Res :=
  match elTy P T with
  | some el => match P.info? el, dsOf (parts.map (·.2)) with
    | some i, some xs => bif (parts.map (·.1) == List.range len) && xs.all (fun x => x.size.beq i.size) && i.zero.isSome && Nat.ble (len * i.size) 16777216 && !i.size.beq 0 && Nat.beq xs.length len then
        some ⟨True, .sl nm [] i.size 0 xs.length, [(nm, .row i.size xs)]⟩ else none
    | _, _ => none
  | none => none
theorem fill_row {ρ : Nat → Option Nat} {X : Nat → Prop} {w : World} {e : Nat} : ∀ (xs : List D) (vs : List (Nat × Value)) (k : Nat) (done rest : List Value), vs.map (·.1) = (List.range xs.length).map (· + k) → done.length = k * e →
    rest.length = xs.length * e → (∀ (j : Nat) (x : D) (p : Nat × Value), xs[j]? = some x → vs[j]? = some p → RepA ρ X w (.d x) p.2) → (∀ x, x ∈ xs → x.size = e) →
    ∃ cs, Instr.fill (fun i => some (i * e, e)) (done ++ rest).toArray vs = some (done ++ cs).toArray ∧ RepL X w xs cs := by
  intro xs
  induction xs with
  | nil =>
    intro vs k done rest hvs hd hr _ _
    have : vs = [] := by simpa using hvs
    subst this
    have : rest = [] := List.eq_nil_of_length_eq_zero (by simpa using hr)
    subst this
    exact ⟨[], rfl, .nil⟩
  | cons x xs ih =>
    intro vs k done rest hvs hd hr hrel hsz
    cases vs with
    | nil => simp at hvs
    | cons p vs =>
      obtain ⟨i, v⟩ := p
      have hi : i = k ∧ vs.map (·.1) = (List.range xs.length).map (· + (k + 1)) := by
        simp only [List.map_cons, List.length_cons, List.range_succ_eq_map, List.map_map, List.cons.injEq, Nat.zero_add] at hvs
        refine ⟨hvs.1, hvs.2.trans ?_⟩
        apply List.map_congr_left
        intro a _; simp; omega
      obtain ⟨rfl, hvs'⟩ := hi
      have hrx := hrel 0 x (i, v) rfl rfl
      obtain ⟨c, hc1, _, hc3⟩ := repA_cells rfl hrx
      have hxe : x.size = e := hsz x (by simp)
      have hcl : c.length = e := by rw [hc1.length]; exact hxe
      have hvc : v.cells.size = e := by rw [← Array.length_toList, hc3, hcl]
      have hre : e ≤ rest.length := by rw [hr]; simp [Nat.succ_mul]
      have hspl := foldl_splice done (rest.take e) (rest.drop e) v.cells.toList [] (done ++ rest).toArray 0 (by rw [hc3]; simp; omega) (by simp) rfl
      simp only [List.append_nil] at hspl
      have hnew : ((v.cells.zipIdx).foldl (fun cs (c, j) => cs.setIfInBounds (i * e + j) c) (done ++ rest).toArray) = ((done ++ c) ++ rest.drop e).toArray := by
        apply Array.ext'
        rw [← hd, ← Array.foldl_toList, Array.toList_zipIdx, hspl, hc3]
      obtain ⟨cs, f1, f2⟩ := ih vs (i + 1) (done ++ c) (rest.drop e) hvs' (by simp [hd, hcl, Nat.succ_mul]) (by simp [hr, Nat.succ_mul])
        (fun j y q h1 h2 => hrel (j + 1) y q (by simpa using h1) (by simpa using h2)) (fun y hy => hsz y (by simp [hy]))
      refine ⟨c ++ cs, ?_, ?_⟩
      · simp only [Instr.fill]
        have h1 : (v.cells.size ≠ e || decide (i * e + v.cells.size > (done ++ rest).toArray.size)) = false := by
          simp only [Bool.or_eq_false_iff, decide_eq_false_iff_not, ne_eq, Decidable.not_not]
          refine ⟨hvc, ?_⟩
          simp [hvc, hd]; omega
        rw [if_neg (by rw [h1]; simp), hnew, f1]
        simp
      · cases hc1 with
        | d hc1 => exact .cons hc1 f2
theorem dsOf_spec : ∀ {l : List AV} {xs : List D}, dsOf l = some xs → l = xs.map AV.d
  | [], xs, h => by cases h; rfl
  | .d x :: l, xs, h => by
    simp only [dsOf] at h
    split at h <;> cases h
    rename_i hl
    rw [List.map_cons, ← dsOf_spec hl]
  | .ptr _ _ :: _, _, h | .sl _ _ _ _ _ :: _, _, h | .st _ :: _, _, h | .dptr _ :: _, _, h | .fn _ _ :: _, _, h | .cst _ :: _, _, h | .tup _ :: _, _, h | .top :: _, _, h => by cases h
theorem buildSlice_core {P : Program} {T : TypeId} {len : Nat} {o : Oper} {parts : Array (Nat × Operand)} {S : St} {res : Res} {nm : Nat} {l : List (Nat × AV)} {xs : List D} (ho : o.op = .buildSlice T len parts)
    (h : aBuildSlice P nm T len l = some res) (hl1 : l.map (·.1) = parts.toList.map (·.1)) (hds : dsOf (l.map (·.2)) = some xs) (hf : S.hp nm = none) {ρ : Nat → Option Nat} {X : Nat → Prop} {a : Act} {w : World} (hs : Sim S ρ X a w)
    (hrel0 : ∀ (j : Nat) (x : D) (q : Nat × Operand), xs[j]? = some x → parts.toList[j]? = some q → RepA ρ X w (.d x) (a.eval q.2)) :
    ∃ v w', (execOp a.eval o).run P w = .ok (.value v) w' ∧ ∃ ρ' X', Sim (S.upd o.dst res.r res.ws) ρ' X' (a.put o.dst v) w' ∧ Evo S (S.upd o.dst res.r res.ws) ρ ρ' X X' w w' := by
  unfold aBuildSlice at h
  split at h <;> try (cases h; done)
  rename_i el hel
  have hu := elTy_spec hel
  rw [hds] at h
  split at h <;> try (cases h; done)
  rename_i i xs' hi hds'
  cases hds'
  generalize hb : ((l.map (·.1) == List.range len) && xs.all (fun x => x.size.beq i.size) && i.zero.isSome && Nat.ble (len * i.size) 16777216 && !i.size.beq 0 && Nat.beq xs.length len) = b at h
  cases b <;> simp only [cond_true, cond_false] at h <;> cases h
  simp only [Bool.and_eq_true, beq_iff_eq, Bool.not_eq_true', List.all_eq_true] at hb
  obtain ⟨⟨⟨⟨⟨hb1, hb2⟩, hb3⟩, hb4⟩, hb5⟩, hb6⟩ := hb
  rw [hl1] at hb1
  obtain ⟨z, hz⟩ := Option.isSome_iff_exists.1 hb3
  have hxl : xs.length = len := Nat.eq_of_beq_eq_true hb6
  have hsz : ∀ x, x ∈ xs → x.size = i.size := fun x hx => Nat.eq_of_beq_eq_true (hb2 x hx)
  have hle : len * i.size ≤ 16777216 := Nat.le_of_ble_eq_true hb4
  let vs : List (Nat × Value) := (parts.map fun (i, x) => (i, a.eval x)).toList
  have hvs : vs = parts.toList.map fun p => (p.1, a.eval p.2) := by simp [vs]
  have hzv : ∀ w : World, (do pure (← zeroValue el).cells : Sem (Array Value)).run P w = .ok z.cells w := fun w => by
    simp only [zeroValue, typeInfo, program]
    simp [Sem.run, Sem.run_bind, hi, hz]
  have hzv' : ∀ w : World, (zeroValue el).run P w = .ok z w := fun w => by
    simp only [zeroValue, typeInfo, program]
    simp [Sem.run, Sem.run_bind, hi, hz]
  have hsv : ∀ w : World, (sizeOf el).run P w = .ok i.size w := fun w => by
    simp only [sizeOf, typeInfo, program]
    simp [Sem.run, Sem.run_bind, hi]
  have hrel : ∀ (j : Nat) (x : D) (p : Nat × Value), xs[j]? = some x → vs[j]? = some p → RepA ρ X w (.d x) p.2 := by
    intro j x p h1 h2
    rw [hvs, List.getElem?_map] at h2
    cases hp : parts.toList[j]? with
    | none => rw [hp] at h2; cases h2
    | some q =>
      rw [hp] at h2
      simp only [Option.map_some, Option.some.injEq] at h2
      subst h2
      exact hrel0 j x q h1 hp
  have fin : ∀ (c0 : Array Value), c0.size = len * i.size → (∀ w : World, ((if len * i.size = 0 then pure #[] else do pure (← zeroValue el).cells : Sem (Array Value)) >>= fun zero =>
      pure ((Array.range (len * i.size)).map (zero[· % zero.size]!))).run P w = .ok c0 w) →
      ∃ v w', (execOp a.eval o).run P w = .ok (.value v) w' ∧ ∃ ρ' X', Sim (S.upd o.dst (.sl nm [] i.size 0 xs.length) [(nm, .row i.size xs)]) ρ' X' (a.put o.dst v) w' ∧ Evo S (S.upd o.dst (.sl nm [] i.size 0 xs.length) [(nm, .row i.size xs)]) ρ ρ' X X' w w' := by
    intro c0 hc0 hrun0
    obtain ⟨cs, f1, f2⟩ := fill_row (ρ := ρ) (X := X) (w := w) (e := i.size) xs vs 0 [] c0.toList (by
      rw [hvs, List.map_map, hxl]
      have : (fun x => x + 0) = (id : Nat → Nat) := by funext n; rfl
      rw [this, List.map_id]
      exact hb1) (by simp) (by simp [hc0, hxl]) hrel hsz
    simp only [List.nil_append] at f1
    have hcl : cs.length = len * i.size := by rw [f2.length, D.sizes_const xs hsz, hxl]
    have hrun : (Instr.buildSlice T len (parts.map fun (i, x) => (i, a.eval x))).run P w = .ok (.slice (some ⟨w.heap.size, 0, none⟩) len len) (w.alloc (.cells cs.toArray el)) := by
      simp only [Instr.buildSlice]
      rw [run_bind_ok (run_underlying hu w)]
      dsimp only
      rw [run_bind_ok (hsv w), if_neg (by omega)]
      have h0 := hrun0 w
      by_cases hz0 : len * i.size = 0
      · rw [if_pos hz0] at h0 ⊢
        rw [run_bind_ok (run_pure _ w)] at h0 ⊢
        cases h0
        have : Instr.fill (fun j => some (j * i.size, i.size)) ((Array.range (len * i.size)).map fun x => (#[] : Array Value)[x % (#[] : Array Value).size]!) (parts.map fun (i, x) => (i, a.eval x)).toList = some cs.toArray := f1
        rw [this]
        rfl
      · rw [if_neg hz0] at h0 ⊢
        rw [run_bind_ok (hzv w)] at h0
        rw [run_bind_ok (hzv' w), run_bind_ok (run_pure _ w)]
        cases h0
        have : Instr.fill (fun j => some (j * i.size, i.size)) ((Array.range (len * i.size)).map fun x => z.cells[x % z.cells.size]!) (parts.map fun (i, x) => (i, a.eval x)).toList = some cs.toArray := f1
        rw [this]
        rfl
    refine ⟨.slice (some ⟨w.heap.size, 0, none⟩) len len, w.alloc (.cells cs.toArray el), ?_, ?_⟩
    · simp only [execOp, ho]
      exact run_map hrun
    · obtain ⟨hext, hnew⟩ := alloc_new w cs.toArray el (0, 0)
      refine hs.new hf ⟨hext, hnew⟩ (fun ρ' X' g hρ hρn => .inr ⟨w.heap.size, cs, [], el, (0, 0), hρn, ?_, .inl rfl, f2.mono g.ext g.off g.own, hsz⟩) (fun n hn => by cases hn) (fun ρ' X' g hρ hρn => ?_) (fun n hn => by simp [AV.names] at hn; exact .inr hn)
      · simpa using hnew
      · rw [hxl]
        refine repA_of_c (.sl hρn hnew ?_ (Nat.le_refl _) (.inr (by simp [pOff])))
        simp [pOff, hcl]
  by_cases hz0 : len * i.size = 0
  · refine fin ((Array.range (len * i.size)).map fun x => (#[] : Array Value)[x % (#[] : Array Value).size]!) (by simp) (fun w => ?_)
    rw [if_pos hz0, run_bind_ok (run_pure _ w)]; rfl
  · refine fin ((Array.range (len * i.size)).map fun x => z.cells[x % z.cells.size]!) (by simp) (fun w => ?_)
    rw [if_neg hz0, run_bind_ok (hzv w)]; rfl
theorem aBuildSlice_sound {P : Program} {T : TypeId} {len : Nat} {o : Oper} {parts : Array (Nat × Operand)} {S : St} {res : Res} {nm : Nat} (ho : o.op = .buildSlice T len parts)
    (h : aBuildSlice P nm T len (parts.toList.map fun p => (p.1, S.ev p.2)) = some res) (hf : S.hp nm = none) : StepsTo P o S (S.upd o.dst res.r res.ws) := by
  have hds : ∃ xs, dsOf ((parts.toList.map fun p => (p.1, S.ev p.2)).map (·.2)) = some xs := by
    unfold aBuildSlice at h
    split at h <;> try (cases h; done)
    split at h <;> try (cases h; done)
    rename_i h1; exact ⟨_, h1⟩
  obtain ⟨xs, hds⟩ := hds
  have hds' := dsOf_spec hds
  refine steps_own fun ρ X a w hs => buildSlice_core ho h (by rw [List.map_map]; rfl) hds hf hs fun j x q h1 h2 => ?_
  have h3 : ((parts.toList.map fun p => (p.1, S.ev p.2)).map (·.2))[j]? = (xs.map AV.d)[j]? := by rw [hds']
  rw [List.map_map, List.getElem?_map, List.getElem?_map, h2, h1] at h3
  simp only [Option.map_some, Option.some.injEq, Function.comp] at h3
  rw [← h3]
  exact hs.ev q.2
def aMakeSlice (P : Program) (nm : Nat) (T : TypeId) (l c : AV) : Option Res :=
  match elTy P T, l, c with
  | some el, .d (.int _ l), .d (.int _ c) => match P.info? el, zeroD P el with
    | some i, some z => match i.zero with
      | some zv => bif zeqs zv.cells.toList z.flat && z.size.beq i.size && !i.size.beq 0 then
          some ⟨0 ≤ l ∧ l ≤ c ∧ (i.bytes : Int) * c ≤ 281474976710656 ∧ c ≤ 281474976710656, .sl nm [] i.size 0 (List.replicate l.toNat z).length, [(nm, .row i.size (List.replicate l.toNat z))]⟩ else none
      | none => none
    | _, _ => none
  | _, _, _ => none
theorem made_split {z : List Value} (hz : z ≠ []) : ∀ (k n : Nat), ((List.range (k * z.length + n)).map fun i => z.toArray[i % z.toArray.size]!) = (List.replicate k z).flatten ++ (List.range n).map fun i => z.toArray[i % z.toArray.size]! := by
  intro k
  have hpos : 0 < z.length := by cases z with | nil => exact absurd rfl hz | cons _ _ => simp
  induction k with
  | zero => intro n; simp
  | succ k ih =>
    intro n
    have e : (k + 1) * z.length + n = z.length + (k * z.length + n) := by rw [Nat.succ_mul]; omega
    rw [e, List.range_add, List.map_append, List.map_map]
    have h1 : (List.range z.length).map (fun i => z.toArray[i % z.toArray.size]!) = z := by
      apply List.ext_getElem
      · simp
      · intro i h1 h2
        have hi : i < z.length := by simpa using h2
        simp only [List.getElem_map, List.getElem_range, List.size_toArray]
        rw [Nat.mod_eq_of_lt hi]
        simp [hi]
    have h2 : ((fun i => z.toArray[i % z.toArray.size]!) ∘ fun x => z.length + x) = fun i => z.toArray[i % z.toArray.size]! := by
      funext i
      simp only [Function.comp, List.size_toArray, Nat.add_mod_left]
    rw [h1, h2, ih n]
    simp [List.replicate_succ]
theorem RepL.replicate {X : Nat → Prop} {w : World} {x : D} {cs : List Value} (h : RepD X w x cs) : ∀ (n : Nat), RepL X w (List.replicate n x) (List.replicate n cs).flatten
  | 0 => .nil
  | n + 1 => by
    rw [List.replicate_succ, List.replicate_succ, List.flatten_cons]
    exact .cons h (RepL.replicate h n)
theorem aMakeSlice_sound {P : Program} {T : TypeId} {o : Oper} {l c : Operand} {S : St} {res : Res} {nm : Nat} (ho : o.op = .makeSlice T l c) (h : aMakeSlice P nm T (S.ev l) (S.ev c) = some res) (hside : res.side)
    (hf : S.hp nm = none) : StepsTo P o S (S.upd o.dst res.r res.ws) := by
  unfold aMakeSlice at h
  split at h <;> try (cases h; done)
  rename_i el k ln k' cn hel hl hc
  have hu := elTy_spec hel
  split at h <;> try (cases h; done)
  rename_i i z hi hz
  split at h <;> try (cases h; done)
  rename_i zv hzv
  cases hb : zeqs zv.cells.toList z.flat && z.size.beq i.size && !i.size.beq 0 <;> simp only [hb, cond_true, cond_false] at h <;> cases h
  simp only [Bool.and_eq_true, Bool.not_eq_true'] at hb
  obtain ⟨⟨hb1, hb2⟩, hb3⟩ := hb
  have hzf := zeqs_eq hb1
  have hzs := Nat.eq_of_beq_eq_true hb2
  have hne : i.size ≠ 0 := fun e => by rw [e] at hb3; cases hb3
  obtain ⟨h0, h1, h2, h3⟩ := hside
  refine steps_own fun ρ X a w hs => ?_
  obtain ⟨_, _, _, hnosl⟩ := zeroD_run hz w
  have hel1 := hs.ev l
  have hec := hs.ev c
  rw [hl] at hel1; rw [hc] at hec
  have hrun := run_make w T el i zv hu hi hzv k k' ln cn h0 h1 h2 (by omega)
  have hflen : z.flat.length = i.size := by rw [← hzs]; exact (D.flat_rep (X := X) (w := w) z hnosl).length
  have hcells : (madeCells zv.cells (cn.toNat * i.size)) = ((List.replicate ln.toNat z.flat).flatten ++ (List.range ((cn.toNat - ln.toNat) * i.size)).map fun i => z.flat.toArray[i % z.flat.toArray.size]!).toArray := by
    have hzc : zv.cells = z.flat.toArray := by rw [← hzf]
    unfold madeCells
    rw [hzc]
    apply Array.ext'
    rw [← made_split (by intro e; rw [e] at hflen; simp at hflen; omega)]
    have : ln.toNat * z.flat.length + (cn.toNat - ln.toNat) * i.size = cn.toNat * i.size := by
      rw [hflen, ← Nat.add_mul]; congr 1; omega
    rw [this]
    simp
  refine ⟨.slice (some ⟨w.heap.size, 0, none⟩) ln.toNat cn.toNat, w.alloc (.cells (madeCells zv.cells (cn.toNat * i.size)) el), ?_, ?_⟩
  · simp only [execOp, ho, repA_int hel1, repA_int hec]
    exact run_map hrun
  · obtain ⟨hext, hnew⟩ := alloc_new w (madeCells zv.cells (cn.toNat * i.size)) el (0, 0)
    refine hs.new hf ⟨hext, hnew⟩ (fun ρ' X' g hρ hρn => .inr ⟨w.heap.size, (List.replicate ln.toNat z.flat).flatten, (List.range ((cn.toNat - ln.toNat) * i.size)).map (fun i => z.flat.toArray[i % z.flat.toArray.size]!), el, (0, 0), hρn, ?_, .inl rfl, RepL.replicate (D.flat_rep z hnosl) _, fun y hy => ?_⟩) (fun n hn => by cases hn) (fun ρ' X' g hρ hρn => ?_)
      (fun n hn => by simp [AV.names] at hn; exact .inr hn)
    · rw [← hcells]; exact hnew
    · rw [List.eq_of_mem_replicate hy]; exact hzs
    · rw [List.length_replicate]
      refine repA_of_c (.sl hρn hnew ?_ (by omega) (.inr (by simp [pOff])))
      rw [size_madeCells]
      simp [pOff]
end Go.Sym

namespace Go.Sym
mutual
def D.beq : D → D → Bool
  | .int _ a, .int _ b => a == b
  | .bool a, .bool b => a == b
  | .str a, .str b => a.toList == b.toList
  | .st fs, .st gs => D.beqs fs gs
  | .arr _ _ xs, .arr _ _ ys => D.beqs xs ys
  | _, _ => false
def D.beqs : List D → List D → Bool
  | [], [] => true
  | x :: xs, y :: ys => D.beq x y && D.beqs xs ys
  | _, _ => false
end
def fitsWith (P : Program) (F : TypeId → D → Prop) : List Field → Nat → List D → Prop
  | [], _, [] => True
  | fd :: fds, off, x :: xs => (fd.name ≠ "_" ∧ fd.offset = off ∧ tyOK P fd.type x.size x.isAgg = true) ∧ F fd.type x ∧ fitsWith P F fds (off + x.size) xs
  | _, _, _ => False
def D.fits (P : Program) : Nat → TypeId → D → Prop
  | 0, _, _ => False
  | f + 1, T, x => match P.underlying T with
    | some (.int k) => match x with
      | .int k' _ => k' = k
      | _ => False
    | some .bool => match x with
      | .bool _ => True
      | _ => False
    | some .string => match x with
      | .str _ => True
      | _ => False
    | some (.array n e) => match x with
      | .arr m s xs => m = n ∧ s = szOf P e ∧ (P.info? e).isSome = true ∧ (∀ y, y ∈ xs → tyOK P e y.size y.isAgg = true) ∧ ∀ y, y ∈ xs → D.fits P f e y
      | _ => False
    | some (.struct fields) => P.stoodInHeld T = false ∧ match x with
      | .st fs => fitsWith P (D.fits P f) fields.toList 0 fs
      | _ => False
    | _ => False
theorem isAgg_len {X : Nat → Prop} {w : World} {x : D} {cs : List Value} (h : RepD X w x cs) (ha : x.isAgg = false) : cs.length = 1 := notAgg_size (ρ := fun _ => none) (.d h) ha
theorem eqItems_run {P : Program} {X : Nat → Prop} {w : World} {e : TypeId} {c d : Nat} (ih : ∀ (x y : D) (cs ds : List Value), D.fits P d e x → D.fits P d e y → RepD X w x cs → RepD X w y ds → ∀ k, (Op.equalIn (k + d) e (wrapV x.isAgg cs) (wrapV y.isAgg ds)).run P w = .ok (D.beq x y) w) (k : Nat) :
    ∀ (xs ys : List D) (i : Nat) (px py cs ds : List Value), xs.length = ys.length → px.length = i * c → py.length = i * c → RepL X w xs cs → RepL X w ys ds →
      (∀ x, x ∈ xs → x.size = c ∧ tyOK P e x.size x.isAgg = true ∧ D.fits P d e x) → (∀ x, x ∈ ys → x.size = c ∧ tyOK P e x.size x.isAgg = true ∧ D.fits P d e x) →
      (Op.eqItems (k + d) e c (px ++ cs).toArray (py ++ ds).toArray (List.range' i xs.length)).run P w = .ok (D.beqs xs ys) w := by
  intro xs
  induction xs with
  | nil =>
    intro ys i px py cs ds hl _ _ _ _ _ _
    have : ys = [] := List.eq_nil_of_length_eq_zero hl.symm
    subst this
    rfl
  | cons x xs ihx =>
    intro ys i px py cs ds hl h1 h2 hr1 hr2 hx hy
    cases ys with
    | nil => cases hl
    | cons y ys =>
      cases hr1 with
      | cons r1 rs1 =>
        rename_i c1 cs
        cases hr2 with
        | cons r2 rs2 =>
          rename_i c2 ds
          obtain ⟨a1, a2, a3⟩ := hx x (by simp)
          obtain ⟨b1, b2, b3⟩ := hy y (by simp)
          have p1 := run_part (P := P) (T := e) (w := w) (pre := px) (c := c1) (post := cs) (agg := x.isAgg) (by rw [r1.length]; exact a2) h1 (isAgg_len r1)
          have p2 := run_part (P := P) (T := e) (w := w) (pre := py) (c := c2) (post := ds) (agg := y.isAgg) (by rw [r2.length]; exact b2) h2 (isAgg_len r2)
          simp only [List.length_cons, List.range'_succ, Op.eqItems]
          rw [List.append_assoc] at p1 p2
          rw [run_bind_ok p1, run_bind_ok p2, run_bind_ok (ih x y c1 c2 a3 b3 r1 r2 k)]
          have := ihx ys (i + 1) (px ++ c1) (py ++ c2) cs ds (by simpa using hl) (by simp [h1, r1.length, a1, Nat.succ_mul]) (by simp [h2, r2.length, b1, Nat.succ_mul]) rs1 rs2
            (fun z hz => hx z (by simp [hz])) (fun z hz => hy z (by simp [hz]))
          simp only [List.append_assoc] at this
          simp only [D.beqs]
          cases hb : D.beq x y with
          | true => simp only [Bool.not_true, Bool.false_eq_true, if_false, Bool.true_and]; exact this
          | false => rfl
theorem eqFields_run {P : Program} {X : Nat → Prop} {w : World} {d : Nat} (ih : ∀ (T : TypeId) (x y : D) (cs ds : List Value), D.fits P d T x → D.fits P d T y → RepD X w x cs → RepD X w y ds → ∀ k, (Op.equalIn (k + d) T (wrapV x.isAgg cs) (wrapV y.isAgg ds)).run P w = .ok (D.beq x y) w) (k : Nat) :
    ∀ (fds : List Field) (xs ys : List D) (off : Nat) (px py cs ds : List Value), px.length = off → py.length = off → RepL X w xs cs → RepL X w ys ds → fitsWith P (D.fits P d) fds off xs → fitsWith P (D.fits P d) fds off ys →
      (Op.eqFields (k + d) (px ++ cs).toArray (py ++ ds).toArray fds).run P w = .ok (D.beqs xs ys) w := by
  intro fds
  induction fds with
  | nil =>
    intro xs ys off px py cs ds _ _ _ _ h1 h2
    cases xs with
    | nil => cases ys with
      | nil => rfl
      | cons _ _ => simp [fitsWith] at h2
    | cons _ _ => simp [fitsWith] at h1
  | cons fd fds ihf =>
    intro xs ys off px py cs ds l1 l2 hr1 hr2 h1 h2
    cases xs with
    | nil => simp [fitsWith] at h1
    | cons x xs =>
      cases ys with
      | nil => simp [fitsWith] at h2
      | cons y ys =>
        simp only [fitsWith] at h1 h2
        obtain ⟨⟨hn, ho, t1⟩, f1, g1⟩ := h1
        obtain ⟨⟨_, _, t2⟩, f2, g2⟩ := h2
        cases hr1 with
        | cons r1 rs1 =>
          rename_i c1 cs
          cases hr2 with
          | cons r2 rs2 =>
            rename_i c2 ds
            have p1 := run_part (P := P) (T := fd.type) (w := w) (pre := px) (c := c1) (post := cs) (agg := x.isAgg) (by rw [r1.length]; exact t1) (l1.trans ho.symm) (isAgg_len r1)
            have p2 := run_part (P := P) (T := fd.type) (w := w) (pre := py) (c := c2) (post := ds) (agg := y.isAgg) (by rw [r2.length]; exact t2) (l2.trans ho.symm) (isAgg_len r2)
            have hsz : x.size = y.size := by
              have := tyOK_size t1 w
              rw [tyOK_size t2 w] at this
              simp only [Result.ok.injEq, and_true] at this
              exact this.symm
            simp only [Op.eqFields]
            rw [if_pos hn]
            rw [List.append_assoc] at p1 p2
            rw [run_bind_ok p1, run_bind_ok p2, run_bind_ok (ih fd.type x y c1 c2 f1 f2 r1 r2 k)]
            have := ihf xs ys (off + x.size) (px ++ c1) (py ++ c2) cs ds (by simp [l1, r1.length]) (by simp [l2, r2.length, hsz]) rs1 rs2 g1 (by rw [hsz]; exact g2)
            simp only [List.append_assoc] at this
            simp only [D.beqs]
            cases hb : D.beq x y with
            | true => simp only [Bool.not_true, Bool.false_eq_true, if_false, Bool.true_and]; exact this
            | false => rfl
theorem D.eq_run {P : Program} {X : Nat → Prop} {w : World} : ∀ (f : Nat) (T : TypeId) (x y : D) (cs ds : List Value), D.fits P f T x → D.fits P f T y → RepD X w x cs → RepD X w y ds →
    ∀ k, (Op.equalIn (k + f) T (wrapV x.isAgg cs) (wrapV y.isAgg ds)).run P w = .ok (D.beq x y) w := by
  intro f
  induction f with
  | zero => intro T x y cs ds h; simp [D.fits] at h
  | succ f ih =>
    intro T x y cs ds h1 h2 r1 r2 k
    simp only [D.fits] at h1 h2
    cases hu : P.underlying T with
    | none => rw [hu] at h1; exact h1.elim
    | some t =>
      rw [hu] at h1 h2
      rw [show k + (f + 1) = (k + f) + 1 from rfl]
      cases t <;> try (exact h1.elim)
      case bool =>
        cases x <;> try (exact h1.elim)
        cases y <;> try (exact h2.elim)
        cases r1; cases r2
        exact run_equalIn_bool w _ T _ _ hu
      case int q =>
        cases x <;> try (exact h1.elim)
        cases y <;> try (exact h2.elim)
        cases r1; cases r2
        simp only at h1 h2
        subst h1; subst h2
        exact run_equalIn_int w _ T _ _ _ _ hu
      case string =>
        cases x <;> try (exact h1.elim)
        cases y <;> try (exact h2.elim)
        cases r1; cases r2
        exact run_equalIn_string w _ T _ _ hu
      case array n e =>
        cases x <;> try (exact h1.elim)
        rename_i m s xs
        cases y <;> try (exact h2.elim)
        rename_i m' s' ys
        obtain ⟨rfl, rfl, hi, h3, h4⟩ := h1
        obtain ⟨rfl, rfl, _, h5, h6⟩ := h2
        obtain ⟨i, hi⟩ := Option.isSome_iff_exists.1 hi
        have hc : P.cellsOf e = szOf P e := by simp [Program.cellsOf, szOf, hi]
        cases r1 with
        | arr l1 e1 r1 =>
          cases r2 with
          | arr l2 e2 r2 =>
            simp only [wrapV, D.isAgg, if_true]
            rw [run_equalIn_array w (k + f) cs.toArray ds.toArray hu hi, hc]
            have := eqItems_run (fun x y cs ds => ih e x y cs ds) k xs ys 0 [] [] cs ds (by rw [l1, l2]) (by simp) (by simp) r1 r2 (c := szOf P e) (fun x hx => ⟨e1 x hx, h3 x hx, h4 x hx⟩) (fun x hx => ⟨e2 x hx, h5 x hx, h6 x hx⟩)
            simp only [List.nil_append] at this
            rw [List.range_eq_range', ← l1]
            exact this
      case struct fields =>
        cases x <;> try (exact h1.2.elim)
        cases y <;> try (exact h2.2.elim)
        rename_i fs gs
        have hf : P.fieldsOf T = fields := by simp [Program.fieldsOf, hu]
        cases r1 with
        | st r1 =>
          cases r2 with
          | st r2 =>
            simp only [wrapV, D.isAgg, if_true]
            rw [run_equalIn_struct w (k + f) T cs.toArray ds.toArray (by rw [hf]; exact hu) h1.1, hf]
            have := eqFields_run (fun T x y cs ds => ih T x y cs ds) k fields.toList fs gs 0 [] [] cs ds rfl rfl r1 r2 h1.2 h2.2
            show _ = Result.ok (D.beqs fs gs) w
            simpa using this
def aEqNil (P : Program) (T : TypeId) (x y : AV) (neg : Bool) : Option Res := match P.underlying T, x, y with
  | some (.pointer _), .ptr _ _, .d .nilp => some ⟨True, .d (.bool neg), []⟩
  | some (.pointer _), .dptr _, .d .nilp => some ⟨True, .d (.bool neg), []⟩
  | some (.func _ _ _), .fn _ _, .d .nilf => some ⟨True, .d (.bool neg), []⟩
  | some (.slice _), .cst (.slice none _ _), .d .nils => some ⟨True, .d (.bool (!neg)), []⟩
  | some (.slice _), .cst (.slice (some _) _ _), .d .nils => some ⟨True, .d (.bool neg), []⟩
  | some (.slice _), .d (.sl (_ :: _)), .d .nils => some ⟨True, .d (.bool neg), []⟩
  | _, _, _ => none
def aEq (P : Program) (T : TypeId) (x y : AV) (neg : Bool) : Option Res := match x, y with
  | .d (.st a), .d (.st b) => some ⟨P.eqGuardType P.depth T = false ∧ D.fits P 8 T (.st a) ∧ D.fits P 8 T (.st b), .d (.bool (bif neg then !D.beq (.st a) (.st b) else D.beq (.st a) (.st b))), []⟩
  | .d (.sl (z :: zs)), .d .nils => aEqNil P T (.d (.sl (z :: zs))) (.d .nils) neg
  | .d a, .d b => bif a.isAgg && b.isAgg && !P.eqGuardType P.depth T then some ⟨D.fits P 8 T a ∧ D.fits P 8 T b, .d (.bool (bif neg then !D.beq a b else D.beq a b)), []⟩ else none
  | x, y => aEqNil P T x y neg
def aCmp (P : Program) (op : BinOp) (T : TypeId) (x y : AV) : Option Res :=
  match op with
  | .eql => aEq P T x y false
  | .neq => aEq P T x y true
  | _ => none
theorem aCmp_sound {P : Program} {op : BinOp} {T T2 : TypeId} {o : Oper} {x y : Operand} {S : St} {res : Res} (ho : o.op = .binOp op T x y T2) (h : aCmp P op T (S.ev x) (S.ev y) = some res) (hside : res.side) :
    StepsTo P o S (S.upd o.dst res.r res.ws) := by
  have bo : ∀ {ρ : Nat → Option Nat} {X : Nat → Prop} {w : World} {b : Bool}, RepA ρ X w (.d (.bool b)) (.bool b) := fun {_ _ _ b} => ⟨_, .d (.bool b), rfl⟩
  have key : ∀ neg, (op = .eql ∧ neg = false ∨ op = .neq ∧ neg = true) → aEq P T (S.ev x) (S.ev y) neg = some res → StepsTo P o S (S.upd o.dst res.r res.ws) := by
    intro neg hop h
    have agg : ∀ (a b : D), S.ev x = .d a → S.ev y = .d b → a.isAgg = true → b.isAgg = true → P.eqGuardType P.depth T = false → D.fits P 8 T a → D.fits P 8 T b →
        res = ⟨res.side, .d (.bool (bif neg then !D.beq a b else D.beq a b)), []⟩ → StepsTo P o S (S.upd o.dst res.r res.ws) := by
      intro a b hx hy ha hb hg hf1 hf2 hres
      rw [hres]
      refine steps_value fun ρ X e w hs => ⟨.bool (bif neg then !D.beq a b else D.beq a b), ?_, bo, fun m hm => by cases hm⟩
      have h1 := hs.ev x
      have h2 := hs.ev y
      rw [hx] at h1; rw [hy] at h2
      obtain ⟨cs, c1, c2⟩ := repA_d h1
      obtain ⟨ds, d1, d2⟩ := repA_d h2
      have heq : (Op.equal T (e.eval x) (e.eval y)).run P w = .ok (D.beq a b) w := by
        rw [c2, d2]
        exact D.eq_run 8 T a b cs ds hf1 hf2 c1 d1 9992
      rw [ha] at c2; rw [hb] at d2
      simp only [wrapV, if_true] at c2 d2
      have hgd : (eqGuard op T x y (e.eval x) (e.eval y)).run P w = .ok () w := by
        rw [c2, d2]
        have hp : (program >>= fun p => program >>= fun q => if (!Program.eqGuardType p q.depth T) = true then pure () else (do if ← Op.eqGuardIn Op.maxDepth T (.agg cs.toArray) (.agg ds.toArray) then unsupported (.noEntry "binop/eql: two nil values of an interface type with methods, in a part of a struct or an array") : Sem Unit)).run P w = .ok () w := by
          simp [program, Sem.run, Sem.run_bind, hg]
        rcases hop with ⟨rfl, _⟩ | ⟨rfl, _⟩
        · simpa [eqGuard] using hp
        · simpa [eqGuard] using hp
      simp only [execOp, ho]
      refine run_map ?_
      rw [run_bind_ok hgd]
      rw [c2, d2] at heq ⊢
      rcases hop with ⟨rfl, rfl⟩ | ⟨rfl, rfl⟩
      · simp only [binOp]; rw [run_bind_ok heq]; rfl
      · simp only [binOp]; rw [run_bind_ok heq]; rfl
    have nl : ∀ r : Res, aEqNil P T (S.ev x) (S.ev y) neg = some r → StepsTo P o S (S.upd o.dst r.r r.ws) := by
      intro r h
      unfold aEqNil at h
      split at h <;> cases h
      · rename_i el n p hu hx hy
        refine steps_value fun ρ X e w hs => ⟨.bool neg, ?_, bo, fun m hm => by cases hm⟩
        have h1 := hs.ev x
        have h2 := hs.ev y
        rw [hx] at h1; rw [hy] at h2
        obtain ⟨b, _, hv⟩ := repA_ptr h1
        obtain ⟨ds, d1, d2⟩ := repA_d h2
        cases d1
        simp only [wrapV, D.isAgg, Bool.false_eq_true, if_false, List.headD_cons] at d2
        have heq : (Op.equal T (e.eval x) (e.eval y)).run P w = .ok false w := by
          rw [hv, d2]
          have key : ∀ d, (Op.equalIn (d + 1) T (.pointer (some ⟨b, pOff p, none⟩)) (.pointer none)).run P w = .ok false w := fun d => by
            simp only [Op.equalIn]
            rw [run_bind_ok (run_underlying hu w)]; rfl
          exact key 9999
        simp only [execOp, ho]
        refine run_map ?_
        rw [hv, d2] at heq ⊢
        rcases hop with ⟨rfl, rfl⟩ | ⟨rfl, rfl⟩
        · rw [run_bind_ok (x := ()) (w' := w) (by simp [eqGuard])]; simp only [binOp]; rw [run_bind_ok heq]; rfl
        · rw [run_bind_ok (x := ()) (w' := w) (by simp [eqGuard])]; simp only [binOp]; rw [run_bind_ok heq]; rfl
      · rename_i el z hu hx hy
        refine steps_value fun ρ X e w hs => ⟨.bool neg, ?_, bo, fun m hm => by cases hm⟩
        have h1 := hs.ev x
        have h2 := hs.ev y
        rw [hx] at h1; rw [hy] at h2
        obtain ⟨b, q, cs, hv, _⟩ := repA_dptr h1
        obtain ⟨ds, d1, d2⟩ := repA_d h2
        cases d1
        simp only [wrapV, D.isAgg, Bool.false_eq_true, if_false, List.headD_cons] at d2
        have heq : (Op.equal T (e.eval x) (e.eval y)).run P w = .ok false w := by
          rw [hv, d2]
          have key : ∀ d, (Op.equalIn (d + 1) T (.pointer (some ⟨b, q, none⟩)) (.pointer none)).run P w = .ok false w := fun d => by
            simp only [Op.equalIn]
            rw [run_bind_ok (run_underlying hu w)]; rfl
          exact key 9999
        simp only [execOp, ho]
        refine run_map ?_
        rw [hv, d2] at heq ⊢
        rcases hop with ⟨rfl, rfl⟩ | ⟨rfl, rfl⟩
        · rw [run_bind_ok (x := ()) (w' := w) (by simp [eqGuard])]; simp only [binOp]; rw [run_bind_ok heq]; rfl
        · rw [run_bind_ok (x := ()) (w' := w) (by simp [eqGuard])]; simp only [binOp]; rw [run_bind_ok heq]; rfl
      · rename_i f cs hu hx hy
        refine steps_value fun ρ X e w hs => ⟨.bool neg, ?_, bo, fun m hm => by cases hm⟩
        have h1 := hs.ev x
        have h2 := hs.ev y
        rw [hx] at h1; rw [hy] at h2
        obtain ⟨us, u1, u2⟩ := h1
        obtain ⟨ds, d1, d2⟩ := repA_d h2
        cases d1
        cases u1 with
        | fn _ =>
          rename_i vs _
          simp only [wrapV, D.isAgg, AV.isAgg, Bool.false_eq_true, if_false, List.headD_cons] at d2 u2
          have heq : (Op.equal T (e.eval x) (e.eval y)).run P w = .ok false w := by
            rw [u2, d2]
            have key : ∀ d, (Op.equalIn (d + 1) T (.func (f) #[] vs.toArray) .nilFunc).run P w = .ok false w := fun d => by
              simp only [Op.equalIn]
              rw [run_bind_ok (run_underlying hu w)]; rfl
            exact key 9999
          simp only [execOp, ho]
          refine run_map ?_
          rw [u2, d2] at heq ⊢
          rcases hop with ⟨rfl, rfl⟩ | ⟨rfl, rfl⟩
          · rw [run_bind_ok (x := ()) (w' := w) (by simp [eqGuard])]; simp only [binOp]; rw [run_bind_ok heq]; rfl
          · rw [run_bind_ok (x := ()) (w' := w) (by simp [eqGuard])]; simp only [binOp]; rw [run_bind_ok heq]; rfl
      · rename_i el len cap hu hx hy
        refine steps_value fun ρ X e w hs => ⟨.bool (!neg), ?_, bo, fun m hm => by cases hm⟩
        have h1 := hs.ev x
        have h2 := hs.ev y
        rw [hx] at h1; rw [hy] at h2
        obtain ⟨us, u1, u2⟩ := h1
        obtain ⟨ds, d1, d2⟩ := repA_d h2
        cases d1
        cases u1
        simp only [wrapV, D.isAgg, AV.isAgg, Bool.false_eq_true, if_false, List.headD_cons] at d2 u2
        have heq : (Op.equal T (e.eval x) (e.eval y)).run P w = .ok true w := by
          rw [u2, d2]
          have key : ∀ d, (Op.equalIn (d + 1) T (.slice none len cap) (.slice none 0 0)).run P w = .ok true w := fun d => by
            simp only [Op.equalIn]
            rw [run_bind_ok (run_underlying hu w)]; rfl
          exact key 9999
        simp only [execOp, ho]
        refine run_map ?_
        rw [u2, d2] at heq ⊢
        rcases hop with ⟨rfl, rfl⟩ | ⟨rfl, rfl⟩
        · rw [run_bind_ok (x := ()) (w' := w) (by simp [eqGuard])]; simp only [binOp]; rw [run_bind_ok heq]; rfl
        · rw [run_bind_ok (x := ()) (w' := w) (by simp [eqGuard])]; simp only [binOp]; rw [run_bind_ok heq]; rfl
      · rename_i el ad len cap hu hx hy
        refine steps_value fun ρ X e w hs => ⟨.bool neg, ?_, bo, fun m hm => by cases hm⟩
        have h1 := hs.ev x
        have h2 := hs.ev y
        rw [hx] at h1; rw [hy] at h2
        obtain ⟨us, u1, u2⟩ := h1
        obtain ⟨ds, d1, d2⟩ := repA_d h2
        cases d1
        cases u1
        simp only [wrapV, D.isAgg, AV.isAgg, Bool.false_eq_true, if_false, List.headD_cons] at d2 u2
        have heq : (Op.equal T (e.eval x) (e.eval y)).run P w = .ok false w := by
          rw [u2, d2]
          have key : ∀ d, (Op.equalIn (d + 1) T (.slice (some ad) len cap) (.slice none 0 0)).run P w = .ok false w := fun d => by
            simp only [Op.equalIn]
            rw [run_bind_ok (run_underlying hu w)]; rfl
          exact key 9999
        simp only [execOp, ho]
        refine run_map ?_
        rw [u2, d2] at heq ⊢
        rcases hop with ⟨rfl, rfl⟩ | ⟨rfl, rfl⟩
        · rw [run_bind_ok (x := ()) (w' := w) (by simp [eqGuard])]; simp only [binOp]; rw [run_bind_ok heq]; rfl
        · rw [run_bind_ok (x := ()) (w' := w) (by simp [eqGuard])]; simp only [binOp]; rw [run_bind_ok heq]; rfl
      · rename_i el z zs hu hx hy
        refine steps_value fun ρ X e w hs => ⟨.bool neg, ?_, bo, fun m hm => by cases hm⟩
        have h1 := hs.ev x
        have h2 := hs.ev y
        rw [hx] at h1; rw [hy] at h2
        obtain ⟨us, u1, u2⟩ := repA_d h1
        obtain ⟨ds, d1, d2⟩ := repA_d h2
        cases d1
        cases u1 with
        | sl a1 a2 a3 a4 a5 a6 =>
        rename_i b off cap e2 cs
        simp only [wrapV, D.isAgg, Bool.false_eq_true, if_false, List.headD_cons] at d2 u2
        have heq : (Op.equal T (e.eval x) (e.eval y)).run P w = .ok false w := by
          rw [u2, d2]
          have key : ∀ d, (Op.equalIn (d + 1) T (.slice (some ⟨b, off, none⟩) (z :: zs).length cap) (.slice none 0 0)).run P w = .ok false w := fun d => by
            simp only [Op.equalIn]
            rw [run_bind_ok (run_underlying hu w)]; rfl
          exact key 9999
        simp only [execOp, ho]
        refine run_map ?_
        rw [u2, d2] at heq ⊢
        rcases hop with ⟨rfl, rfl⟩ | ⟨rfl, rfl⟩
        · rw [run_bind_ok (x := ()) (w' := w) (by simp [eqGuard])]; simp only [binOp]; rw [run_bind_ok heq]; rfl
        · rw [run_bind_ok (x := ()) (w' := w) (by simp [eqGuard])]; simp only [binOp]; rw [run_bind_ok heq]; rfl
    unfold aEq at h
    split at h
    · rename_i a b hx hy
      cases h
      exact agg _ _ hx hy rfl rfl hside.1 hside.2.1 hside.2.2 rfl
    · rename_i z zs hx hy
      rw [← hx, ← hy] at h
      exact nl _ h
    · rename_i a b _ _ hx hy
      cases hb : a.isAgg && b.isAgg && !P.eqGuardType P.depth T <;> simp only [hb, cond_true, cond_false] at h <;> cases h
      simp only [Bool.and_eq_true, Bool.not_eq_true'] at hb
      exact agg a b hx hy hb.1.1 hb.1.2 hb.2 hside.1 hside.2 rfl
    · exact nl _ h
  unfold aCmp at h
  split at h
  · exact key false (.inl ⟨rfl, rfl⟩) h
  · exact key true (.inr ⟨rfl, rfl⟩) h
  · cases h
end Go.Sym

namespace Go.Sym
def overD (xs ys : List D) (off k : Nat) : List D := xs.take off ++ ys.take k ++ xs.drop (off + k)
theorem overD_length {xs ys : List D} {off k : Nat} (h : off + k ≤ xs.length) (hk : k ≤ ys.length) : (overD xs ys off k).length = xs.length := by
  unfold overD; simp; omega
def aCopy (P : Program) (T : TypeId) (hp : Nat → Option AObj) (d x : AV) : Option Res :=
  match elTy P T with
  | some el => bif (szOf P el).beq 0 then none else match d with
    | .sl o p e off len => match elsOf hp x with
      | some (sd, ys) => bif (szOf P el).beq e then match hp o with
        | some (.var u) => match AV.nav u p with
          | some (s, .d (.arr n e' xs)) => bif e.beq e' then match AV.set u p (.d (.arr n e (overD xs ys off (min ys.length len)))) with
            | some (s2, z) => some ⟨((sd ∧ s ∧ s2) ∧ off + len ≤ xs.length) ∧ ∀ y, y ∈ ys → y.size = e, .d (.int .i64 (min ys.length len : Nat)), [(o, .var z)]⟩
            | none => none
            else none
          | _ => none
        | some (.row e' xs) => match p with
          | [] => bif e.beq e' then some ⟨(sd ∧ off + len ≤ xs.length) ∧ ∀ y, y ∈ ys → y.size = e, .d (.int .i64 (min ys.length len : Nat)), [(o, .row e (overD xs ys off (min ys.length len)))]⟩ else none
          | _ => none
        | _ => none
        else none
      | none => none
    | _ => none
  | none => none
theorem elsOf_first {P : Program} {S : St} {ρ : Nat → Option Nat} {X : Nat → Prop} {a : Act} {w : World} (hs : Sim S ρ X a w) {x : AV} {s : Prop} {ys : List D} {hp : Nat → Option AObj} (hle : ∀ n x, hp n = some x → S.hp n = some x) (h : elsOf hp x = some (s, ys)) (hside : s) {v : Value}
    (hv : RepA ρ X w x v) {e : Nat} (he : ∀ y, y ∈ ys → y.size = e) {k : Nat} (hk : k ≤ ys.length) :
    ∃ cs : List Value, (Builtin.lenOf v).run P w = .ok ys.length w ∧ (Builtin.firstCells e k v).run P w = .ok cs.toArray w ∧ RepL X w (ys.take k) cs := by
  rcases elsOf_rep hs hle h hside hv with ⟨rfl, ad, cap, rfl⟩ | ⟨b, q, cap, cs, e', rfl, h2, h3, h4, _, _⟩
  · have : k = 0 := by simpa using hk
    subst this
    refine ⟨[], rfl, ?_, .nil⟩
    have h0 : 0 * e = 0 := by simp
    cases ad with
    | none => rfl
    | some ad => simp only [Builtin.firstCells]; rw [h0]; rfl
  · have hsp : ys = ys.take k ++ ys.drop k := (List.take_append_drop k ys).symm
    rw [hsp] at h3
    obtain ⟨c, d, rfl, k1, k2⟩ := RepL.split h3
    refine ⟨c, rfl, ?_, k1⟩
    simp only [Builtin.firstCells]
    have hl : k * e = c.length := by
      rw [k1.length, D.sizes_const _ (fun y hy => he y (List.mem_of_mem_take hy)), List.length_take, Nat.min_eq_left hk]
    rw [hl]
    refine run_loadCells fun i v hv => h2 i v ?_
    rw [List.getElem?_append_left (List.getElem?_eq_some_iff.1 hv).1]; exact hv
theorem run_copy {P : Program} {T T2 ty el : TypeId} {e : Nat} {w w' : World} (hu : P.underlying T = some (.slice el)) (hsz : (sizeOf el).run P w = .ok e w) {a : Addr} {len cap n : Nat} {x : Value} {news : Array Value}
    (hlen : (Builtin.lenOf x).run P w = .ok n w) (hnew : (Builtin.firstCells e (min n len) x).run P w = .ok news w) (hst : (storeCells a news.toList).run P w = .ok () w') :
    (Builtin.copy_ #[T, T2] ty #[.slice (some a) len cap, x]).run P w = .ok (.int .i64 (min n len : Nat)) w' := by
  simp only [Builtin.copy_]
  rw [show (#[T, T2] : Array TypeId)[0]? = some T from rfl, show (#[Value.slice (some a) len cap, x] : Array Value)[0]? = some (.slice (some a) len cap) from rfl,
    show (#[Value.slice (some a) len cap, x] : Array Value)[1]? = some x from rfl]
  simp only []
  rw [run_bind_ok (run_underlying hu w)]
  simp only []
  rw [run_bind_ok hlen, run_bind_ok hsz]
  have hnew' : (Builtin.firstCells e (Nat.min n len) x).run P w = .ok news w := hnew
  rw [run_bind_ok hnew', run_bind_ok hst]
  rfl
theorem run_copy0 {P : Program} {T T2 ty el : TypeId} {e : Nat} {w : World} (hu : P.underlying T = some (.slice el)) (hsz : (sizeOf el).run P w = .ok e w) {len cap n : Nat} {x : Value} {news : Array Value}
    (hlen : (Builtin.lenOf x).run P w = .ok n w) (hnew : (Builtin.firstCells e (min n len) x).run P w = .ok news w) :
    (Builtin.copy_ #[T, T2] ty #[.slice none len cap, x]).run P w = .ok (.int .i64 (min n len : Nat)) w := by
  simp only [Builtin.copy_]
  rw [show (#[T, T2] : Array TypeId)[0]? = some T from rfl, show (#[Value.slice none len cap, x] : Array Value)[0]? = some (.slice none len cap) from rfl,
    show (#[Value.slice none len cap, x] : Array Value)[1]? = some x from rfl]
  simp only []
  rw [run_bind_ok (run_underlying hu w)]
  simp only []
  rw [run_bind_ok hlen, run_bind_ok hsz]
  have hnew' : (Builtin.firstCells e (Nat.min n len) x).run P w = .ok news w := hnew
  rw [run_bind_ok hnew']
  rfl
theorem store_over {P : Program} {w : World} {b q pl : Nat} {T : TypeId} {z : Nat × Nat} {pre old post vs : List Value} (h : w.heap[b]? = some (.cells (pre ++ old ++ post).toArray T z)) (hz : unfrozen z (pre ++ old ++ post).length)
    (hp : pre.length = pl) (hl : old.length = vs.length) (hc : ∀ v, v ∈ vs → isCell v = true) (hq : vs = [] ∨ q = pl) :
    (storeCells ⟨b, q, none⟩ vs).run P w = .ok () (World.lay w b (pre ++ vs ++ post)) := by
  rcases hq with rfl | rfl
  · have : old = [] := by simpa using hl
    subst this
    simp only [storeCells, run_pure]
    congr 1
    unfold World.lay
    rw [setRow_self _ _ _ _ _ h]
  · subst hp
    have := run_storeCells (P := P) (b := b) (T := T) (z := z) pre pre.length vs old post [] w (by simpa using h) (by simpa using hz) rfl hl hc
    simpa using this
theorem RepL.over {X : Nat → Prop} {w : World} {xs ys : List D} {cs ds : List Value} {e : Nat} (h : RepL X w xs cs) (he : ∀ x, x ∈ xs → x.size = e) (hy : ∀ y, y ∈ ys → y.size = e) {off k : Nat} (hk : k ≤ ys.length) (hl : off + k ≤ xs.length) (hd : RepL X w (ys.take k) ds) :
    ∃ pre old post, cs = pre ++ old ++ post ∧ pre.length = off * e ∧ old.length = ds.length ∧ RepL X w (overD xs ys off k) (pre ++ ds ++ post) ∧ ∀ x, x ∈ overD xs ys off k → x.size = e := by
  have hsp : xs = xs.take off ++ ((xs.drop off).take k ++ xs.drop (off + k)) := by
    rw [← List.drop_drop, List.take_append_drop, List.take_append_drop]
  have h' := h
  rw [hsp] at h'
  obtain ⟨pre, r, rfl, g1, g2⟩ := RepL.split h'
  obtain ⟨old, post, rfl, g3, g4⟩ := RepL.split g2
  refine ⟨pre, old, post, by simp, ?_, ?_, (g1.append hd).append g4, fun x hx => ?_⟩
  · rw [g1.length, D.sizes_const _ (fun x hx => he x (List.mem_of_mem_take hx)), List.length_take]
    congr 1; omega
  · rw [g3.length, hd.length, D.sizes_const _ (fun x hx => he x (List.mem_of_mem_drop (List.mem_of_mem_take hx))), D.sizes_const _ (fun x hx => hy x (List.mem_of_mem_take hx)), List.length_take, List.length_take, List.length_drop]
    congr 1; omega
  · unfold overD at hx
    rcases List.mem_append.1 hx with hx | hx
    · rcases List.mem_append.1 hx with hx | hx
      · exact he x (List.mem_of_mem_take hx)
      · exact hy x (List.mem_of_mem_take hx)
    · exact he x (List.mem_of_mem_drop hx)
theorem aCopy_sound {P : Program} {tys : Array TypeId} {T T2 : TypeId} {o : Oper} {d x : Operand} {S : St} {res : Res} {hp : Nat → Option AObj} (hle : ∀ n x, hp n = some x → S.hp n = some x) (ho : o.op = .call { callee := .builtin .copy, args := #[d, x], argTypes := tys })
    (hT : tys = #[T, T2]) (h : aCopy P T hp (S.ev d) (S.ev x) = some res) (hside : res.side) : StepsTo P o S (S.upd o.dst res.r res.ws) := by
  subst hT
  have key : ∀ {w w' : World} {ev : Operand → Value} {v : Value}, (Builtin.copy_ #[T, T2] o.type #[ev d, ev x]).run P w = .ok v w' → (execOp ev o).run P w = .ok (.value v) w' := fun hr => by
    refine run_builtin ho ?_
    simp only [builtin, List.map_toArray, List.map_cons, List.map_nil]
    exact run_map hr
  unfold aCopy at h
  split at h <;> try (cases h; done)
  rename_i el hel
  have hu := elTy_spec hel
  cases hz0 : (szOf P el).beq 0 <;> simp only [hz0, cond_true, cond_false] at h <;> try (cases h; done)
  have hsz0 : szOf P el ≠ 0 := fun e => by rw [e] at hz0; cases hz0
  split at h <;> try (cases h; done)
  rename_i m p e off len hd
  split at h <;> try (cases h; done)
  rename_i sd ys hels
  cases hbe : (szOf P el).beq e <;> simp only [hbe, cond_true, cond_false] at h <;> try (cases h; done)
  have hse := Nat.eq_of_beq_eq_true hbe
  have hsz : ∀ w : World, (sizeOf el).run P w = .ok e w := fun w => by rw [← hse]; exact szOf_run hsz0 w
  split at h <;> try (cases h; done)
  · rename_i u hu2
    have hu2 := hle _ _ hu2
    split at h <;> try (cases h; done)
    rename_i s n e' xs hnav
    cases hb : e.beq e' <;> simp only [hb, cond_true, cond_false] at h <;> try (cases h; done)
    have hee := Nat.eq_of_beq_eq_true hb
    subst hee
    split at h <;> cases h
    rename_i s2 z hset
    refine steps_own fun ρ X a w hs => ?_
    obtain ⟨⟨⟨h1, h2, h3⟩, h4⟩, h5⟩ := hside
    have hk1 : min ys.length len ≤ ys.length := Nat.min_le_left _ _
    have hk2 : off + min ys.length len ≤ xs.length := by have := Nat.min_le_right ys.length len; omega
    have hxv := hs.ev x
    obtain ⟨cs, c1, c2, c3⟩ := elsOf_first (P := P) hs hle hels h1 hxv h5 hk1
    have hdv := hs.ev d
    rw [hd] at hdv
    obtain ⟨b, os, T', z', k0, k1, k2, k3⟩ := hs.objs m _ hu2
    rcases repA_sl hdv with ⟨g0, _, _⟩ | ⟨b2, cap, q, c, T3, z3, g0, g1, g2, g3, g4, g5⟩
    · rw [g0] at k0; cases k0
    rw [g0] at k0; cases k0
    obtain ⟨pre, c, post, e1, e2, e3⟩ := AV.nav_rep hnav h2 k3
    obtain ⟨pre2, c2', post2, f1, f2, f3, f4⟩ := AV.set_rep hset h3 k3
    cases e3 with
    | d e3 =>
      cases e3 with
      | arr d1 d2 d3 =>
        obtain ⟨pr, old, po, i1, i2, i3, i4, i5⟩ := d3.over d2 h5 hk1 hk2 c3
        have hpp : pre = pre2 ∧ c = c2' ∧ post = post2 := by
          have hle1 : pre.length = pre2.length := by rw [e2, f2]
          have hc12 : c.length = c2'.length := by
            rw [f3, d3.length, D.sizes_const _ d2, d1]; rfl
          rw [e1, List.append_assoc, List.append_assoc] at f1
          have q1 := List.append_inj f1 hle1
          have q2 := List.append_inj q1.2 hc12
          exact ⟨q1.1, q2.1, q2.2⟩
        obtain ⟨rfl, rfl, rfl⟩ := hpp
        have hrow : w.heap[b]? = some (.cells ((pre ++ pr) ++ old ++ (po ++ post)).toArray T' z') := by rw [k1, e1, i1]; simp
        have hq : cs = [] ∨ q = pOff p + off * e := by
          by_cases hc0 : cs = []
          · exact .inl hc0
          · right
            rcases g5 with g5 | g5
            · exfalso
              have hl0 : len = 0 := by omega
              have : cs.length = 0 := by
                rw [c3.length, hl0]; simp [D.sizes]
              exact hc0 (List.eq_nil_of_length_eq_zero this)
            · exact g5
        have hst := store_over (P := P) (q := q) (pl := pOff p + off * e) hrow (by
            have : ((pre ++ pr) ++ old ++ (po ++ post)).length = os.length := by rw [e1, i1]; simp
            rw [this]; exact k2) (by rw [List.length_append, e2, i2]) i3 c3.cell hq
        have hlen : ((pre ++ pr) ++ cs ++ (po ++ post)).length = os.length := by rw [e1, i1]; simp [i3]
        refine ⟨_, _, key ?_, ρ, X, hs.lay hu2 rfl g0 k1 hlen (fun Y g hh => ⟨b, _, T', z', g0, hh, ?_, ?_⟩) (fun n hn => ?_) (fun _ _ => ⟨_, .d (.int .i64 _), rfl⟩) (fun n hn => by cases hn)⟩
        · rw [g1]
          exact run_copy hu (hsz w) c1 c2 hst
        · rw [hlen]; exact k2
        · have h6 := f4 (pr ++ cs ++ po) (.d (.arr (overD_length hk2 hk1 ▸ d1) i5 i4))
          have h7 := h6.mono g (fun _ _ => rfl)
          simpa [List.append_assoc] using h7
        · rcases AV.set_names hset n hn with h | h
          · exact hs.closedH m _ hu2 n h
          · cases h
  · rename_i e' xs hu2
    have hu2 := hle _ _ hu2
    split at h <;> try (cases h; done)
    cases hb : e.beq e' <;> simp only [hb, cond_true, cond_false] at h <;> cases h
    have hee := Nat.eq_of_beq_eq_true hb
    subst hee
    refine steps_own fun ρ X a w hs => ?_
    obtain ⟨⟨h1, h4⟩, h5⟩ := hside
    have hk1 : min ys.length len ≤ ys.length := Nat.min_le_left _ _
    have hk2 : off + min ys.length len ≤ xs.length := by have := Nat.min_le_right ys.length len; omega
    have hxv := hs.ev x
    obtain ⟨cs, c1, c2, c3⟩ := elsOf_first (P := P) hs hle hels h1 hxv h5 hk1
    have hdv := hs.ev d
    rw [hd] at hdv
    rcases hs.objs m _ hu2 with ⟨k0, rfl⟩ | ⟨b, os, rest, T', z', k0, k1, k2, k3, k4⟩
    · -- nothing is there
      rcases repA_sl hdv with ⟨g0, rfl, g1⟩ | ⟨b2, cap, q, c, T3, z3, g0, _⟩
      rotate_left
      · rw [g0] at k0; cases k0
      have hoff : off = 0 := by simpa using h4
      subst hoff
      have hov : overD ([] : List D) ys 0 (min ys.length 0) = [] := by simp [overD]
      rw [hov]
      refine ⟨.int .i64 (min ys.length 0 : Nat), w, key (?_ : (Builtin.copy_ #[T, T2] o.type #[a.eval d, a.eval x]).run P w = _), ?_⟩
      · rw [g1]
        exact run_copy0 hu (hsz w) c1 c2
      · have hlk : ∀ o' y, lkp [(m, AObj.row e [])] o' = some y → o' = m ∧ y = .row e [] := fun o' y h => by
          have := lkp_mem h
          simp at this
          exact this
        have hlk0 : lkp [(m, AObj.row e [])] m = some (.row e []) := by simp [lkp]
        refine ⟨ρ, X, hs.step (Y := fun _ => False) (.refl _ _) (fun _ h => h.elim) (fun _ _ => rfl) (fun _ _ h => h) (fun o x b _ h1 h2 h3 => hs.own o x b h1 h2 h3) ?_ ?_ ?_ ?_ ?_ ⟨_, .d (.int .i64 _), rfl⟩ (fun n h => by cases h), ?_⟩
        · intro o' y h; obtain ⟨rfl, rfl⟩ := hlk o' y h; exact .inl ⟨k0, rfl⟩
        · intro o' y k h _ hk; obtain ⟨rfl, rfl⟩ := hlk o' y h; rw [k0] at hk; cases hk
        · intro o1 y1 o2 y2 k h1 _ h2 _ _ _; rw [(hlk _ _ h1).1, (hlk _ _ h2).1]
        · intro o1 y1 o2 y2 k h1 _ h2 h3 h4 he he'
          obtain ⟨rfl, rfl⟩ := hlk _ _ h1
          rw [k0] at he; cases he
        · intro o' y h n hn'; obtain ⟨rfl, rfl⟩ := hlk o' y h; cases hn'
        · refine ⟨Ext.refl _ _, fun _ _ => ⟨id, .inl⟩, fun o' y k hy hay hk => ?_, fun _ _ => rfl⟩
          rw [St.hp_upd] at hy
          cases hl : lkp [(m, AObj.row e [])] o' with
          | some y' =>
            obtain ⟨rfl, _⟩ := hlk o' y' hl
            rw [k0] at hk; cases hk
          | none =>
            simp only [hl] at hy
            exact .inr ⟨o', y, hy, hay, hk⟩
    · rcases repA_sl hdv with ⟨g0, _, _⟩ | ⟨b2, cap, q, c, T3, z3, g0, g1, g2, g3, g4, g5⟩
      · rw [g0] at k0; cases k0
      rw [g0] at k0; cases k0
      obtain ⟨pr, old, po, i1, i2, i3, i4, i5⟩ := k3.over k4 h5 hk1 hk2 c3
      have hrow : w.heap[b]? = some (.cells (pr ++ old ++ (po ++ rest)).toArray T' z') := by rw [k1, i1]; simp
      have hq : cs = [] ∨ q = pOff [] + off * e := by
        by_cases hc0 : cs = []
        · exact .inl hc0
        · right
          rcases g5 with g5 | g5
          · exfalso
            have hl0 : len = 0 := by omega
            have : cs.length = 0 := by
              rw [c3.length, hl0]; simp [D.sizes]
            exact hc0 (List.eq_nil_of_length_eq_zero this)
          · exact g5
      have hst := store_over (P := P) (q := q) (pl := pOff [] + off * e) hrow (by
          have : (pr ++ old ++ (po ++ rest)).length = (os ++ rest).length := by rw [i1]; simp
          rw [this]; exact k2) (by rw [i2]; simp [pOff]) i3 c3.cell hq
      have hlen : (pr ++ cs ++ (po ++ rest)).length = (os ++ rest).length := by rw [i1]; simp [i3]
      refine ⟨_, _, key ?_, ρ, X, hs.lay hu2 rfl g0 k1 hlen (fun Y g hh => .inr ⟨b, pr ++ cs ++ po, rest, T', z', g0, ?_, ?_, ?_, i5⟩) (fun n hn => by cases hn) (fun _ _ => ⟨_, .d (.int .i64 _), rfl⟩) (fun n hn => by cases hn)⟩
      · rw [g1]
        exact run_copy hu (hsz w) c1 c2 hst
      · rw [hh]; simp
      · have : (pr ++ cs ++ po ++ rest).length = (os ++ rest).length := by rw [i1]; simp [i3]
        rw [this]; exact k2
      · exact i4.mono g.ext g.off g.own
end Go.Sym
