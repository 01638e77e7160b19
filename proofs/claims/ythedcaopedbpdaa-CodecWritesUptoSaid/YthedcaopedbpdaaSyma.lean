/-
Words for data and their places in memory: plain data 'D' that memory bears, and how they are read; no program in sight.
-/
import Derived.Calls
import Derived.Orders
import Derived.Laws.World
import Derived.Laws.Cells
namespace Go.Sym

/-- Plain data: what a value holds, slices that nobody writes read to their end. -/
inductive D where
  | int (k : IntKind) (n : Int)
  | bool (b : Bool)
  | str (s : ByteArray)
  | st (fs : List D)
  | arr (n e : Nat) (xs : List D)
  | sl (xs : List D)
  | nils | nilp | nilf | nili
  deriving Inhabited

mutual
/-- How many cells. -/
def D.size : D → Nat
  | .st fs => D.sizes fs
  | .arr n e _ => n * e
  | _ => 1
def D.sizes : List D → Nat
  | [] => 0
  | x :: xs => D.size x + D.sizes xs
end

/-- Does it lie in several cells (a struct, an array)? -/
def D.isAgg : D → Bool
  | .st _ => true
  | .arr _ _ _ => true
  | _ => false

def D.els : D → List D
  | .arr _ _ xs => xs
  | .sl xs => xs
  | _ => []
def D.toInt : D → Int
  | .int _ n => n
  | _ => 0
def D.toBool : D → Bool
  | .bool b => b
  | _ => false
def D.toStr : D → ByteArray
  | .str s => s
  | _ => .empty
def D.fld : D → Nat → D
  | .st fs, i => fs.getD i .nilp
  | _, _ => .nilp

/-- A world that goes on from another one: what lies below its end stays, but for the cells of some blocks. -/
structure Ext (Y : Nat → Prop) (w w' : World) : Prop where
  os : w'.os = w.os
  tape : w'.tape = w.tape
  output : w'.output = w.output
  size : w.heap.size ≤ w'.heap.size
  keep : ∀ b, b < w.heap.size → ¬ Y b → w'.heap[b]? = w.heap[b]?
  shape : ∀ (b : Nat) (c : Array Value) (T : TypeId) (z : Nat × Nat), w.heap[b]? = some (.cells c T z) → ∃ c' : Array Value, w'.heap[b]? = some (.cells c' T z) ∧ c'.size = c.size

theorem Ext.refl (Y : Nat → Prop) (w : World) : Ext Y w w :=
  ⟨rfl, rfl, rfl, Nat.le_refl _, fun _ _ _ => rfl, fun _ c _ _ h => ⟨c, h, rfl⟩⟩

theorem Ext.trans {Y : Nat → Prop} {a b c : World} (h : Ext Y a b) (k : Ext Y b c) : Ext Y a c :=
  ⟨k.os.trans h.os, k.tape.trans h.tape, k.output.trans h.output, Nat.le_trans h.size k.size,
   fun i hi hy => (k.keep i (Nat.lt_of_lt_of_le hi h.size) hy).trans (h.keep i hi hy),
   fun b c T z hb => by
    obtain ⟨c1, h1, e1⟩ := h.shape b c T z hb
    obtain ⟨c2, h2, e2⟩ := k.shape b c1 T z h1
    exact ⟨c2, h2, e2.trans e1⟩⟩

theorem Ext.mono {Y Y' : Nat → Prop} {w w' : World} (h : Ext Y w w') (hy : ∀ b, b < w.heap.size → Y b → Y' b) : Ext Y' w w' :=
  ⟨h.os, h.tape, h.output, h.size, fun b hb hn => h.keep b hb (fun k => hn (hy b hb k)), h.shape⟩

/-- What was written to the new blocks of the first step is no change of what was there. -/
theorem Ext.trans' {Y Y' : Nat → Prop} {a b c : World} (h : Ext Y a b) (k : Ext Y' b c) (hy : ∀ i, i < a.heap.size → Y' i → Y i) : Ext Y a c :=
  ⟨k.os.trans h.os, k.tape.trans h.tape, k.output.trans h.output, Nat.le_trans h.size k.size,
   fun i hi hn => (k.keep i (Nat.lt_of_lt_of_le hi h.size) (fun hk => hn (hy i hi hk))).trans (h.keep i hi hn),
   fun b c T z hb => by
    obtain ⟨c1, h1, e1⟩ := h.shape b c T z hb
    obtain ⟨c2, h2, e2⟩ := k.shape b c1 T z h1
    exact ⟨c2, h2, e2.trans e1⟩⟩

theorem Ext.drew (Y : Nat → Prop) (w : World) : Ext Y w { w with drawn := w.drawn + 1 } :=
  ⟨rfl, rfl, rfl, Nat.le_refl _, fun _ _ _ => rfl, fun _ c _ _ h => ⟨c, h, rfl⟩⟩

theorem Ext.alloc (Y : Nat → Prop) (w : World) (o : Obj) : Ext Y w (w.alloc o) := by
  have hk : ∀ b, b < w.heap.size → (w.alloc o).heap[b]? = w.heap[b]? := fun b hb => by
    show (w.heap.push o)[b]? = _
    rw [Array.getElem?_push, if_neg (by omega)]
  refine ⟨rfl, rfl, rfl, by simp, fun b hb _ => hk b hb, fun b c T z h => ⟨c, ?_, rfl⟩⟩
  have hb : b < w.heap.size := by
    rcases Nat.lt_or_ge b w.heap.size with h' | h'
    · exact h'
    · rw [Array.getElem?_eq_none h'] at h; cases h
  rw [hk b hb, h]

/-- The value of one cell. -/
def isCell : Value → Bool
  | .agg _ => false
  | .tuple _ => false
  | _ => true

/-- The cells at a place. -/
def RowAt (w : World) (b off : Nat) (cs : List Value) : Prop := ∀ i v, cs[i]? = some v → w.cell? ⟨b, off + i, none⟩ = some v

theorem cell?_of_heap {w w' : World} {b o : Nat} (h : w'.heap[b]? = w.heap[b]?) : w'.cell? ⟨b, o, none⟩ = w.cell? ⟨b, o, none⟩ := by
  simp only [World.cell?, h]

mutual
/-- Data, read off cells: X: the blocks that somebody owns (data do not lie there). -/
inductive RepD (X : Nat → Prop) (w : World) : D → List Value → Prop
  | int (k : IntKind) (n : Int) : RepD X w (.int k n) [.int k n]
  | bool (b : Bool) : RepD X w (.bool b) [.bool b]
  | str (s : ByteArray) : RepD X w (.str s) [.string s]
  | st {fs : List D} {cs : List Value} : RepL X w fs cs → RepD X w (.st fs) cs
  | arr {n e : Nat} {xs : List D} {cs : List Value} : xs.length = n → (∀ x, x ∈ xs → x.size = e) → RepL X w xs cs → RepD X w (.arr n e xs) cs
  | slnil {a : Option Addr} {cap : Nat} : RepD X w (.sl []) [.slice a 0 cap]
  | sl {b off cap e : Nat} {xs : List D} {cs : List Value} : ¬ X b → b < w.heap.size → (∀ x, x ∈ xs → x.size = e) → xs.length ≤ cap →
      RowAt w b off cs → RepL X w xs cs → RepD X w (.sl xs) [.slice (some ⟨b, off, none⟩) xs.length cap]
  | nils : RepD X w .nils [.slice none 0 0]
  | nilp : RepD X w .nilp [.pointer none]
  | nilf : RepD X w .nilf [.nilFunc]
  | nili : RepD X w .nili [.nilIface]
inductive RepL (X : Nat → Prop) (w : World) : List D → List Value → Prop
  | nil : RepL X w [] []
  | cons {x : D} {xs : List D} {c cs : List Value} : RepD X w x c → RepL X w xs cs → RepL X w (x :: xs) (c ++ cs)
end

theorem D.sizes_const {e : Nat} : ∀ (xs : List D), (∀ x, x ∈ xs → x.size = e) → D.sizes xs = xs.length * e
  | [], _ => by show 0 = 0 * e; omega
  | x :: xs, h => by
    show D.size x + D.sizes xs = _
    simp only [List.length_cons, Nat.succ_mul]
    rw [h x (by simp), D.sizes_const xs (fun y hy => h y (by simp [hy]))]
    omega

mutual
theorem RepD.length {X : Nat → Prop} {w : World} : ∀ {x : D} {cs : List Value}, RepD X w x cs → cs.length = x.size
  | _, _, .int _ _ | _, _, .bool _ | _, _, .str _ | _, _, .slnil | _, _, .sl _ _ _ _ _ _ | _, _, .nils | _, _, .nilp | _, _, .nilf | _, _, .nili => rfl
  | _, _, .st h => RepL.length h
  | _, _, .arr hn he h => by
    rw [RepL.length h, D.sizes_const _ he, hn]; rfl
theorem RepL.length {X : Nat → Prop} {w : World} : ∀ {xs : List D} {cs : List Value}, RepL X w xs cs → cs.length = D.sizes xs
  | _, _, .nil => rfl
  | _, _, .cons h hs => by rw [List.length_append, RepD.length h, RepL.length hs]; rfl
end

mutual
theorem RepD.mono {X X' Y : Nat → Prop} {w w' : World} (he : Ext Y w w') (hY : ∀ b, b < w.heap.size → ¬ X b → ¬ Y b) (hX : ∀ b, b < w.heap.size → X' b → X b) :
    ∀ {x : D} {cs : List Value}, RepD X w x cs → RepD X' w' x cs
  | _, _, .int k n => .int k n
  | _, _, .bool b => .bool b
  | _, _, .str s => .str s
  | _, _, .slnil => .slnil
  | _, _, .nils => .nils
  | _, _, .nilp => .nilp
  | _, _, .nilf => .nilf
  | _, _, .nili => .nili
  | _, _, .st h => .st (RepL.mono he hY hX h)
  | _, _, .arr hn hs h => .arr hn hs (RepL.mono he hY hX h)
  | _, _, .sl h1 h2 h3 h4 h5 h6 => .sl (fun hx => h1 (hX _ h2 hx)) (Nat.lt_of_lt_of_le h2 he.size) h3 h4
      (fun i v hv => by rw [cell?_of_heap (he.keep _ h2 (hY _ h2 h1))]; exact h5 i v hv) (RepL.mono he hY hX h6)
theorem RepL.mono {X X' Y : Nat → Prop} {w w' : World} (he : Ext Y w w') (hY : ∀ b, b < w.heap.size → ¬ X b → ¬ Y b) (hX : ∀ b, b < w.heap.size → X' b → X b) :
    ∀ {xs : List D} {cs : List Value}, RepL X w xs cs → RepL X' w' xs cs
  | _, _, .nil => .nil
  | _, _, .cons h hs => .cons (RepD.mono he hY hX h) (RepL.mono he hY hX hs)
end

/-- The value that cells make: of a struct and an array the row, else the one cell. -/
def wrapV (agg : Bool) (cs : List Value) : Value := if agg then .agg cs.toArray else cs.headD undef

def RepV (X : Nat → Prop) (w : World) (x : D) (v : Value) : Prop := ∃ cs, RepD X w x cs ∧ v = wrapV x.isAgg cs

theorem wrapV_cells {X : Nat → Prop} {w : World} {x : D} {cs : List Value} (h : RepD X w x cs) : (wrapV x.isAgg cs).cells.toList = cs := by
  cases h <;> simp [wrapV, D.isAgg, Value.cells]

mutual
theorem RepD.cell {X : Nat → Prop} {w : World} : ∀ {x : D} {cs : List Value}, RepD X w x cs → ∀ v, v ∈ cs → isCell v = true
  | _, _, .int _ _, _, h | _, _, .bool _, _, h | _, _, .str _, _, h | _, _, .slnil, _, h | _, _, .sl _ _ _ _ _ _, _, h | _, _, .nils, _, h | _, _, .nilp, _, h | _, _, .nilf, _, h
  | _, _, .nili, _, h => by simp only [List.mem_singleton] at h; subst h; rfl
  | _, _, .st h, v, hv => RepL.cell h v hv
  | _, _, .arr _ _ h, v, hv => RepL.cell h v hv
theorem RepL.cell {X : Nat → Prop} {w : World} : ∀ {xs : List D} {cs : List Value}, RepL X w xs cs → ∀ v, v ∈ cs → isCell v = true
  | _, _, .nil, v, hv => by simp at hv
  | _, _, .cons h hs, v, hv => by
    rcases List.mem_append.1 hv with hv | hv
    · exact RepD.cell h v hv
    · exact RepL.cell hs v hv
end

theorem RepL.append {X : Nat → Prop} {w : World} : ∀ {xs : List D} {cs : List Value} {ys : List D} {ds : List Value}, RepL X w xs cs → RepL X w ys ds → RepL X w (xs ++ ys) (cs ++ ds)
  | _, _, _, _, .nil, h => by simpa using h
  | _, _, _, _, .cons h hs, k => by rw [List.cons_append, List.append_assoc]; exact .cons h (hs.append k)

theorem RepL.split {X : Nat → Prop} {w : World} : ∀ {xs ys : List D} {cs : List Value}, RepL X w (xs ++ ys) cs → ∃ c d, cs = c ++ d ∧ RepL X w xs c ∧ RepL X w ys d
  | [], _, cs, h => ⟨[], cs, rfl, .nil, h⟩
  | x :: xs, ys, _, .cons h hs => by
    obtain ⟨c, d, e, h1, h2⟩ := RepL.split hs
    exact ⟨_, d, by rw [e, List.append_assoc], .cons h h1, h2⟩

/-- One element of a row of equal ones. -/
theorem RepL.at {X : Nat → Prop} {w : World} {e : Nat} : ∀ {xs : List D} {cs : List Value} {i : Nat} {x : D}, RepL X w xs cs → (∀ x, x ∈ xs → x.size = e) → xs[i]? = some x →
    RepD X w x ((cs.drop (i * e)).take e) := by
  intro xs cs i x h he hi
  have hlt : i < xs.length := (List.getElem?_eq_some_iff.1 hi).1
  have hx : x ∈ xs := List.mem_of_getElem? hi
  have hsplit : xs = xs.take i ++ x :: xs.drop (i + 1) := by
    have : xs[i] = x := (List.getElem?_eq_some_iff.1 hi).2
    rw [← this, List.getElem_cons_drop, List.take_append_drop]
  rw [hsplit] at h
  obtain ⟨c, d, rfl, h1, h2⟩ := RepL.split h
  have hc : c.length = i * e := by
    rw [h1.length, D.sizes_const _ (fun y hy => he y (List.mem_of_mem_take hy)), List.length_take, Nat.min_eq_left (by omega)]
  cases h2 with
  | cons hd hr =>
    rename_i c1 c2
    have hl : c1.length = e := by rw [hd.length]; exact he x hx
    rw [List.drop_append, List.drop_of_length_le (by omega)]
    simp only [hc, Nat.sub_self, List.drop_zero, List.nil_append]
    rw [List.take_append_of_le_length (by omega), List.take_of_length_le (by omega)]
    exact hd

end Go.Sym
