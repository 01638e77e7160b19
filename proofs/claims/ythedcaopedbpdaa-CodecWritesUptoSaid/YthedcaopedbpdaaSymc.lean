/-
Cells loaded and stored: the model's own words over what 'Sym' says of memory.
-/
import Derived.Test.YthedcaopedbpdaaSymb
import Derived.Laws.Tables
import Derived.Laws.Entries
import Derived.Laws.CopyRow
namespace Go.Sym

section
variable {P : Program}

@[simp] theorem run_pure {α : Type} (x : α) (w : World) : (pure x : Sem α).run P w = .ok x w := rfl

theorem run_bind_ok {α β : Type} {s : Sem α} {f : α → Sem β} {w w' : World} {x : α} (h : s.run P w = .ok x w') : (s >>= f).run P w = (f x).run P w' := by
  rw [Sem.run_bind, h]; rfl

theorem addr_add (b off n : Nat) : (⟨b, off, none⟩ : Addr).add n = ⟨b, off + n, none⟩ := by
  unfold Addr.add
  split
  · subst_vars; rfl
  · rfl

theorem run_loadCells {w : World} {b off : Nat} {cs : List Value} (h : RowAt w b off cs) : (loadCells ⟨b, off, none⟩ cs.length).run P w = .ok cs.toArray w := by
  have key : ∀ (l : List Value) (i : Nat) (acc : Array Value), RowAt w b (off + i) l → (loadCellsFrom ⟨b, off, none⟩ i l.length acc).run P w = .ok (acc ++ l.toArray) w := by
    intro l
    induction l with
    | nil => intro i acc _; simp [loadCellsFrom]
    | cons v l ih =>
      intro i acc hl
      simp only [List.length_cons, loadCellsFrom]
      have h0 : w.cell? ⟨b, off + i, none⟩ = some v := by simpa using hl 0 v rfl
      have hload : (load ((⟨b, off, none⟩ : Addr).add i)).run P w = .ok v w := by
        rw [addr_add]
        simp [load, Sem.run, h0]
      rw [run_bind_ok hload, ih (i + 1) (acc.push v) (fun j u hj => by have := hl (j + 1) u (by simpa using hj); rw [← this]; congr 2; omega)]
      simp
  have := key cs 0 #[] h
  simpa [loadCells] using this

/-- The type's row and its text. -/
def tyOK (P : Program) (T : TypeId) (n : Nat) (agg : Bool) : Bool :=
  match P.info? T, P.underlying T with
  | some i, some d => i.size.beq n && (match d with | .struct _ => agg | .array _ _ => agg | _ => !agg)
  | _, _ => false

theorem tyOK_size {T : TypeId} {n : Nat} {agg : Bool} (h : tyOK P T n agg = true) (w : World) : (sizeOf T).run P w = .ok n w := by
  unfold tyOK at h
  split at h
  · rename_i i d hi hd
    simp only [Bool.and_eq_true] at h
    have := Nat.eq_of_beq_eq_true h.1
    simp only [sizeOf, typeInfo, program]
    rw [Sem.run_bind]
    simp [Sem.run, Sem.run_bind, hi, this]
  · cases h

theorem tyOK_agg {T : TypeId} {n : Nat} {agg : Bool} (h : tyOK P T n agg = true) (w : World) : (isAgg T).run P w = .ok agg w := by
  unfold tyOK at h
  split at h
  · rename_i i d hi hd
    simp only [Bool.and_eq_true] at h
    simp only [isAgg]
    rw [run_bind_ok (run_underlying hd w)]
    cases d <;> simp at h ⊢ <;> simp [h.2]
  · cases h

theorem run_loadVar {w : World} {b off : Nat} {cs : List Value} {T : TypeId} {agg : Bool} (h : RowAt w b off cs) (ht : tyOK P T cs.length agg = true) (ha : agg = false → cs.length = 1) :
    (loadVar T ⟨b, off, none⟩).run P w = .ok (wrapV agg cs) w := by
  simp only [loadVar]
  rw [run_bind_ok (tyOK_agg ht w)]
  cases agg with
  | true =>
    simp only [if_true]
    rw [run_bind_ok (tyOK_size ht w), run_bind_ok (run_loadCells h)]
    rfl
  | false =>
    simp only [Bool.false_eq_true, if_false]
    obtain ⟨v, rfl⟩ := List.length_eq_one_iff.1 (ha rfl)
    have h0 : w.cell? ⟨b, off, none⟩ = some v := by simpa using h 0 v rfl
    simp [load, Sem.run, h0, wrapV]

theorem run_store {w : World} {a : Addr} {v u : Value} (hv : isCell v = true) (hc : w.cell? a = some u) (hf : w.frozen? a = false) : (store a v).run P w = .ok () (w.setCell a v) := by
  have hv' : v.oneCell' = true := by cases v <;> first | rfl | exact hv
  rw [Go.run_store P w a v .plain hv', hc]
  simp [hf]

/-- A block's cells laid anew. -/
def World.lay (w : World) (b : Nat) (cs : List Value) : World := w.setRow b cs.toArray

theorem heap_lay {w : World} {b : Nat} {c : Array Value} {T : TypeId} {z : Nat × Nat} (h : w.heap[b]? = some (.cells c T z)) (cs : List Value) : (World.lay w b cs).heap[b]? = some (.cells cs.toArray T z) :=
  setRow_heap w b c _ T z h

theorem heap_lay_ne (w : World) {b k : Nat} (cs : List Value) (h : k ≠ b) : (World.lay w b cs).heap[k]? = w.heap[k]? := setRow_other w b k _ h

theorem frozen_row {w : World} {b : Nat} {c : Array Value} {T : TypeId} {z : Nat × Nat} (h : w.heap[b]? = some (.cells c T z)) {n : Nat} (hz : unfrozen z n) {i : Nat} (hi : i < n) : w.frozen? ⟨b, i, none⟩ = false := by
  simp only [World.frozen?, h]
  rcases hz with hz | hz
  · simp; omega
  · simp; omega

theorem run_storeCells {b : Nat} {T : TypeId} {z : Nat × Nat} (pre : List Value) (off : Nat) : ∀ (vs old post : List Value) (mid : List Value) (w : World),
    w.heap[b]? = some (.cells (pre ++ mid ++ old ++ post).toArray T z) → unfrozen z (pre ++ mid ++ old ++ post).length → pre.length = off → old.length = vs.length → (∀ v, v ∈ vs → isCell v = true) →
    (storeCells ⟨b, off, none⟩ vs mid.length).run P w = .ok () (World.lay w b (pre ++ mid ++ vs ++ post)) := by
  intro vs
  induction vs with
  | nil =>
    intro old post mid w h _ _ hl _
    have : old = [] := by simpa using hl
    subst this
    simp only [storeCells, run_pure]
    congr 1
    unfold World.lay
    simp only [List.append_nil] at h ⊢
    rw [setRow_self _ _ _ _ _ h]
  | cons v vs ih =>
    intro old post mid w h hz ho hl hc
    match old, hl with
    | u :: old, hl =>
      simp only [List.length_cons, Nat.add_right_cancel_iff] at hl
      have hlen : off + mid.length < (pre ++ mid ++ u :: old ++ post).length := by simp; omega
      have hcell : w.cell? ⟨b, off + mid.length, none⟩ = some u := by
        simp only [World.cell?, h]
        simp only [List.append_assoc, Option.isSome_none, Bool.false_eq_true, if_false, List.getElem?_toArray]
        rw [List.getElem?_append_right (by omega), List.getElem?_append_right (by omega)]
        have : off + mid.length - pre.length - mid.length = 0 := by omega
        rw [this]; rfl
      have hfr := frozen_row h hz hlen
      simp only [storeCells]
      rw [addr_add, run_bind_ok (run_store (hc v (by simp)) hcell hfr)]
      have hset : w.setCell ⟨b, off + mid.length, none⟩ v = World.lay w b (pre ++ (mid ++ [v]) ++ old ++ post) := by
        rw [setCell_eq_setRow _ _ _ _ _ _ _ h]
        unfold World.lay
        congr 1
        rw [List.setIfInBounds_toArray]
        congr 1
        rw [List.append_assoc, List.append_assoc, List.set_append_right _ _ (by omega), List.set_append_right _ _ (by omega)]
        have : off + mid.length - pre.length - mid.length = 0 := by omega
        rw [this]; simp
      rw [hset]
      have h' := heap_lay h (pre ++ (mid ++ [v]) ++ old ++ post)
      have hm : (mid ++ [v]).length = mid.length + 1 := by simp
      rw [← hm, ih old post (mid ++ [v]) _ h' (by simpa using hz) ho hl (fun x hx => hc x (by simp [hx]))]
      congr 1
      unfold World.lay
      rw [setRow_setRow]
      simp

end
end Go.Sym
