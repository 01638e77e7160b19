import Derived.Test.YtpeglanfbmpoeaaJ1
import Derived.Test.YtpeglanfbmpoeaaJ2
import Derived.Test.YtpeglanfbmpoeaaJ3
import Derived.Test.YtpeglanfbmpoeaaJ4
import Derived.Test.YtpeglanfbmpoeaaJ5
import Derived.Test.YtpeglanfbmpoeaaJ6
import Derived.Test.YtpeglanfbmpoeaaJ7
import Derived.Test.YtpeglanfbmpoeaaJ8
import Derived.Test.YtpeglanfbmpoeaaJ9
import Derived.Test.YtpeglanfbmpoeaaJ10
import Derived.Test.YtpeglanfbmpoeaaJ11
import Derived.Test.YtpeglanfbmpoeaaJ12
import Derived.Test.YtpeglanfbmpoeaaJ13
import Derived.Test.YtpeglanfbmpoeaaJ14
import Derived.Test.YtpeglanfbmpoeaaJ15
set_option linter.unusedSimpArgs false
set_option linter.unusedVariables false
/-
A way of which one side, its value or its index is turned.
-/
set_option linter.unusedSimpArgs false
set_option linter.unusedVariables false
namespace Go.Proofs.Ytpeglanfbmpoeaa
open Go.Sym
set_option maxRecDepth 10000
set_option maxHeartbeats 4000000

theorem xorU (a c : UInt8) : aBits .xor .u8 (a.toNat : Int) (c.toNat : Int) = ((a ^^^ c).toNat : Int) := by
  have key : ∀ n m : Fin 256, aBits .xor .u8 (n.val : Int) (m.val : Int) = ((n.val ^^^ m.val : Nat) : Int) := by decide +kernel
  have h := key ⟨a.toNat, a.toNat_lt⟩ ⟨c.toNat, c.toNat_lt⟩
  rw [h, UInt8.toNat_xor]
theorem xorU_ne {a c : UInt8} (h : c ≠ 0) : a ^^^ c ≠ a := fun e => h (by
  have := congrArg (fun x => a ^^^ x) e
  simpa [← UInt8.xor_assoc] using this)

/-- A digest of which the first bytes are turned. -/
def xorN (d b : List UInt8) (i : Nat) : List UInt8 := (List.range 32).map fun j => bif decide (j < i) then d.getD j 0 ^^^ b.getD j 0 else d.getD j 0
theorem xorN_length (d b : List UInt8) (i : Nat) : (xorN d b i).length = 32 := by simp [xorN]
theorem xorN_get (d b : List UInt8) (i : Nat) {j : Nat} (h : j < 32) : (xorN d b i).getD j 0 = bif decide (j < i) then d.getD j 0 ^^^ b.getD j 0 else d.getD j 0 := by
  unfold xorN
  rw [List.getD_eq_getElem?_getD, List.getElem?_map, List.getElem?_range h]; rfl
theorem ext32 {a b : List UInt8} (ha : a.length = 32) (hb : b.length = 32) (h : ∀ j, j < 32 → a.getD j 0 = b.getD j 0) : a = b := by
  apply List.ext_getElem (by omega)
  intro j h1 h2
  have := h j (by omega)
  rwa [List.getD_eq_getElem?_getD, List.getElem?_eq_getElem h1, List.getD_eq_getElem?_getD, List.getElem?_eq_getElem h2] at this
theorem xorN_zero {d : List UInt8} (b : List UInt8) (hd : d.length = 32) : xorN d b 0 = d := ext32 (xorN_length _ _ _) hd fun j hj => by
  rw [xorN_get d b 0 hj]; rfl
theorem xorN_succ (d b : List UInt8) {i : Nat} (hi : i < 32) : (xorN d b i).set i (d.getD i 0 ^^^ b.getD i 0) = xorN d b (i + 1) := by
  refine ext32 (by rw [List.length_set, xorN_length]) (xorN_length _ _ _) fun j hj => ?_
  rw [xorN_get d b (i + 1) hj]
  rw [List.getD_eq_getElem?_getD, List.getElem?_set]
  by_cases h : i = j
  · subst h; rw [if_pos rfl, if_pos (by rw [xorN_length]; exact hi), decide_eq_true (by omega)]; rfl
  · rw [if_neg h, ← List.getD_eq_getElem?_getD, xorN_get d b i hj]
    by_cases h2 : j < i
    · rw [decide_eq_true h2, decide_eq_true (by omega)]
    · rw [decide_eq_false h2, decide_eq_false (by omega)]
theorem xorN_data (d : List UInt8) {b : List UInt8} (hb : b.length = 32) {i : Nat} (hi : i < 32) :
    ((xorN d b i).map byteD).set i (.int .u8 (aBits .xor .u8 (((xorN d b i).map byteD).getD i .nilp).toInt ((b.map byteD).getD i .nilp).toInt)) = (xorN d b (i + 1)).map byteD := by
  rw [getD_byte (by rw [xorN_length]; exact hi), getD_byte (by omega), xorN_get d b i hi, decide_eq_false (Nat.lt_irrefl i), cond_false]
  show ((xorN d b i).map byteD).set i (.int .u8 (aBits .xor .u8 ((d.getD i 0).toNat : Int) ((b.getD i 0).toNat : Int))) = _
  rw [xorU, ← xorN_succ d b hi, List.map_set]; rfl
theorem xorN_ne {d b : List UInt8} (hb : b.length = 32) (h : ¬ b = zero32) : ¬ xorN d b 32 = d := fun e => h (ext32 hb rfl fun j hj => by
  have h1 := xorN_get d b 32 hj
  rw [e, decide_eq_true hj, cond_true] at h1
  by_cases hz : b.getD j 0 = 0
  · rw [hz]; unfold zero32; rw [List.getD_eq_getElem?_getD, List.getElem?_replicate, if_pos hj]; rfl
  · exact absurd h1.symm (xorU_ne hz))

/-- A way that is turned at a place, so many bytes of it. -/
def turnP (p : Prf) (b : List UInt8) (k i : Nat) : Prf :=
  bif decide (k < p.sides.length) then ⟨p.sides.set k (xorN (p.sides.getD k []) b i), p.fin, p.index, p.value⟩
  else bif decide (k = p.sides.length) then ⟨p.sides, p.fin, p.index, xorN p.value b i⟩ else ⟨p.sides, p.fin, xorN p.index b i, p.value⟩
section
variable {p : Prf} {b : List UInt8} {k : Nat}
theorem turnP_a (h : k < p.sides.length) (i : Nat) : turnP p b k i = ⟨p.sides.set k (xorN (p.sides.getD k []) b i), p.fin, p.index, p.value⟩ := by unfold turnP; rw [decide_eq_true h]; rfl
theorem turnP_b (h : k = p.sides.length) (i : Nat) : turnP p b k i = ⟨p.sides, p.fin, p.index, xorN p.value b i⟩ := by unfold turnP; rw [decide_eq_false (by omega), decide_eq_true h]; rfl
theorem turnP_c (h : ¬ k < p.sides.length) (h2 : ¬ k = p.sides.length) (i : Nat) : turnP p b k i = ⟨p.sides, p.fin, xorN p.index b i, p.value⟩ := by unfold turnP; rw [decide_eq_false h, decide_eq_false h2]; rfl
theorem turnP_fin (i : Nat) : (turnP p b k i).fin = p.fin := by
  by_cases h : k < p.sides.length
  · rw [turnP_a h]
  · by_cases h2 : k = p.sides.length
    · rw [turnP_b h2]
    · rw [turnP_c h h2]
theorem turnP_len (i : Nat) : (turnP p b k i).sides.length = p.sides.length := by
  by_cases h : k < p.sides.length
  · rw [turnP_a h]; exact List.length_set
  · by_cases h2 : k = p.sides.length
    · rw [turnP_b h2]
    · rw [turnP_c h h2]
theorem turnP_zero (hw : wfP p) : turnP p b k 0 = p := by
  by_cases h : k < p.sides.length
  · have e : p.sides.getD k [] = p.sides[k] := by rw [List.getD_eq_getElem?_getD, List.getElem?_eq_getElem h]; rfl
    rw [turnP_a h, xorN_zero b (side_len hw h), e, List.set_getElem_self]
  · by_cases h2 : k = p.sides.length
    · rw [turnP_b h2, xorN_zero b hw.3]
    · rw [turnP_c h h2, xorN_zero b hw.2]
theorem turnP_wf (hw : wfP p) (i : Nat) : wfP (turnP p b k i) := by
  by_cases h : k < p.sides.length
  · rw [turnP_a h]
    exact ⟨fun d hd => (List.mem_or_eq_of_mem_set hd).elim (hw.1 d) (fun e => by rw [e]; exact xorN_length _ _ _), hw.2, hw.3⟩
  · by_cases h2 : k = p.sides.length
    · rw [turnP_b h2]; exact ⟨hw.1, hw.2, xorN_length _ _ _⟩
    · rw [turnP_c h h2]; exact ⟨hw.1, xorN_length _ _ _, hw.3⟩
theorem turn_pair {idx : List UInt8} (hw : wfP p) (hb : b.length = 32) (hz : ¬ b = zero32) (hf : k < p.sides.length ∨ p.fin = 1) (h : rootP idx p = rootP idx (turnP p b k 32)) :
    twoB (hashedP idx p) (hashedP idx (turnP p b k 32)) = true := by
  rcases prf_same hw (turnP_wf hw 32) h with h | ⟨h1, h2⟩
  · exact h
  exfalso
  by_cases hk : k < p.sides.length
  · rw [turnP_a hk] at h1
    have e := congrArg (fun l => l.getD k []) h1
    have e2 : (p.sides.set k (xorN (p.sides.getD k []) b 32)).getD k [] = xorN (p.sides.getD k []) b 32 := by rw [List.getD_eq_getElem?_getD, List.getElem?_set_self hk]; rfl
    exact xorN_ne hb hz (e2.symm.trans e.symm)
  · have hf := hf.resolve_left hk
    unfold endB at h2
    rw [turnP_fin, hf] at h2
    have h3 := List.append_inj (List.cons.inj (show leafB p.index p.value = leafB (turnP p b k 32).index (turnP p b k 32).value from h2)).2 (by rw [hw.2, (turnP_wf hw 32).2])
    by_cases he : k = p.sides.length
    · rw [turnP_b he] at h3; exact xorN_ne hb hz h3.2.symm
    · rw [turnP_c hk he] at h3; exact xorN_ne hb hz h3.1.symm
end

end Go.Proofs.Ytpeglanfbmpoeaa
