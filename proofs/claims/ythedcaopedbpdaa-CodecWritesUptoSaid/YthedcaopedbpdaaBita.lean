/-
Digests as bytes and as bits: plain words, no program in sight.
-/
import Derived.Test.YthedcaopedbpdaaSymxa
namespace Go.Sym

/-- The n-th bit of bytes, the highest one of the first byte first. -/
def bitB (bs : List UInt8) (n : Nat) : Bool := (bs.getD (n / 8) 0).toNat.testBit (7 - n % 8)

def bitI (bs : List UInt8) (i : Int) : Bool := decide (0 ≤ i) && decide (i < 256) && bitB bs i.toNat

def byteOf (f : Nat → Bool) : Nat := (bif f 0 then 128 else 0) + (bif f 1 then 64 else 0) + (bif f 2 then 32 else 0) + (bif f 3 then 16 else 0) + (bif f 4 then 8 else 0) + (bif f 5 then 4 else 0) + (bif f 6 then 2 else 0) + (bif f 7 then 1 else 0)

/-- The 32 bytes of bits. -/
def ofBits (f : Nat → Bool) : List UInt8 := (List.range 32).map fun k => UInt8.ofNat (byteOf fun j => f (8 * k + j))

theorem ofBits_length (f : Nat → Bool) : (ofBits f).length = 32 := by simp [ofBits]

theorem byteOf_lt (f : Nat → Bool) : byteOf f < 256 := by
  unfold byteOf
  cases f 0 <;> cases f 1 <;> cases f 2 <;> cases f 3 <;> cases f 4 <;> cases f 5 <;> cases f 6 <;> cases f 7 <;> decide

theorem byteOf_bit (f : Nat → Bool) (j : Nat) (h : j < 8) : (byteOf f).testBit (7 - j) = f j := by
  unfold byteOf
  match j, h with
  | 0, _ => cases f 0 <;> cases f 1 <;> cases f 2 <;> cases f 3 <;> cases f 4 <;> cases f 5 <;> cases f 6 <;> cases f 7 <;> rfl
  | 1, _ => cases f 0 <;> cases f 1 <;> cases f 2 <;> cases f 3 <;> cases f 4 <;> cases f 5 <;> cases f 6 <;> cases f 7 <;> rfl
  | 2, _ => cases f 0 <;> cases f 1 <;> cases f 2 <;> cases f 3 <;> cases f 4 <;> cases f 5 <;> cases f 6 <;> cases f 7 <;> rfl
  | 3, _ => cases f 0 <;> cases f 1 <;> cases f 2 <;> cases f 3 <;> cases f 4 <;> cases f 5 <;> cases f 6 <;> cases f 7 <;> rfl
  | 4, _ => cases f 0 <;> cases f 1 <;> cases f 2 <;> cases f 3 <;> cases f 4 <;> cases f 5 <;> cases f 6 <;> cases f 7 <;> rfl
  | 5, _ => cases f 0 <;> cases f 1 <;> cases f 2 <;> cases f 3 <;> cases f 4 <;> cases f 5 <;> cases f 6 <;> cases f 7 <;> rfl
  | 6, _ => cases f 0 <;> cases f 1 <;> cases f 2 <;> cases f 3 <;> cases f 4 <;> cases f 5 <;> cases f 6 <;> cases f 7 <;> rfl
  | 7, _ => cases f 0 <;> cases f 1 <;> cases f 2 <;> cases f 3 <;> cases f 4 <;> cases f 5 <;> cases f 6 <;> cases f 7 <;> rfl

theorem bitB_ofBits (f : Nat → Bool) (n : Nat) (h : n < 256) : bitB (ofBits f) n = f n := by
  unfold bitB ofBits
  have h1 : n / 8 < 32 := by omega
  rw [List.getD_eq_getElem?_getD, List.getElem?_map, List.getElem?_range h1]
  simp only [Option.map_some, Option.getD_some]
  rw [UInt8.toNat_ofNat_of_lt' (byteOf_lt _), byteOf_bit _ _ (by omega)]
  congr 1; omega

theorem byteOf_congr {f g : Nat → Bool} (h : ∀ j, j < 8 → f j = g j) : byteOf f = byteOf g := by
  unfold byteOf
  rw [h 0 (by omega), h 1 (by omega), h 2 (by omega), h 3 (by omega), h 4 (by omega), h 5 (by omega), h 6 (by omega), h 7 (by omega)]

theorem byteOf_self (c : UInt8) : byteOf (fun j => c.toNat.testBit (7 - j)) = c.toNat := by
  have h : ∀ n : Fin 256, byteOf (fun j => n.val.testBit (7 - j)) = n.val := by decide +kernel
  exact h ⟨c.toNat, c.toNat_lt⟩

theorem ofBits_bitB {bs : List UInt8} (h : bs.length = 32) : ofBits (bitB bs) = bs := by
  apply List.ext_getElem?
  intro k
  unfold ofBits
  by_cases hk : k < 32
  · rw [List.getElem?_map, List.getElem?_range hk, Option.map_some, List.getElem?_eq_getElem (by omega)]
    congr 1
    have e : byteOf (fun j => bitB bs (8 * k + j)) = (bs[k]'(by omega)).toNat := by
      rw [← byteOf_self]
      refine byteOf_congr fun j hj => ?_
      unfold bitB
      rw [show (8 * k + j) / 8 = k by omega, show (8 * k + j) % 8 = j by omega, List.getD_eq_getElem?_getD, List.getElem?_eq_getElem (by omega)]
      rfl
    rw [e]
    exact UInt8.ofNat_toNat
  · rw [List.getElem?_eq_none (by simpa using hk), List.getElem?_eq_none (by omega)]

theorem dig_ext {a b : List UInt8} (ha : a.length = 32) (hb : b.length = 32) (h : ∀ n, n < 256 → bitB a n = bitB b n) : a = b := by
  rw [← ofBits_bitB ha, ← ofBits_bitB hb]
  unfold ofBits
  apply List.map_congr_left
  intro k hk
  have hk : k < 32 := by simpa using hk
  rw [byteOf_congr fun j hj => h (8 * k + j) (by omega)]

theorem ofBits_congr {f g : Nat → Bool} (h : ∀ n, n < 256 → f n = g n) : ofBits f = ofBits g :=
  dig_ext (ofBits_length f) (ofBits_length g) fun n hn => by rw [bitB_ofBits f n hn, bitB_ofBits g n hn, h n hn]

/-! ### How the program asks for a bit -/

theorem and_bit (c : UInt8) (m : Nat) (h : m < 8) : (aBits .and .u8 c.toNat (shrI .u8 128 m) != 0) = c.toNat.testBit (7 - m) := by
  have key : ∀ n : Fin 256, ∀ m : Fin 8, (aBits .and .u8 (n.val : Int) (shrI .u8 128 (m.val : Int)) != 0) = n.val.testBit (7 - m.val) := by decide +kernel
  exact key ⟨c.toNat, c.toNat_lt⟩ ⟨m, h⟩

theorem wrap64_id {n : Int} (h0 : -9223372036854775808 ≤ n) (h1 : n ≤ 9223372036854775807) : IntKind.i64.wrap n = n := by
  have e : IntKind.i64.wrap n = (if n % 18446744073709551616 ≥ 9223372036854775808 then n % 18446744073709551616 - 18446744073709551616 else n % 18446744073709551616) := by
    simp [IntKind.wrap, IntKind.signed, IntKind.bits]
  rw [e]
  split <;> omega

theorem getD_byte {bs : List UInt8} {k : Nat} (h : k < bs.length) : (bs.map byteD).getD k .nilp = byteD (bs.getD k 0) := by
  rw [List.getD_eq_getElem?_getD, List.getD_eq_getElem?_getD, List.getElem?_map, List.getElem?_eq_getElem h]; rfl

theorem div8 {n : Nat} (h : n < 256) : IntKind.i64.wrap ((n : Int).tdiv 8) = (n / 8 : Nat) := by
  rw [Int.tdiv_eq_ediv_of_nonneg (by omega), wrap64_id (by omega) (by omega)]; omega
theorem mod8 (n : Nat) : (n : Int).tmod 8 = (n % 8 : Nat) := by
  rw [Int.tmod_eq_emod_of_nonneg (by omega)]; omega

theorem bitI_nat (bs : List UInt8) {n : Nat} (h : n < 256) : bitI bs n = bitB bs n := by
  unfold bitI
  have h1 : (n : Int) < 256 := by omega
  simp [h1]
theorem bitI_neg (bs : List UInt8) {i : Int} (h : i < 0) : bitI bs i = false := by
  unfold bitI
  simp only [show decide (0 ≤ i) = false from by simp; omega, Bool.false_and]
theorem bitI_big (bs : List UInt8) {i : Int} (h : 256 ≤ i) : bitI bs i = false := by
  unfold bitI
  simp only [show decide (i < 256) = false from by simp; omega, Bool.false_and, Bool.and_false]

/-- Bytes of which one bit is as told. -/
def setB (bs : List UInt8) (n : Nat) (on : Bool) : List UInt8 := ofBits fun m => bif m.beq n then on else bitB bs m
def setI (bs : List UInt8) (i : Int) (on : Bool) : List UInt8 := bif decide (0 ≤ i) && decide (i < 256) then setB bs i.toNat on else bs

theorem setI_nat (bs : List UInt8) {n : Nat} (h : n < 256) (on : Bool) : setI bs n on = setB bs n on := by
  unfold setI
  have h1 : (n : Int) < 256 := by omega
  simp [h1]
theorem setI_neg (bs : List UInt8) {i : Int} (h : i < 0) (on : Bool) : setI bs i on = bs := by
  unfold setI
  simp only [show decide (0 ≤ i) = false from by simp; omega, Bool.false_and, cond_false]
theorem setI_big (bs : List UInt8) {i : Int} (h : 256 ≤ i) (on : Bool) : setI bs i on = bs := by
  unfold setI
  simp only [show decide (i < 256) = false from by simp; omega, Bool.and_false, cond_false]
theorem setI_length {bs : List UInt8} (h : bs.length = 32) (i : Int) (on : Bool) : (setI bs i on).length = 32 := by
  unfold setI
  cases decide (0 ≤ i) && decide (i < 256) with
  | false => rw [cond_false]; exact h
  | true => rw [cond_true]; unfold setB; rw [ofBits_length]

theorem idx_cases (i : Int) : i < 0 ∨ 256 ≤ i ∨ ∃ n : Nat, n < 256 ∧ i = n := by
  by_cases h : i < 0
  · exact .inl h
  · by_cases h2 : 256 ≤ i
    · exact .inr (.inl h2)
    · exact .inr (.inr ⟨i.toNat, by omega, by omega⟩)

/-- A byte written anew so that one bit is as told. -/
theorem setByte {bs : List UInt8} (hb : bs.length = 32) {n : Nat} (hn : n < 256) {on : Bool} {v : Nat} (hv : v < 256) (hbit : ∀ j, j < 8 → v.testBit (7 - j) = bif j.beq (n % 8) then on else (bs.getD (n / 8) 0).toNat.testBit (7 - j)) :
    (bs.map byteD).set (n / 8) (.int .u8 (v : Nat)) = (setB bs n on).map byteD := by
  have e : bs.set (n / 8) (UInt8.ofNat v) = setB bs n on := by
    refine dig_ext (by simp [hb]) (ofBits_length _) fun m hm => ?_
    unfold setB
    rw [bitB_ofBits _ _ hm]
    unfold bitB
    by_cases hk : m / 8 = n / 8
    · have h1 : (bs.set (n / 8) (UInt8.ofNat v)).getD (m / 8) 0 = UInt8.ofNat v := by
        rw [hk, List.getD_eq_getElem?_getD, List.getElem?_set_self (by omega)]; rfl
      rw [h1, UInt8.toNat_ofNat_of_lt' hv, hbit _ (by omega), hk]
      have h2 : (m % 8).beq (n % 8) = m.beq n := by
        cases h : m.beq n with
        | true => have := Nat.eq_of_beq_eq_true h; subst this; simp
        | false =>
          cases h3 : (m % 8).beq (n % 8) with
          | false => rfl
          | true =>
            have := Nat.eq_of_beq_eq_true h3
            have : m = n := by omega
            subst this; simp at h
      rw [h2]
    · have h1 : (bs.set (n / 8) (UInt8.ofNat v)).getD (m / 8) 0 = bs.getD (m / 8) 0 := by
        rw [List.getD_eq_getElem?_getD, List.getElem?_set_ne (Ne.symm hk), List.getD_eq_getElem?_getD]
      have h2 : m.beq n = false := by
        cases h : m.beq n with
        | false => rfl
        | true => have := Nat.eq_of_beq_eq_true h; subst this; exact absurd rfl hk
      rw [h1, h2, cond_false]
  rw [← e, List.map_set]
  congr 1
  show D.int .u8 (v : Nat) = .int .u8 ((UInt8.ofNat v).toNat : Int)
  rw [UInt8.toNat_ofNat_of_lt' hv]

theorem or_byte (c : UInt8) (m : Nat) (h : m < 8) : aBits .or .u8 c.toNat (shrI .u8 128 m) = ((c.toNat ||| (128 >>> m) : Nat) : Int) ∧ (c.toNat ||| (128 >>> m)) < 256 := by
  have key : ∀ n : Fin 256, ∀ m : Fin 8, aBits .or .u8 (n.val : Int) (shrI .u8 128 (m.val : Int)) = ((n.val ||| (128 >>> m.val) : Nat) : Int) ∧ (n.val ||| (128 >>> m.val)) < 256 := by decide +kernel
  exact key ⟨c.toNat, c.toNat_lt⟩ ⟨m, h⟩
theorem xor_byte (c : UInt8) (m : Nat) (h : m < 8) : aBits .xor .u8 ((c.toNat ||| (128 >>> m) : Nat) : Int) (shrI .u8 128 m) = (((c.toNat ||| (128 >>> m)) ^^^ (128 >>> m) : Nat) : Int) ∧ ((c.toNat ||| (128 >>> m)) ^^^ (128 >>> m)) < 256 := by
  have key : ∀ n : Fin 256, ∀ m : Fin 8, aBits .xor .u8 ((n.val ||| (128 >>> m.val) : Nat) : Int) (shrI .u8 128 (m.val : Int)) = (((n.val ||| (128 >>> m.val)) ^^^ (128 >>> m.val) : Nat) : Int) ∧ ((n.val ||| (128 >>> m.val)) ^^^ (128 >>> m.val)) < 256 := by decide +kernel
  exact key ⟨c.toNat, c.toNat_lt⟩ ⟨m, h⟩
theorem or_bits (c : UInt8) (m : Nat) (h : m < 8) (j : Nat) (hj : j < 8) : (c.toNat ||| (128 >>> m)).testBit (7 - j) = bif j.beq m then true else c.toNat.testBit (7 - j) := by
  have key : ∀ n : Fin 256, ∀ m : Fin 8, ∀ j : Fin 8, (n.val ||| (128 >>> m.val)).testBit (7 - j.val) = bif j.val.beq m.val then true else n.val.testBit (7 - j.val) := by decide +kernel
  exact key ⟨c.toNat, c.toNat_lt⟩ ⟨m, h⟩ ⟨j, hj⟩
theorem xor_bits (c : UInt8) (m : Nat) (h : m < 8) (j : Nat) (hj : j < 8) : ((c.toNat ||| (128 >>> m)) ^^^ (128 >>> m)).testBit (7 - j) = bif j.beq m then false else c.toNat.testBit (7 - j) := by
  have key : ∀ n : Fin 256, ∀ m : Fin 8, ∀ j : Fin 8, ((n.val ||| (128 >>> m.val)) ^^^ (128 >>> m.val)).testBit (7 - j.val) = bif j.val.beq m.val then false else n.val.testBit (7 - j.val) := by decide +kernel
  exact key ⟨c.toNat, c.toNat_lt⟩ ⟨m, h⟩ ⟨j, hj⟩

theorem set_or {bs : List UInt8} (hb : bs.length = 32) {n : Nat} (hn : n < 256) : (bs.map byteD).set (n / 8) (.int .u8 (aBits .or .u8 (bs.getD (n / 8) 0).toNat (shrI .u8 128 (n % 8 : Nat)))) = (setB bs n true).map byteD := by
  rw [(or_byte _ _ (by omega)).1]
  exact setByte hb hn (or_byte _ _ (by omega)).2 fun j hj => or_bits _ _ (by omega) j hj

theorem set_xor {bs : List UInt8} (hb : bs.length = 32) {n : Nat} (hn : n < 256) :
    (bs.map byteD).set (n / 8) (.int .u8 (aBits .xor .u8 (aBits .or .u8 (bs.getD (n / 8) 0).toNat (shrI .u8 128 (n % 8 : Nat))) (shrI .u8 128 (n % 8 : Nat)))) = (setB bs n false).map byteD := by
  rw [(or_byte _ _ (by omega)).1, (xor_byte _ _ (by omega)).1]
  exact setByte hb hn (xor_byte _ _ (by omega)).2 fun j hj => xor_bits _ _ (by omega) j hj

theorem getD_set_self {α : Type} {l : List α} {k : Nat} {x y : α} (h : k < l.length) : (l.set k x).getD k y = x := by
  rw [List.getD_eq_getElem?_getD, List.getElem?_set_self h]; rfl

/-! ### What two digests have in common, and what is left of one -/

def common (a b : List UInt8) : Nat := ((List.range 256).takeWhile fun i => bitB a i == bitB b i).length

theorem takeWhile_range (p : Nat → Bool) : ∀ (n s : Nat), (∀ j, j < ((List.range' s n).takeWhile p).length → p (s + j) = true) ∧ ((List.range' s n).takeWhile p).length ≤ n ∧ (((List.range' s n).takeWhile p).length < n → p (s + ((List.range' s n).takeWhile p).length) = false)
  | 0, s => ⟨fun j h => by simp at h, by simp, fun h => by simp at h⟩
  | n + 1, s => by
    rw [List.range'_succ]
    cases hp : p s with
    | false =>
      rw [List.takeWhile_cons_of_neg (by simp [hp])]
      exact ⟨fun j h => by simp at h, by simp, fun _ => by simpa using hp⟩
    | true =>
      rw [List.takeWhile_cons_of_pos hp]
      obtain ⟨h1, h2, h3⟩ := takeWhile_range p n (s + 1)
      refine ⟨fun j h => ?_, by simp only [List.length_cons]; omega, fun h => ?_⟩
      · cases j with
        | zero => exact hp
        | succ j =>
          have := h1 j (by simpa using h)
          rw [show s + (j + 1) = s + 1 + j by omega]; exact this
      · have := h3 (by simpa using h)
        simp only [List.length_cons]
        rw [show s + (((List.range' (s + 1) n).takeWhile p).length + 1) = s + 1 + ((List.range' (s + 1) n).takeWhile p).length by omega]
        exact this

theorem common_le (a b : List UInt8) : common a b ≤ 256 := by
  have := (takeWhile_range (fun i => bitB a i == bitB b i) 256 0).2.1
  rw [← List.range_eq_range'] at this; exact this
theorem common_eq (a b : List UInt8) {j : Nat} (h : j < common a b) : bitB a j = bitB b j := by
  have := (takeWhile_range (fun i => bitB a i == bitB b i) 256 0).1 j
  rw [← List.range_eq_range'] at this
  have := this h
  rw [Nat.zero_add] at this
  exact eq_of_beq this
theorem common_ne (a b : List UInt8) (h : common a b < 256) : bitB a (common a b) ≠ bitB b (common a b) := by
  have := (takeWhile_range (fun i => bitB a i == bitB b i) 256 0).2.2
  rw [← List.range_eq_range'] at this
  have := this h
  rw [Nat.zero_add] at this
  intro e
  unfold common at e
  rw [e] at this; simp at this

theorem common_at {a b : List UInt8} {i : Nat} (h : ∀ j, j < i → bitB a j = bitB b j) (hi : i < 256) (hn : bitB a i ≠ bitB b i) : common a b = i := by
  rcases Nat.lt_trichotomy (common a b) i with h1 | h1 | h1
  · exact absurd (h _ h1) (common_ne a b (by omega))
  · exact h1
  · exact absurd (common_eq a b h1) hn
theorem common_all {a b : List UInt8} (h : ∀ j, j < 256 → bitB a j = bitB b j) : common a b = 256 := by
  rcases Nat.lt_or_ge (common a b) 256 with h1 | h1
  · exact absurd (h _ h1) (common_ne a b h1)
  · have := common_le a b; omega

def cutB (bs : List UInt8) (n : Int) : List UInt8 := ofBits fun j => decide ((j : Int) < n) && bitB bs j
def lessB (a b : List UInt8) : Bool := decide (common a b < 256) && bitB b (common a b)

theorem set_ofBits (f : Nat → Bool) {i : Nat} (hi : i < 256) (on : Bool) : setI (ofBits f) i on = ofBits fun m => bif m.beq i then on else f m := by
  rw [setI_nat _ hi]
  exact ofBits_congr fun n hn => by rw [bitB_ofBits f n hn]

theorem ofBits_none {f : Nat → Bool} (h : ∀ n, f n = false) : ofBits f = List.replicate 32 0 := by
  rw [ofBits_congr (g := fun _ => false) fun n _ => h n]
  decide +kernel

theorem beq_dec (m i : Nat) : m.beq i = decide (m = i) := by
  cases h : m.beq i with
  | true => simp [Nat.eq_of_beq_eq_true h]
  | false =>
    have : m ≠ i := fun e => by subst e; simp at h
    simp [this]

end Go.Sym
