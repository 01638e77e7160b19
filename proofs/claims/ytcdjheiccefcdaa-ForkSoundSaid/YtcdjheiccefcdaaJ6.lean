import Derived.Test.YtcdjheiccefcdaaJ4
import Derived.Test.YtcdjheiccefcdaaJ5
set_option linter.unusedSimpArgs false
set_option linter.unusedVariables false
/-
The record layer: what the reader does, as an option says; names.
-/
set_option linter.unusedSimpArgs false
set_option linter.unusedVariables false
namespace Go.Proofs.Ytcdjheiccefcdaa
open Go.Sym
set_option maxRecDepth 10000
set_option maxHeartbeats 1000000

theorem num_e (B : List D) (bs : List UInt8) (hB : B = bs.map byteD) (k : Nat) (hl : bs.length < 2 ^ 63) :
    LocalE (rdN bs 10 k 0 0) Try.prog 64 [.ptr 9 []] [(9, rd B k)] [] (fun a => [.d (.int .u64 (a.1 : Int))]) (fun a => [(9, rd B a.2)]) [] fault [(9, .dead)] :=
  ⟨fun a h => num_read B bs hB k a.1 a.2 h hl, fun h => num_nread B bs hB k h hl⟩

theorem text_e (B : List D) (bs : List UInt8) (hB : B = bs.map byteD) (k : Nat) (hl : bs.length < 2 ^ 63) :
    LocalE (rdT bs k) Try.prog 61 [.ptr 9 []] [(9, rd B k)] [] (fun a => [.d (.sl (a.1.map byteD))]) (fun a => [(9, rd B a.2)]) [] fault [(9, .dead)] :=
  ⟨fun a h => text_read B bs a.1 hB k a.2 h hl, fun h => text_nread B bs hB k h hl⟩

/-- A digest. -/
def rdG (bs : List UInt8) (k : Nat) : Option (List UInt8 × Nat) := bif decide (k + 32 ≤ bs.length) then some ((bs.drop k).take 32, k + 32) else none

theorem rdG_ok {bs d : List UInt8} {k e : Nat} (h : rdG bs k = some (d, e)) : k + 32 ≤ bs.length ∧ d = (bs.drop k).take 32 ∧ e = k + 32 := by
  unfold rdG at h
  by_cases hk : k + 32 ≤ bs.length
  · rw [decide_eq_true hk, cond_true] at h
    cases h; exact ⟨hk, rfl, rfl⟩
  · rw [decide_eq_false hk, cond_false] at h; cases h

theorem rdG_no {bs : List UInt8} {k : Nat} (h : rdG bs k = none) : ¬ k + 32 ≤ bs.length := fun hk => by
  unfold rdG at h
  rw [decide_eq_true hk, cond_true] at h; cases h

theorem dig_e (B : List D) (bs : List UInt8) (hB : B = bs.map byteD) (k : Nat) (hk : k ≤ bs.length) (hl : bs.length < 2 ^ 63) :
    LocalE (rdG bs k) Try.prog 65 [.ptr 9 []] [(9, rd B k)] [] (fun a => [.d (.arr 32 1 (a.1.map byteD))]) (fun a => [(9, rd B a.2)]) [] fault [(9, .dead)] := by
  refine ⟨fun a h => ?_, fun h => dig_nread B bs hB k hk (rdG_no h) hl⟩
  obtain ⟨h1, h2, h3⟩ := rdG_ok h
  rw [h2, h3]
  exact dig_read B bs hB k h1 hl

theorem rdT_le {bs ts : List UInt8} {k m : Nat} (h : rdT bs k = some (ts, m)) : m ≤ bs.length := by
  obtain ⟨n, e, _, h2, _, h4⟩ := rdT_ok h
  omega
theorem rdN_le2 {bs : List UInt8} {k v e : Nat} (h : rdN bs 10 k 0 0 = some (v, e)) : e ≤ bs.length := (rdN_le bs _ _ _ _ _ _ h).2
theorem rdG_le {bs ts : List UInt8} {k m : Nat} (h : rdG bs k = some (ts, m)) : m ≤ bs.length := by
  obtain ⟨h1, _, h3⟩ := rdG_ok h
  omega

/-! ### Names -/

def okC (c : UInt8) : Prop := (97 ≤ c.toNat ∧ c.toNat ≤ 122) ∨ (48 ≤ c.toNat ∧ c.toNat ≤ 57) ∨ c.toNat = 46 ∨ c.toNat = 45
instance (c : UInt8) : Decidable (okC c) := by unfold okC; exact inferInstance

def nameB (n : List UInt8) : Bool := n.all (fun c => decide (okC c)) && decide (0 < n.length ∧ n.length ≤ 32)

abbrev strD (n : List UInt8) : D := .str ⟨n.toArray⟩

/-- A binding. -/
structure Bnd where
  name : List UInt8
  key : List UInt8
  serial : Nat

abbrev bD (b : Bnd) : D := .st [strD b.name, .sl (b.key.map byteD), .int .u64 (b.serial : Int)]
def b0 : Bnd := ⟨[], [], 0⟩

/-- What is wrong with a name and a key. -/
def checkI (n k : List UInt8) : Int := bif nameB n then (bif decide (k.length = 0 ∨ 64 < k.length) then 5 else 0) else 4

end Go.Proofs.Ytcdjheiccefcdaa

/-
What the closures of the record layer read: bindings, requests, signed roots.
-/
set_option linter.unusedSimpArgs false
set_option linter.unusedVariables false
namespace Go.Proofs.Ytcdjheiccefcdaa
open Go.Sym
set_option maxRecDepth 10000
set_option maxHeartbeats 2000000

theorem rdN_end {bs : List UInt8} {k : Nat} {a : Nat × Nat} (h : rdN bs 10 k 0 0 = some a) : a.2 ≤ bs.length := rdN_le2 (v := a.1) (e := a.2) h
theorem rdG_end {bs : List UInt8} {k : Nat} {a : List UInt8 × Nat} (h : rdG bs k = some a) : a.2 ≤ bs.length := rdG_le (ts := a.1) (m := a.2) h

/-- A binding. -/
def rdBnd (bs : List UInt8) : Option (Bnd × Nat) := (rdT bs 0).bind fun a => (rdT bs a.2).bind fun b => (rdN bs 10 b.2 0 0).bind fun c => bif decide (checkI a.1 b.1 = 0) then some (⟨a.1, b.1, c.1⟩, c.2) else none

/-- A request. -/
structure Req where
  kind : Int
  name : List UInt8
  key : List UInt8
  auth : List UInt8

abbrev qD (q : Req) : D := .st [.int .i64 q.kind, strD q.name, .sl (q.key.map byteD), .arr 32 1 (q.auth.map byteD)]
def zero32 : List UInt8 := List.replicate 32 0

/-- Who asks. -/
def rdAu (bs : List UInt8) (n k : Nat) : Option (List UInt8 × Nat) := bif decide (n = 2) then rdG bs k else some (zero32, k)

def rdReq (bs : List UInt8) : Option (Req × Nat) := (rdC bs 2 0).bind fun k => (rdT bs k.2).bind fun a => (rdT bs a.2).bind fun b => (rdAu bs k.1 b.2).bind fun c =>
  bif decide (1 ≤ k.1 ∧ checkI a.1 b.1 = 0) then some (⟨(k.1 : Int), a.1, b.1, c.1⟩, c.2) else none

/-- A root, and one signed. -/
structure Rt where
  epoch : Nat
  prev : List UInt8
  tree : List UInt8
  next : List UInt8
structure Sgn where
  root : Rt
  sig : List UInt8

abbrev digD (d : List UInt8) : D := .arr 32 1 (d.map byteD)
abbrev rootD (r : Rt) : D := .st [.int .u64 (r.epoch : Int), digD r.prev, digD r.tree, digD r.next]
abbrev sD (s : Sgn) : D := .st [rootD s.root, .sl (s.sig.map byteD)]

def rdSgn (bs : List UInt8) : Option (Sgn × Nat) := (rdN bs 10 0 0 0).bind fun e => (rdG bs e.2).bind fun p => (rdG bs p.2).bind fun t => (rdG bs t.2).bind fun n => (rdT bs n.2).bind fun s => some (⟨⟨e.1, p.1, t.1, n.1⟩, s.1⟩, s.2)

theorem sgn_in (B : List D) (bs : List UInt8) (hB : B = bs.map byteD) (hl : bs.length < 2 ^ 63) :
    LocalE (rdSgn bs) Try.prog 63 [.ptr 9 []] [(9, rd B 0)] [] (fun a => [.d (sD a.1)]) (fun a => [(9, rd B a.2)]) [] fault [(9, .dead)] := by
  refine vc_fnE mixed Try.func63 rfl rfl [] (rdSgn bs) (vc_chk rfl) ?_
  repeat' (first
      | ((with_reducible refine vc_chk ?_); first | decide +kernel | rfl)
      | (with_reducible refine vc_side0 ?_; rfl)
      | (with_reducible first
           | refine vc_true ?_ | refine vc_true2 ?_ | refine vc_side ?_ ?_ | refine vc_triv | refine vc_later ?_ | refine vc_caseT ?_ | refine vc_caseF ?_ | refine vc_cons ?_ | refine vc_nil ?_ ?_ | refine vc_seq ?_
              | refine vc_region ?_ | refine vc_cond ?_ | refine vc_block ?_ | refine vc_retc ?_ | refine vc_exit ?_ | refine vc_skip ?_ | refine vc_scope ?_ | refine vc_label ?_ | refine vc_goto ?_ | refine vc_wkSl0
              | refine vc_wkHp0 | refine vc_eqAVs0 | refine vc_preG0 | refine vc_wkSl ?_ ?_ | refine vc_wkHp ?_ ?_ | refine vc_eqAVs ?_ ?_ | refine vc_preG ?_ ?_ | refine vc_side0 ?_
              | refine vc_eAt [] 9 (by with_unfolding_all rfl) (num_e B bs hB 0 hl) (fun a0 h0 => ?_) (fun h0 => ?_)
              | refine vc_eAt [] 9 (by with_unfolding_all rfl) (dig_e B bs hB a0.2 (rdN_end h0) hl) (fun a1 h1 => ?_) (fun h1 => ?_)
              | refine vc_eAt [] 9 (by with_unfolding_all rfl) (dig_e B bs hB a1.2 (rdG_end h1) hl) (fun a2 h2 => ?_) (fun h2 => ?_)
              | refine vc_eAt [] 9 (by with_unfolding_all rfl) (dig_e B bs hB a2.2 (rdG_end h2) hl) (fun a3 h3 => ?_) (fun h3 => ?_)
              | refine vc_eAt [] 9 (by with_unfolding_all rfl) (text_e B bs hB a3.2 hl) (fun a4 h4 => ?_) (fun h4 => ?_) | refine vc_ek (⟨⟨a0.1, a1.1, a2.1, a3.1⟩, a4.1⟩, a4.2) ?_ ?_ | refine vc_ep ?_ ?_
              | refine vc_panc [] [] ?_ ?_ | refine vc_weakf [] ?_ ?_ ?_ | refine vc_and ?_ ?_ | refine vc_ret [] [] ?_)
      | ((with_reducible first | refine vc_caseD (fun h => ?_) (fun h => ?_) | refine vc_caseN (fun h => ?_) (fun h => ?_)) <;> try (exfalso; omega))
      | ((with_reducible refine vc_case (fun h => ?_) (fun h => ?_)) <;> (try simp only [Go.Sym.vs1, reduceCtorEq] at h) <;> try (exfalso; first | omega | (simp at h; done)))
      | (conv in Vc _ => arg 1; whnf
         first
          | (with_reducible refine vc_side0 ?_; rfl)
          | (with_reducible first
              | refine vc_true ?_ | refine vc_true2 ?_ | refine vc_side ?_ ?_ | refine vc_triv | refine vc_later ?_ | refine vc_caseT ?_ | refine vc_caseF ?_ | refine vc_cons ?_ | refine vc_nil ?_ ?_ | refine vc_seq ?_
                 | refine vc_region ?_ | refine vc_cond ?_ | refine vc_block ?_ | refine vc_retc ?_ | refine vc_exit ?_ | refine vc_skip ?_ | refine vc_scope ?_ | refine vc_label ?_ | refine vc_goto ?_ | refine vc_wkSl0
                 | refine vc_wkHp0 | refine vc_eqAVs0 | refine vc_preG0 | refine vc_wkSl ?_ ?_ | refine vc_wkHp ?_ ?_ | refine vc_eqAVs ?_ ?_ | refine vc_preG ?_ ?_ | refine vc_side0 ?_
                 | refine vc_eAt [] 9 (by with_unfolding_all rfl) (num_e B bs hB 0 hl) (fun a0 h0 => ?_) (fun h0 => ?_)
                 | refine vc_eAt [] 9 (by with_unfolding_all rfl) (dig_e B bs hB a0.2 (rdN_end h0) hl) (fun a1 h1 => ?_) (fun h1 => ?_)
                 | refine vc_eAt [] 9 (by with_unfolding_all rfl) (dig_e B bs hB a1.2 (rdG_end h1) hl) (fun a2 h2 => ?_) (fun h2 => ?_)
                 | refine vc_eAt [] 9 (by with_unfolding_all rfl) (dig_e B bs hB a2.2 (rdG_end h2) hl) (fun a3 h3 => ?_) (fun h3 => ?_)
                 | refine vc_eAt [] 9 (by with_unfolding_all rfl) (text_e B bs hB a3.2 hl) (fun a4 h4 => ?_) (fun h4 => ?_) | refine vc_ek (⟨⟨a0.1, a1.1, a2.1, a3.1⟩, a4.1⟩, a4.2) ?_ ?_ | refine vc_ep ?_ ?_
                 | refine vc_panc [] [] ?_ ?_ | refine vc_weakf [] ?_ ?_ ?_ | refine vc_and ?_ ?_ | refine vc_ret [] [] ?_)
          | ((with_reducible first | refine vc_caseD (fun h => ?_) (fun h => ?_) | refine vc_caseN (fun h => ?_) (fun h => ?_)) <;> try (exfalso; omega))
          | ((with_reducible refine vc_case (fun h => ?_) (fun h => ?_)) <;> (try simp only [Go.Sym.vs1, reduceCtorEq] at h) <;> try (exfalso; first | omega | (simp at h; done)))))
  all_goals first
    | rfl
    | exact ⟨trivial, trivial⟩
    | exact ⟨trivial, trivial, trivial⟩
    | exact ⟨trivial, trivial, trivial, trivial⟩
    | exact ⟨trivial, trivial, trivial, trivial, trivial⟩
    | (simp [rdSgn, h0]; done)
    | (simp [rdSgn, h0, h1]; done)
    | (simp [rdSgn, h0, h1, h2]; done)
    | (simp [rdSgn, h0, h1, h2, h3]; done)
    | (simp [rdSgn, h0, h1, h2, h3, h4]; done)

end Go.Proofs.Ytcdjheiccefcdaa

/-
What the closures of the record layer read: proofs.
-/
set_option linter.unusedSimpArgs false
set_option linter.unusedVariables false
namespace Go.Proofs.Ytcdjheiccefcdaa
open Go.Sym
set_option maxRecDepth 10000
set_option maxHeartbeats 4000000

/-- A proof. -/
structure Prf where
  sides : List (List UInt8)
  fin : Int
  index : List UInt8
  value : List UInt8

abbrev pD (p : Prf) : D := .st [.sl (p.sides.map digD), .int .i64 p.fin, digD p.index, digD p.value]

/-- So many digests. -/
def rdGs (bs : List UInt8) : Nat → Nat → Option (List (List UInt8) × Nat)
  | 0, k => some ([], k)
  | n + 1, k => (rdG bs k).bind fun a => (rdGs bs n a.2).map fun p => (a.1 :: p.1, p.2)

structure RgI (bs : List UInt8) (R : Option (List (List UInt8) × Nat)) (x : List (List UInt8) × Nat × Nat) : Prop where
  h : (rdGs bs x.2.1 x.2.2).map (fun p => (x.1 ++ p.1, p.2)) = R
  le : x.1.length + x.2.1 ≤ 256
  kle : x.2.2 ≤ bs.length

theorem RgI.stop {bs : List UInt8} {R : Option (List (List UInt8) × Nat)} {x : List (List UInt8) × Nat × Nat} (hI : RgI bs R x) (h : x.2.1 = 0) : R = some (x.1, x.2.2) := by
  obtain ⟨acc, n, k⟩ := x
  obtain ⟨h1, _, _⟩ := hI
  simp only at h h1
  subst h
  rw [← h1]; simp [rdGs]

theorem RgI.no {bs : List UInt8} {R : Option (List (List UInt8) × Nat)} {x : List (List UInt8) × Nat × Nat} (hI : RgI bs R x) (h : 0 < x.2.1) (hg : rdG bs x.2.2 = none) : R = none := by
  obtain ⟨acc, n, k⟩ := x
  obtain ⟨h1, _, _⟩ := hI
  simp only at h h1 hg
  obtain ⟨m, rfl⟩ : ∃ m, n = m + 1 := ⟨n - 1, by omega⟩
  rw [← h1]; simp [rdGs, hg]

theorem RgI.next {bs : List UInt8} {R : Option (List (List UInt8) × Nat)} {x : List (List UInt8) × Nat × Nat} (hI : RgI bs R x) (h : 0 < x.2.1) {a : List UInt8 × Nat} (hg : rdG bs x.2.2 = some a) : RgI bs R (x.1 ++ [a.1], x.2.1 - 1, a.2) := by
  obtain ⟨acc, n, k⟩ := x
  obtain ⟨h1, h2, _⟩ := hI
  simp only at h h1 h2 hg
  obtain ⟨m, rfl⟩ : ∃ m, n = m + 1 := ⟨n - 1, by omega⟩
  refine ⟨?_, by simp; omega, rdG_end hg⟩
  rw [← h1]
  simp only [rdGs, hg, Option.bind_some, Nat.add_sub_cancel, Option.map_map]
  congr 1
  funext p
  simp

def rdLf (bs : List UInt8) (e k : Nat) : Option ((List UInt8 × List UInt8) × Nat) := bif decide (e = 1) then (rdG bs k).bind fun a => (rdG bs a.2).bind fun b => some ((a.1, b.1), b.2) else some ((zero32, zero32), k)

def rdPrf (bs : List UInt8) : Option (Prf × Nat) := (rdC bs 256 0).bind fun n => (rdGs bs n.1 n.2).bind fun g => (rdC bs 1 g.2).bind fun e => (rdLf bs e.1 e.2).bind fun l => some (⟨g.1, (e.1 : Int), l.1.1, l.1.2⟩, l.2)

end Go.Proofs.Ytcdjheiccefcdaa

/-
What is read to its end; things of nothing.
-/
set_option linter.unusedSimpArgs false
set_option linter.unusedVariables false
namespace Go.Proofs.Ytcdjheiccefcdaa
open Go.Sym
set_option maxRecDepth 10000
set_option maxHeartbeats 1000000

/-- What is read, if it ends where the bytes end. -/
def toFin {α : Type} (len : Nat) (r : Option (α × Nat)) : Option α := r.bind fun a => bif decide (a.2 = len) then some a.1 else none

theorem toFin_cases {α : Type} (len : Nat) (r : Option (α × Nat)) : (∃ a, r = some a ∧ a.2 = len ∧ toFin len r = some a.1) ∨ ((r = none ∨ ∃ a, r = some a ∧ ¬ a.2 = len) ∧ toFin len r = none) := by
  cases r with
  | none => exact .inr ⟨.inl rfl, rfl⟩
  | some a =>
    by_cases h : a.2 = len
    · exact .inl ⟨a, rfl, h, by simp [toFin, h]⟩
    · exact .inr ⟨.inr ⟨a, rfl, h⟩, by simp [toFin, h]⟩

def q0 : Req := ⟨0, [], [], zero32⟩
def s0 : Sgn := ⟨⟨0, zero32, zero32, zero32⟩, []⟩
def p0 : Prf := ⟨[], 0, zero32, zero32⟩

end Go.Proofs.Ytcdjheiccefcdaa

/-
Things of the record layer compared; whether a proof may be.
-/
set_option linter.unusedSimpArgs false
set_option linter.unusedVariables false
namespace Go.Proofs.Ytcdjheiccefcdaa
open Go.Sym
set_option maxRecDepth 10000
set_option maxHeartbeats 4000000

instance : DecidableEq Bnd := fun a b => if h : a.name = b.name ∧ a.key = b.key ∧ a.serial = b.serial then isTrue (by cases a; cases b; simp_all) else isFalse (by rintro rfl; exact h ⟨rfl, rfl, rfl⟩)
instance : DecidableEq Req := fun a b => if h : a.kind = b.kind ∧ a.name = b.name ∧ a.key = b.key ∧ a.auth = b.auth then isTrue (by cases a; cases b; simp_all) else isFalse (by rintro rfl; exact h ⟨rfl, rfl, rfl, rfl⟩)
instance : DecidableEq Rt := fun a b => if h : a.epoch = b.epoch ∧ a.prev = b.prev ∧ a.tree = b.tree ∧ a.next = b.next then isTrue (by cases a; cases b; simp_all) else isFalse (by rintro rfl; exact h ⟨rfl, rfl, rfl, rfl⟩)
instance : DecidableEq Sgn := fun a b => if h : a.root = b.root ∧ a.sig = b.sig then isTrue (by cases a; cases b; simp_all) else isFalse (by rintro rfl; exact h ⟨rfl, rfl⟩)
instance : DecidableEq Prf := fun a b => if h : a.sides = b.sides ∧ a.fin = b.fin ∧ a.index = b.index ∧ a.value = b.value then isTrue (by cases a; cases b; simp_all) else isFalse (by rintro rfl; exact h ⟨rfl, rfl, rfl, rfl⟩)

theorem rt_ext (a b : Rt) : a = b ↔ a.epoch = b.epoch ∧ a.prev = b.prev ∧ a.tree = b.tree ∧ a.next = b.next := ⟨fun h => by subst h; exact ⟨rfl, rfl, rfl, rfl⟩, fun h => by cases a; cases b; simp_all⟩
theorem fits_root (f : Nat) (r : Rt) : D.fits Try.prog (f + 3) 27 (rootD r) := by
  have h1 := fits_dig f r.prev
  have h2 := fits_dig f r.tree
  have h3 := fits_dig f r.next
  exact ⟨by decide +kernel, ⟨by decide, rfl, rfl⟩, rfl, ⟨by decide, rfl, rfl⟩, h1, ⟨by decide, rfl, rfl⟩, h2, ⟨by decide, rfl, rfl⟩, h3, trivial⟩

theorem beq_root (a b : Rt) : D.beq (rootD a) (rootD b) = decide (a = b) := by
  simp only [D.beq, D.beqs, beqs_bytes]
  rw [Bool.eq_iff_iff, decide_eq_true_eq, rt_ext]
  simp only [Bool.and_eq_true, beq_iff_eq, decide_eq_true_eq, and_true, Int.ofNat_inj]

def rightP (p : Prf) : Prop := p.sides.length ≤ 256 ∧ (p.fin = 1 ∨ (p.fin = 0 ∧ p.index = zero32 ∧ p.value = zero32))
instance (p : Prf) : Decidable (rightP p) := by unfold rightP; exact inferInstance

end Go.Proofs.Ytcdjheiccefcdaa

/-
The references' numbers and texts, handed back as rows of their own; texts and digests behind bytes.
-/
set_option linter.unusedSimpArgs false
set_option linter.unusedVariables false
namespace Go.Proofs.Ytcdjheiccefcdaa
open Go.Sym
set_option maxRecDepth 10000
set_option maxHeartbeats 1000000

theorem room30 {k j : Nat} (hj : j = 1) (h : k ≤ 2 ^ 30) : Room k j := by subst hj; unfold Room; omega
theorem text_b {A B : Nat} (h : A ≠ B) (x t : List UInt8) (hroom : (x ++ textB t).length ≤ 2 ^ 30) :
    LocalCall Try.prog 57 [.sl A [] 1 0 (x.map byteD).length, .d (.sl (t.map byteD))] [(A, .row 1 (x.map byteD))] [B] (one [.sl B [] 1 0 ((x ++ textB t).map byteD).length]) [(B, .row 1 ((x ++ textB t).map byteD)), (A, .dead)] := by
  have e : x.map byteD ++ (numB (t.map byteD).length).map byteD ++ t.map byteD = (x ++ textB t).map byteD := by
    rw [List.length_map, textB, List.map_append, List.map_append, List.append_assoc]
  have := text_at h (x.map byteD) (t.map byteD) (size_bytes t) (by rw [e, List.length_map]; exact room30 rfl hroom)
  rw [e] at this
  exact this

theorem dig_ok (xs ds : List D) (hd : ds.length = 32) (hts : ∀ y, y ∈ ds → y.size = 1) (hroom : Room (xs ++ ds).length 1) {A B : Nat} (h : A ≠ B) :
    LocalCall Try.prog 56 [.sl A [] 1 0 xs.length, .d (.arr 32 1 ds)] [(A, .row 1 xs)] [B] (one [.sl B [] 1 0 (xs ++ ds).length]) [(B, .row 1 (xs ++ ds)), (A, .dead)] :=
  local_ren [(1, A), (2, B)] [(A, 1), (B, 2)] (digest_ok xs ds hd hts hroom) (ren_two h (by simp [AV.namesL, AV.names]) (by simp [one, AV.names]))

theorem dig_b {A B : Nat} (h : A ≠ B) (x d : List UInt8) (hd : d.length = 32) (hroom : (x ++ d).length ≤ 2 ^ 30) :
    LocalCall Try.prog 56 [.sl A [] 1 0 (x.map byteD).length, .d (.arr 32 1 (d.map byteD))] [(A, .row 1 (x.map byteD))] [B] (one [.sl B [] 1 0 ((x ++ d).map byteD).length]) [(B, .row 1 ((x ++ d).map byteD)), (A, .dead)] := by
  have := dig_ok (x.map byteD) (d.map byteD) (by rw [List.length_map]; exact hd) (size_bytes d) (by rw [← List.map_append, List.length_map]; exact room30 rfl hroom) h
  rw [← List.map_append] at this
  exact this

end Go.Proofs.Ytcdjheiccefcdaa

/-
What record.Binding, Request, Signed and Proof write.
-/
set_option linter.unusedSimpArgs false
set_option linter.unusedVariables false
namespace Go.Proofs.Ytcdjheiccefcdaa
open Go.Sym
set_option maxRecDepth 10000
set_option maxHeartbeats 8000000

def bndB (b : Bnd) : List UInt8 := textB b.name ++ textB b.key ++ numB b.serial
def kindN (k : Int) : Nat := (IntKind.u64.wrap k).toNat
def reqB (q : Req) : List UInt8 := numB (kindN q.kind) ++ textB q.name ++ textB q.key ++ (bif decide (q.kind = 2) then q.auth else [])
def sgnB (s : Sgn) : List UInt8 := numB s.root.epoch ++ [s.root.prev, s.root.tree, s.root.next].flatten ++ textB s.sig
def prfB (p : Prf) : List UInt8 := numB p.sides.length ++ p.sides.flatten ++ numB (kindN p.fin) ++ (bif decide (p.fin = 1) then p.index ++ p.value else [])

theorem str_cut (n : List UInt8) : D.sl (List.take (⟨n.toArray⟩ : ByteArray).size (List.drop 0 (List.map byteD (⟨n.toArray⟩ : ByteArray).data.toList))) = D.sl (n.map byteD) := by
  show D.sl (List.take n.length (List.drop 0 (List.map byteD n))) = _
  rw [List.drop_zero, ← List.length_map (f := byteD), List.take_length]
theorem str_side (n : List UInt8) : 0 + (⟨n.toArray⟩ : ByteArray).size ≤ (List.map byteD (⟨n.toArray⟩ : ByteArray).data.toList).length ∧ True := by
  show 0 + n.length ≤ (List.map byteD n).length ∧ True
  rw [List.length_map]; exact ⟨Nat.le_of_eq (Nat.zero_add _), trivial⟩

theorem sgnW (s : Sgn) (he : s.root.epoch < 2 ^ 64) (h1 : s.root.prev.length = 32) (h2 : s.root.tree.length = 32) (h3 : s.root.next.length = 32) (hr : (sgnB s).length ≤ 2 ^ 30) : LocalCall Try.prog 32 [.d (sD s)] [] [] (one [.d (.sl ((sgnB s).map byteD))]) [] := by
  have hl := hr
  unfold sgnB at hl
  simp only [List.length_append] at hl
  have c0 := num_nil (A := 6) (B := 7) (by decide) _ _ rfl he
  generalize hds : [s.root.prev, s.root.tree, s.root.next] = ds at hl
  have h32 : ∀ d, d ∈ ds → d.length = 32 := fun d hd => by
    rw [← hds] at hd
    simp only [List.mem_cons, List.not_mem_nil, or_false] at hd
    rcases hd with rfl | rfl | rfl <;> assumption
  have hn : ds.length = 3 := by rw [← hds]; rfl
  have hg : ∀ i, i < 3 → (ds.getD i []).length = 32 := fun i hi => h32 _ (by rw [List.getD_eq_getElem?_getD, List.getElem?_eq_getElem (by omega)]; simp)
  have hJ : ∀ i, (ds.take i).flatten.length ≤ ds.flatten.length := fun i => by
    have h : ds.flatten = (ds.take i).flatten ++ (ds.drop i).flatten := by rw [← List.flatten_append, List.take_append_drop]
    rw [h, List.length_append]; omega
  have hN : ∀ i, i < 3 → (ds.take i).flatten ++ ds.getD i [] = (ds.take (i + 1)).flatten := fun i h => by
    rw [List.take_add_one, List.flatten_append, List.getD_eq_getElem?_getD, List.getElem?_eq_getElem (by omega)]; simp
  have c1 : ∀ i, i < 3 → LocalCall Try.prog 56 [.sl 7 [] 1 0 ((numB s.root.epoch ++ (ds.take i).flatten).map byteD).length, .d (.arr 32 1 ((ds.getD i []).map byteD))] [(7, .row 1 ((numB s.root.epoch ++ (ds.take i).flatten).map byteD))] [8] (one [.sl 8 [] 1 0 ((numB s.root.epoch ++ (ds.take (i + 1)).flatten).map byteD).length]) [(8, .row 1 ((numB s.root.epoch ++ (ds.take (i + 1)).flatten).map byteD)), (7, .dead)] := fun i hi => by
    have := dig_b (A := 7) (B := 8) (by decide) (numB s.root.epoch ++ (ds.take i).flatten) (ds.getD i []) (hg i hi) (by
      have := hJ (i + 1)
      rw [← hN i hi, List.length_append] at this
      simp only [List.length_append]; omega)
    rw [List.append_assoc, hN i hi] at this
    exact this
  have c2 := text_b (A := 7) (B := 8) (by decide) (numB s.root.epoch ++ (ds.take 3).flatten) s.sig (by
    have := hJ 3
    simp only [List.length_append]; omega)
  refine vc_fn mixed Try.func32 rfl rfl [] (vc_chk rfl) ?_
  repeat' (first
      | ((with_reducible refine vc_chk ?_); first | decide +kernel | rfl)
      | (with_reducible refine vc_side0 ?_; rfl)
      | (with_reducible first
           | refine vc_true ?_ | refine vc_true2 ?_ | refine vc_side ?_ ?_ | refine vc_triv | refine vc_later ?_ | refine vc_caseT ?_ | refine vc_caseF ?_ | refine vc_cons ?_ | refine vc_nil ?_ ?_ | refine vc_seq ?_
              | refine vc_region ?_ | refine vc_cond ?_ | refine vc_block ?_ | refine vc_retc ?_ | refine vc_exit ?_ | refine vc_skip ?_ | refine vc_scope ?_ | refine vc_label ?_ | refine vc_goto ?_ | refine vc_wkSl0
              | refine vc_wkHp0 | refine vc_eqAVs0 | refine vc_preG0 | refine vc_wkSl ?_ ?_ | refine vc_wkHp ?_ ?_ | refine vc_eqAVs ?_ ?_ | refine vc_preG ?_ ?_ | refine vc_side0 ?_
              | refine vc_loopI 33 (fun (i : Nat) => [(1, .ptr 1000 []), (3, .sl 7 [] 1 0 ((numB s.root.epoch ++ (ds.take i).flatten).map byteD).length), (19, .sl 3036 [] 32 0 3), (20, .d (.int .i64 3)), (21, .d (.int .i64 (i : Int)))]) (fun i => [(1000, .var (.d (sD s))), (7, .row 1 ((numB s.root.epoch ++ (ds.take i).flatten).map byteD)), (3036, .row 32 (ds.map digD))]) (fun i => 3 - i) (fun i => i ≤ 3) 0 [] ?_ ?_ ?_ ?_ ?_ (fun i hI => ?_)
              | refine vc_call [] (c1 i (by omega)) ?_ | refine vc_call [] c2 ?_ | refine vc_nextI (i + 1) [(7, 8)] ?_ ?_ ?_ ?_ ?_ ?_ | refine vc_call [] c0 ?_ | refine vc_ret [true] [] ?_ | refine vc_weakf [] ?_ ?_ ?_
              | refine vc_and ?_ ?_ | refine vc_ret [] [] ?_)
      | ((with_reducible first | refine vc_caseD (fun h => ?_) (fun h => ?_) | refine vc_caseN (fun h => ?_) (fun h => ?_)) <;> try (exfalso; omega))
      | ((with_reducible refine vc_case (fun h => ?_) (fun h => ?_)) <;> (try simp only [Go.Sym.vs1, reduceCtorEq] at h) <;> try (exfalso; first | omega | (simp at h; done)))
      | (conv in Vc _ => arg 1; whnf
         first
          | (with_reducible refine vc_side0 ?_; rfl)
          | (with_reducible first
              | refine vc_true ?_ | refine vc_true2 ?_ | refine vc_side ?_ ?_ | refine vc_triv | refine vc_later ?_ | refine vc_caseT ?_ | refine vc_caseF ?_ | refine vc_cons ?_ | refine vc_nil ?_ ?_ | refine vc_seq ?_
                 | refine vc_region ?_ | refine vc_cond ?_ | refine vc_block ?_ | refine vc_retc ?_ | refine vc_exit ?_ | refine vc_skip ?_ | refine vc_scope ?_ | refine vc_label ?_ | refine vc_goto ?_ | refine vc_wkSl0
                 | refine vc_wkHp0 | refine vc_eqAVs0 | refine vc_preG0 | refine vc_wkSl ?_ ?_ | refine vc_wkHp ?_ ?_ | refine vc_eqAVs ?_ ?_ | refine vc_preG ?_ ?_ | refine vc_side0 ?_
                 | refine vc_loopI 33 (fun (i : Nat) => [(1, .ptr 1000 []), (3, .sl 7 [] 1 0 ((numB s.root.epoch ++ (ds.take i).flatten).map byteD).length), (19, .sl 3036 [] 32 0 3), (20, .d (.int .i64 3)), (21, .d (.int .i64 (i : Int)))]) (fun i => [(1000, .var (.d (sD s))), (7, .row 1 ((numB s.root.epoch ++ (ds.take i).flatten).map byteD)), (3036, .row 32 (ds.map digD))]) (fun i => 3 - i) (fun i => i ≤ 3) 0 [] ?_ ?_ ?_ ?_ ?_ (fun i hI => ?_)
                 | refine vc_call [] (c1 i (by omega)) ?_ | refine vc_call [] c2 ?_ | refine vc_nextI (i + 1) [(7, 8)] ?_ ?_ ?_ ?_ ?_ ?_ | refine vc_call [] c0 ?_ | refine vc_ret [true] [] ?_ | refine vc_weakf [] ?_ ?_ ?_
                 | refine vc_and ?_ ?_ | refine vc_ret [] [] ?_)
          | ((with_reducible first | refine vc_caseD (fun h => ?_) (fun h => ?_) | refine vc_caseN (fun h => ?_) (fun h => ?_)) <;> try (exfalso; omega))
          | ((with_reducible refine vc_case (fun h => ?_) (fun h => ?_)) <;> (try simp only [Go.Sym.vs1, reduceCtorEq] at h) <;> try (exfalso; first | omega | (simp at h; done)))))
  all_goals first
    | rfl
    | exact str_side _
    | exact str_cut _
    | exact ⟨Nat.le_of_eq (Nat.zero_add _), trivial⟩
    | (rw [List.drop_zero, List.take_length]; rfl)
    | omega
    | (rw [List.take_zero, List.flatten_nil, List.append_nil]; done)
    | exact ⟨by omega, by omega⟩
    | (congr 1; rw [wrap64_id (by omega) (by omega)]; rfl)
    | (rw [Int.toNat_natCast, Nat.zero_add, (map_at (f := digD) (d := []) (by omega)).1]; rfl)
    | (rw [Int.toNat_natCast, Nat.zero_add, (map_at (f := digD) (d := []) (by omega)).1]; exact ⟨⟨by rw [List.length_map]; omega, trivial⟩, rfl⟩)
    | (obtain rfl : i = 3 := by omega
       rfl)
    | (subst hds; rfl)
    | (show D.arr 32 1 ((ds.map digD).getD (0 + (i : Int).toNat) .nilp).els = _
       rw [Int.toNat_natCast, Nat.zero_add, (map_at (f := digD) (d := []) (by omega)).1]; rfl)
    | (subst hds; rw [List.drop_zero, List.take_length]; rfl)
    | (obtain rfl : i = 3 := by omega
       subst hds; rw [List.drop_zero, List.take_length]; rfl)
    | skip

end Go.Proofs.Ytcdjheiccefcdaa

/-
What is written is what is read: bindings, requests, signed roots and proofs; no program in sight.
-/
set_option linter.unusedSimpArgs false
set_option linter.unusedVariables false
namespace Go.Proofs.Ytcdjheiccefcdaa
open Go.Sym
set_option maxRecDepth 10000
set_option maxHeartbeats 1000000

theorem rdG_iff {bs d : List UInt8} {k m : Nat} (h : rdG bs k = some (d, m)) : d.length = 32 ∧ bs.drop k = d ++ bs.drop m := by
  obtain ⟨h1, rfl, rfl⟩ := rdG_ok h
  refine ⟨by rw [List.length_take, List.length_drop]; omega, ?_⟩
  rw [← List.drop_drop, List.take_append_drop]

theorem iff_rdG {bs d rest : List UInt8} {k : Nat} (hl : d.length = 32) (h : bs.drop k = d ++ rest) : rdG bs k = some (d, k + 32) ∧ bs.drop (k + 32) = rest := by
  have hlen : (bs.drop k).length = 32 + rest.length := by rw [h, List.length_append, hl]
  rw [List.length_drop] at hlen
  refine ⟨?_, ?_⟩
  · unfold rdG
    rw [decide_eq_true (by omega), cond_true, h, ← hl, List.take_left' rfl]
  · rw [← List.drop_drop, h, ← hl, List.drop_left' rfl]

theorem at_end {bs : List UInt8} {k : Nat} (hk : k ≤ bs.length) (h : bs.drop k = []) : k = bs.length := by
  have := congrArg List.length h
  rw [List.length_drop] at this
  simp at this; omega

/-! ### Bindings -/

/-! ### Requests -/

/-- May a request be? -/
def mayQ (q : Req) : Prop := checkI q.name q.key = 0 ∧ (q.kind = 2 ∨ (q.kind = 1 ∧ q.auth = zero32))

/-! ### Signed roots -/

structure wfS (s : Sgn) : Prop where
  epoch : s.root.epoch < 2 ^ 64
  prev : s.root.prev.length = 32
  tree : s.root.tree.length = 32
  next : s.root.next.length = 32

theorem sgn_back {s : Sgn} (hw : wfS s) (hs : s.sig.length ≤ 1048576) : toFin (sgnB s).length (rdSgn (sgnB s)) = some s := by
  have h0 : (sgnB s).drop 0 = numB s.root.epoch ++ (s.root.prev ++ (s.root.tree ++ (s.root.next ++ (textB s.sig ++ [])))) := by simp [sgnB]
  obtain ⟨q0, r0⟩ := iff_rdN hw.epoch h0
  obtain ⟨q1, r1⟩ := iff_rdG hw.prev r0
  obtain ⟨q2, r2⟩ := iff_rdG hw.tree r1
  obtain ⟨q3, r3⟩ := iff_rdG hw.next r2
  obtain ⟨q4, r4⟩ := iff_rdT hs r3
  have he := at_end (rdT_le q4) r4
  simp only [rdSgn, q0, q1, q2, q3, q4, Option.bind_some]
  simp only [toFin, Option.bind_some, he, decide_true, cond_true]

theorem sgn_one {bs : List UInt8} {s : Sgn} (h : toFin bs.length (rdSgn bs) = some s) : sgnB s = bs ∧ wfS s ∧ s.sig.length ≤ 1048576 := by
  rcases toFin_cases bs.length (rdSgn bs) with ⟨a, h1, h2, h3⟩ | ⟨_, h3⟩
  · rw [h] at h3
    cases h3
    unfold rdSgn at h1
    cases q0 : rdN bs 10 0 0 0 with
    | none => rw [q0] at h1; cases h1
    | some w =>
    rw [q0, Option.bind_some] at h1
    cases q1 : rdG bs w.2 with
    | none => rw [q1] at h1; cases h1
    | some x =>
    rw [q1, Option.bind_some] at h1
    cases q2 : rdG bs x.2 with
    | none => rw [q2] at h1; cases h1
    | some y =>
    rw [q2, Option.bind_some] at h1
    cases q3 : rdG bs y.2 with
    | none => rw [q3] at h1; cases h1
    | some z =>
    rw [q3, Option.bind_some] at h1
    cases q4 : rdT bs z.2 with
    | none => rw [q4] at h1; cases h1
    | some u =>
    rw [q4, Option.bind_some] at h1
    cases h1
    obtain ⟨e5, e0⟩ := rdN_iff (v := w.1) (e := w.2) q0
    obtain ⟨f1, e1⟩ := rdG_iff (d := x.1) (m := x.2) q1
    obtain ⟨f2, e2⟩ := rdG_iff (d := y.1) (m := y.2) q2
    obtain ⟨f3, e3⟩ := rdG_iff (d := z.1) (m := z.2) q3
    obtain ⟨f4, e4⟩ := rdT_iff (ts := u.1) (m := u.2) q4
    refine ⟨?_, ⟨e5, f1, f2, f3⟩, f4⟩
    simp only at h2
    rw [List.drop_zero] at e0
    rw [h2, List.drop_length] at e4
    rw [e0, e1, e2, e3, e4]
    simp [sgnB]
  · rw [h] at h3; cases h3

/-! ### Proofs -/

structure wfP (p : Prf) : Prop where
  sides : ∀ d, d ∈ p.sides → d.length = 32
  index : p.index.length = 32
  value : p.value.length = 32

theorem flat_code : ∀ {a b : List (List UInt8)} {u v : List UInt8}, a.length = b.length → (∀ d, d ∈ a → d.length = 32) → (∀ d, d ∈ b → d.length = 32) → a.flatten ++ u = b.flatten ++ v → a = b ∧ u = v
  | [], [], u, v, _, _, _, h => ⟨rfl, by simpa using h⟩
  | x :: a, y :: b, u, v, hl, ha, hb, h => by
    rw [List.flatten_cons, List.flatten_cons, List.append_assoc, List.append_assoc] at h
    obtain ⟨h1, h⟩ := List.append_inj h (by rw [ha x (by simp), hb y (by simp)])
    obtain ⟨h2, h3⟩ := flat_code (by simpa using hl) (fun d hd => ha d (by simp [hd])) (fun d hd => hb d (by simp [hd])) h
    exact ⟨by rw [h1, h2], h3⟩

end Go.Proofs.Ytcdjheiccefcdaa

/-
Readings of bindings, requests, signed roots and proofs.
-/
set_option linter.unusedSimpArgs false
set_option linter.unusedVariables false
namespace Go.Proofs.Ytcdjheiccefcdaa
open Go.Sym
set_option maxRecDepth 10000

theorem root_of {n : Nat} {x : D} (h : okD Try.prog (n + 4) 27 x) : ∃ r : Rt, x = rootD r ∧ r.epoch < 2 ^ 64 ∧ r.prev.length = 32 ∧ r.tree.length = 32 ∧ r.next.length = 32 := by
  have hu : ∃ fs, Try.prog.underlying 27 = some (.struct fs) ∧ fs.toList.map (·.type) = [25, 23, 23, 23] := ⟨_, rfl, rfl⟩
  obtain ⟨fs, hu, ht⟩ := hu
  rw [show n + 4 = (n + 3) + 1 from rfl, okD, hu] at h
  obtain ⟨xs, rfl, hx⟩ := h
  rw [ht] at hx
  obtain ⟨i, a, b, c, rfl, hi, h0, h1, h2⟩ := okAll4 hx
  obtain ⟨j, rfl, hj⟩ := u64_of (n := n + 2) hi
  obtain ⟨p, hp, rfl⟩ := dig_of (n := n + 1) h0
  obtain ⟨t, ht, rfl⟩ := dig_of (n := n + 1) h1
  obtain ⟨d, hd, rfl⟩ := dig_of (n := n + 1) h2
  exact ⟨⟨j, p, t, d⟩, rfl, hj, hp, ht, hd⟩

theorem sgn_of {n : Nat} {x : D} (h : okD Try.prog (n + 5) 30 x) : ∃ s : Sgn, x = sD s ∧ wfS s := by
  have hu : ∃ fs, Try.prog.underlying 30 = some (.struct fs) ∧ fs.toList.map (·.type) = [27, 28] := ⟨_, rfl, rfl⟩
  obtain ⟨fs, hu, ht⟩ := hu
  rw [show n + 5 = (n + 4) + 1 from rfl, okD, hu] at h
  obtain ⟨xs, rfl, hx⟩ := h
  rw [ht] at hx
  obtain ⟨a, b, rfl, h0, h1⟩ := okAll2 hx
  obtain ⟨r, rfl, e1, e2, e3, e4⟩ := root_of (n := n) h0
  obtain ⟨k, rfl⟩ := sl_of (n := n + 2) h1
  exact ⟨⟨r, k⟩, rfl, e1, e2, e3, e4⟩

theorem digs_in {n : Nat} : ∀ (xs : List D), (∀ y, y ∈ xs → okD Try.prog (n + 2) 23 y) → ∃ ds : List (List UInt8), xs = ds.map digD ∧ ∀ d, d ∈ ds → d.length = 32
  | [], _ => ⟨[], rfl, nofun⟩
  | x :: xs, h => by
    obtain ⟨d, hd, rfl⟩ := dig_of (h x (by simp))
    obtain ⟨ds, rfl, hb⟩ := digs_in xs fun y hy => h y (by simp [hy])
    refine ⟨d :: ds, rfl, fun v hv => ?_⟩
    rcases List.mem_cons.1 hv with rfl | hv
    · exact hd
    · exact hb v hv

theorem digs_of {n : Nat} {x : D} (h : okD Try.prog (n + 3) 43 x) : ∃ ds : List (List UInt8), x = .sl (ds.map digD) ∧ (∀ d, d ∈ ds → d.length = 32) ∧ ds.length ≤ maxLen := by
  have hu : Try.prog.underlying 43 = some (.slice 23) := rfl
  rw [show n + 3 = (n + 2) + 1 from rfl, okD, hu] at h
  obtain ⟨xs, rfl, hl, hx⟩ := h
  obtain ⟨ds, rfl, hd⟩ := digs_in (n := n) xs hx
  exact ⟨ds, rfl, hd, by simpa using hl⟩

end Go.Proofs.Ytcdjheiccefcdaa

/-
blazonref01.Join hands back a row of its own.
-/
set_option linter.unusedSimpArgs false
set_option linter.unusedVariables false
namespace Go.Proofs.Ytcdjheiccefcdaa
open Go.Sym
set_option maxRecDepth 10000
set_option maxHeartbeats 1000000

theorem roomJ {k : Nat} (h : k ≤ 2 ^ 30) : Room k 1 := by unfold Room; omega

end Go.Proofs.Ytcdjheiccefcdaa

/-
The small functions of SHA-256: turns, words, constants.
-/
set_option linter.unusedSimpArgs false
set_option linter.unusedVariables false
namespace Go.Proofs.Ytcdjheiccefcdaa
open Go.Sym
set_option maxRecDepth 10000
set_option maxHeartbeats 4000000

theorem rot_ok {i : Int} {x : W32} (hi : i = wI x) (k : Int) (n : Nat) (hn : n ≤ 32) (h1 : aBits .and .u64 (IntKind.u64.wrap k) 31 = ((32 - n : Nat) : Int)) (h2 : IntKind.u64.wrap (32 - ((32 - n : Nat) : Int)) = (n : Int)) :
    LocalCall Try.prog 103 [.d (.int .u32 i), .d (.int .i64 k)] [] [] (one [.d (.int .u32 (wI (rotr x n)))]) [] := by
  subst hi
  refine vc_fn mixed Try.func103 rfl rfl [] (vc_chk rfl) ?_
  repeat' (first
      | ((with_reducible refine vc_chk ?_); first | decide +kernel | rfl)
      | (with_reducible refine vc_side0 ?_; rfl)
      | (with_reducible first
           | refine vc_true ?_ | refine vc_true2 ?_ | refine vc_side ?_ ?_ | refine vc_triv | refine vc_later ?_ | refine vc_caseT ?_ | refine vc_caseF ?_ | refine vc_cons ?_ | refine vc_nil ?_ ?_ | refine vc_seq ?_
              | refine vc_region ?_ | refine vc_cond ?_ | refine vc_block ?_ | refine vc_retc ?_ | refine vc_exit ?_ | refine vc_skip ?_ | refine vc_scope ?_ | refine vc_label ?_ | refine vc_goto ?_ | refine vc_wkSl0
              | refine vc_wkHp0 | refine vc_eqAVs0 | refine vc_preG0 | refine vc_wkSl ?_ ?_ | refine vc_wkHp ?_ ?_ | refine vc_eqAVs ?_ ?_ | refine vc_preG ?_ ?_ | refine vc_side0 ?_ | refine vc_weakf [] ?_ ?_ ?_
              | refine vc_and ?_ ?_ | refine vc_ret [] [] ?_)
      | ((with_reducible first | refine vc_caseD (fun h => ?_) (fun h => ?_) | refine vc_caseN (fun h => ?_) (fun h => ?_)) <;> try (exfalso; omega))
      | ((with_reducible refine vc_case (fun h => ?_) (fun h => ?_)) <;> (try simp only [Go.Sym.vs1, reduceCtorEq] at h) <;> try (exfalso; first | omega | (simp at h; done)))
      | (conv in Vc _ => arg 1; whnf
         first
          | (with_reducible refine vc_side0 ?_; rfl)
          | (with_reducible first
              | refine vc_true ?_ | refine vc_true2 ?_ | refine vc_side ?_ ?_ | refine vc_triv | refine vc_later ?_ | refine vc_caseT ?_ | refine vc_caseF ?_ | refine vc_cons ?_ | refine vc_nil ?_ ?_ | refine vc_seq ?_
                 | refine vc_region ?_ | refine vc_cond ?_ | refine vc_block ?_ | refine vc_retc ?_ | refine vc_exit ?_ | refine vc_skip ?_ | refine vc_scope ?_ | refine vc_label ?_ | refine vc_goto ?_ | refine vc_wkSl0
                 | refine vc_wkHp0 | refine vc_eqAVs0 | refine vc_preG0 | refine vc_wkSl ?_ ?_ | refine vc_wkHp ?_ ?_ | refine vc_eqAVs ?_ ?_ | refine vc_preG ?_ ?_ | refine vc_side0 ?_ | refine vc_weakf [] ?_ ?_ ?_
                 | refine vc_and ?_ ?_ | refine vc_ret [] [] ?_)
          | ((with_reducible first | refine vc_caseD (fun h => ?_) (fun h => ?_) | refine vc_caseN (fun h => ?_) (fun h => ?_)) <;> try (exfalso; omega))
          | ((with_reducible refine vc_case (fun h => ?_) (fun h => ?_)) <;> (try simp only [Go.Sym.vs1, reduceCtorEq] at h) <;> try (exfalso; first | omega | (simp at h; done)))))
  all_goals (try simp only [h1, h2])
  all_goals first
    | rfl
    | omega
    | (rw [w_shl x (by omega), w_shr x hn, w_or]; unfold rotr; rw [BitVec.or_comm])

theorem turn_ok {i : Int} {x : W32} (hi : i = wI x) (n : Nat) (hn : n ≤ 32) :
    LocalCall Try.prog 96 [.d (.int .u32 i), .d (.int .i64 (n : Int))] [] [] (one [.d (.int .u32 (wI (rotr x n)))]) [] := by
  subst hi
  have h1 : IntKind.u64.wrap (n : Int) = n := by rw [u64_wrap]; omega
  have h2 : IntKind.u64.wrap (IntKind.i64.wrap (32 - (n : Int))) = ((32 - n : Nat) : Int) := by rw [wrap64_id (by omega) (by omega), u64_wrap]; omega
  refine vc_fn mixed Try.func96 rfl rfl [] (vc_chk rfl) ?_
  repeat' (first
      | ((with_reducible refine vc_chk ?_); first | decide +kernel | rfl)
      | (with_reducible refine vc_side0 ?_; rfl)
      | (with_reducible first
           | refine vc_true ?_ | refine vc_true2 ?_ | refine vc_side ?_ ?_ | refine vc_triv | refine vc_later ?_ | refine vc_caseT ?_ | refine vc_caseF ?_ | refine vc_cons ?_ | refine vc_nil ?_ ?_ | refine vc_seq ?_
              | refine vc_region ?_ | refine vc_cond ?_ | refine vc_block ?_ | refine vc_retc ?_ | refine vc_exit ?_ | refine vc_skip ?_ | refine vc_scope ?_ | refine vc_label ?_ | refine vc_goto ?_ | refine vc_wkSl0
              | refine vc_wkHp0 | refine vc_eqAVs0 | refine vc_preG0 | refine vc_wkSl ?_ ?_ | refine vc_wkHp ?_ ?_ | refine vc_eqAVs ?_ ?_ | refine vc_preG ?_ ?_ | refine vc_side0 ?_ | refine vc_weakf [] ?_ ?_ ?_
              | refine vc_and ?_ ?_ | refine vc_ret [] [] ?_)
      | ((with_reducible first | refine vc_caseD (fun h => ?_) (fun h => ?_) | refine vc_caseN (fun h => ?_) (fun h => ?_)) <;> try (exfalso; omega))
      | ((with_reducible refine vc_case (fun h => ?_) (fun h => ?_)) <;> (try simp only [Go.Sym.vs1, reduceCtorEq] at h) <;> try (exfalso; first | omega | (simp at h; done)))
      | (conv in Vc _ => arg 1; whnf
         first
          | (with_reducible refine vc_side0 ?_; rfl)
          | (with_reducible first
              | refine vc_true ?_ | refine vc_true2 ?_ | refine vc_side ?_ ?_ | refine vc_triv | refine vc_later ?_ | refine vc_caseT ?_ | refine vc_caseF ?_ | refine vc_cons ?_ | refine vc_nil ?_ ?_ | refine vc_seq ?_
                 | refine vc_region ?_ | refine vc_cond ?_ | refine vc_block ?_ | refine vc_retc ?_ | refine vc_exit ?_ | refine vc_skip ?_ | refine vc_scope ?_ | refine vc_label ?_ | refine vc_goto ?_ | refine vc_wkSl0
                 | refine vc_wkHp0 | refine vc_eqAVs0 | refine vc_preG0 | refine vc_wkSl ?_ ?_ | refine vc_wkHp ?_ ?_ | refine vc_eqAVs ?_ ?_ | refine vc_preG ?_ ?_ | refine vc_side0 ?_ | refine vc_weakf [] ?_ ?_ ?_
                 | refine vc_and ?_ ?_ | refine vc_ret [] [] ?_)
          | ((with_reducible first | refine vc_caseD (fun h => ?_) (fun h => ?_) | refine vc_caseN (fun h => ?_) (fun h => ?_)) <;> try (exfalso; omega))
          | ((with_reducible refine vc_case (fun h => ?_) (fun h => ?_)) <;> (try simp only [Go.Sym.vs1, reduceCtorEq] at h) <;> try (exfalso; first | omega | (simp at h; done)))))
  all_goals (try simp only [h1, h2])
  all_goals first
    | rfl
    | omega
    | (rw [w_shl x (by omega), w_shr x hn, w_or]; rfl)

theorem factors_ok : LocalCall Try.prog 102 [] [] [] (one [.d (.arr 64 1 (sK.map wD))]) [] := by
  refine vc_fn mixed Try.func102 rfl rfl [] (vc_chk rfl) ?_
  repeat' (first
      | ((with_reducible refine vc_chk ?_); first | decide +kernel | rfl)
      | (with_reducible refine vc_side0 ?_; rfl)
      | (with_reducible first
           | refine vc_true ?_ | refine vc_true2 ?_ | refine vc_side ?_ ?_ | refine vc_triv | refine vc_later ?_ | refine vc_caseT ?_ | refine vc_caseF ?_ | refine vc_cons ?_ | refine vc_nil ?_ ?_ | refine vc_seq ?_
              | refine vc_region ?_ | refine vc_cond ?_ | refine vc_block ?_ | refine vc_retc ?_ | refine vc_exit ?_ | refine vc_skip ?_ | refine vc_scope ?_ | refine vc_label ?_ | refine vc_goto ?_ | refine vc_wkSl0
              | refine vc_wkHp0 | refine vc_eqAVs0 | refine vc_preG0 | refine vc_wkSl ?_ ?_ | refine vc_wkHp ?_ ?_ | refine vc_eqAVs ?_ ?_ | refine vc_preG ?_ ?_ | refine vc_side0 ?_ | refine vc_weakf [] ?_ ?_ ?_
              | refine vc_and ?_ ?_ | refine vc_ret [] [] ?_)
      | ((with_reducible first | refine vc_caseD (fun h => ?_) (fun h => ?_) | refine vc_caseN (fun h => ?_) (fun h => ?_)) <;> try (exfalso; omega))
      | ((with_reducible refine vc_case (fun h => ?_) (fun h => ?_)) <;> (try simp only [Go.Sym.vs1, reduceCtorEq] at h) <;> try (exfalso; first | omega | (simp at h; done)))
      | (conv in Vc _ => arg 1; whnf
         first
          | (with_reducible refine vc_side0 ?_; rfl)
          | (with_reducible first
              | refine vc_true ?_ | refine vc_true2 ?_ | refine vc_side ?_ ?_ | refine vc_triv | refine vc_later ?_ | refine vc_caseT ?_ | refine vc_caseF ?_ | refine vc_cons ?_ | refine vc_nil ?_ ?_ | refine vc_seq ?_
                 | refine vc_region ?_ | refine vc_cond ?_ | refine vc_block ?_ | refine vc_retc ?_ | refine vc_exit ?_ | refine vc_skip ?_ | refine vc_scope ?_ | refine vc_label ?_ | refine vc_goto ?_ | refine vc_wkSl0
                 | refine vc_wkHp0 | refine vc_eqAVs0 | refine vc_preG0 | refine vc_wkSl ?_ ?_ | refine vc_wkHp ?_ ?_ | refine vc_eqAVs ?_ ?_ | refine vc_preG ?_ ?_ | refine vc_side0 ?_ | refine vc_weakf [] ?_ ?_ ?_
                 | refine vc_and ?_ ?_ | refine vc_ret [] [] ?_)
          | ((with_reducible first | refine vc_caseD (fun h => ?_) (fun h => ?_) | refine vc_caseN (fun h => ?_) (fun h => ?_)) <;> try (exfalso; omega))
          | ((with_reducible refine vc_case (fun h => ?_) (fun h => ?_)) <;> (try simp only [Go.Sym.vs1, reduceCtorEq] at h) <;> try (exfalso; first | omega | (simp at h; done)))))
  all_goals first
    | rfl
    | ((repeat' apply And.intro) <;> first | trivial | decide)

theorem round_ok : LocalCall Try.prog 95 [] [] [] (one [.d (.arr 64 1 (sK.map wD))]) [] := by
  refine vc_fn mixed Try.func95 rfl rfl [] (vc_chk rfl) ?_
  repeat' (first
      | ((with_reducible refine vc_chk ?_); first | decide +kernel | rfl)
      | (with_reducible refine vc_side0 ?_; rfl)
      | (with_reducible first
           | refine vc_true ?_ | refine vc_true2 ?_ | refine vc_side ?_ ?_ | refine vc_triv | refine vc_later ?_ | refine vc_caseT ?_ | refine vc_caseF ?_ | refine vc_cons ?_ | refine vc_nil ?_ ?_ | refine vc_seq ?_
              | refine vc_region ?_ | refine vc_cond ?_ | refine vc_block ?_ | refine vc_retc ?_ | refine vc_exit ?_ | refine vc_skip ?_ | refine vc_scope ?_ | refine vc_label ?_ | refine vc_goto ?_ | refine vc_wkSl0
              | refine vc_wkHp0 | refine vc_eqAVs0 | refine vc_preG0 | refine vc_wkSl ?_ ?_ | refine vc_wkHp ?_ ?_ | refine vc_eqAVs ?_ ?_ | refine vc_preG ?_ ?_ | refine vc_side0 ?_ | refine vc_weakf [] ?_ ?_ ?_
              | refine vc_and ?_ ?_ | refine vc_ret [] [] ?_)
      | ((with_reducible first | refine vc_caseD (fun h => ?_) (fun h => ?_) | refine vc_caseN (fun h => ?_) (fun h => ?_)) <;> try (exfalso; omega))
      | ((with_reducible refine vc_case (fun h => ?_) (fun h => ?_)) <;> (try simp only [Go.Sym.vs1, reduceCtorEq] at h) <;> try (exfalso; first | omega | (simp at h; done)))
      | (conv in Vc _ => arg 1; whnf
         first
          | (with_reducible refine vc_side0 ?_; rfl)
          | (with_reducible first
              | refine vc_true ?_ | refine vc_true2 ?_ | refine vc_side ?_ ?_ | refine vc_triv | refine vc_later ?_ | refine vc_caseT ?_ | refine vc_caseF ?_ | refine vc_cons ?_ | refine vc_nil ?_ ?_ | refine vc_seq ?_
                 | refine vc_region ?_ | refine vc_cond ?_ | refine vc_block ?_ | refine vc_retc ?_ | refine vc_exit ?_ | refine vc_skip ?_ | refine vc_scope ?_ | refine vc_label ?_ | refine vc_goto ?_ | refine vc_wkSl0
                 | refine vc_wkHp0 | refine vc_eqAVs0 | refine vc_preG0 | refine vc_wkSl ?_ ?_ | refine vc_wkHp ?_ ?_ | refine vc_eqAVs ?_ ?_ | refine vc_preG ?_ ?_ | refine vc_side0 ?_ | refine vc_weakf [] ?_ ?_ ?_
                 | refine vc_and ?_ ?_ | refine vc_ret [] [] ?_)
          | ((with_reducible first | refine vc_caseD (fun h => ?_) (fun h => ?_) | refine vc_caseN (fun h => ?_) (fun h => ?_)) <;> try (exfalso; omega))
          | ((with_reducible refine vc_case (fun h => ?_) (fun h => ?_)) <;> (try simp only [Go.Sym.vs1, reduceCtorEq] at h) <;> try (exfalso; first | omega | (simp at h; done)))))
  all_goals first
    | rfl
    | ((repeat' apply And.intro) <;> first | trivial | decide)

theorem first_ok : LocalCall Try.prog 87 [] [] [] (one [.d (.arr 8 1 (sFirst.map wD))]) [] := by
  refine vc_fn mixed Try.func87 rfl rfl [] (vc_chk rfl) ?_
  repeat' (first
      | ((with_reducible refine vc_chk ?_); first | decide +kernel | rfl)
      | (with_reducible refine vc_side0 ?_; rfl)
      | (with_reducible first
           | refine vc_true ?_ | refine vc_true2 ?_ | refine vc_side ?_ ?_ | refine vc_triv | refine vc_later ?_ | refine vc_caseT ?_ | refine vc_caseF ?_ | refine vc_cons ?_ | refine vc_nil ?_ ?_ | refine vc_seq ?_
              | refine vc_region ?_ | refine vc_cond ?_ | refine vc_block ?_ | refine vc_retc ?_ | refine vc_exit ?_ | refine vc_skip ?_ | refine vc_scope ?_ | refine vc_label ?_ | refine vc_goto ?_ | refine vc_wkSl0
              | refine vc_wkHp0 | refine vc_eqAVs0 | refine vc_preG0 | refine vc_wkSl ?_ ?_ | refine vc_wkHp ?_ ?_ | refine vc_eqAVs ?_ ?_ | refine vc_preG ?_ ?_ | refine vc_side0 ?_ | refine vc_weakf [] ?_ ?_ ?_
              | refine vc_and ?_ ?_ | refine vc_ret [] [] ?_)
      | ((with_reducible first | refine vc_caseD (fun h => ?_) (fun h => ?_) | refine vc_caseN (fun h => ?_) (fun h => ?_)) <;> try (exfalso; omega))
      | ((with_reducible refine vc_case (fun h => ?_) (fun h => ?_)) <;> (try simp only [Go.Sym.vs1, reduceCtorEq] at h) <;> try (exfalso; first | omega | (simp at h; done)))
      | (conv in Vc _ => arg 1; whnf
         first
          | (with_reducible refine vc_side0 ?_; rfl)
          | (with_reducible first
              | refine vc_true ?_ | refine vc_true2 ?_ | refine vc_side ?_ ?_ | refine vc_triv | refine vc_later ?_ | refine vc_caseT ?_ | refine vc_caseF ?_ | refine vc_cons ?_ | refine vc_nil ?_ ?_ | refine vc_seq ?_
                 | refine vc_region ?_ | refine vc_cond ?_ | refine vc_block ?_ | refine vc_retc ?_ | refine vc_exit ?_ | refine vc_skip ?_ | refine vc_scope ?_ | refine vc_label ?_ | refine vc_goto ?_ | refine vc_wkSl0
                 | refine vc_wkHp0 | refine vc_eqAVs0 | refine vc_preG0 | refine vc_wkSl ?_ ?_ | refine vc_wkHp ?_ ?_ | refine vc_eqAVs ?_ ?_ | refine vc_preG ?_ ?_ | refine vc_side0 ?_ | refine vc_weakf [] ?_ ?_ ?_
                 | refine vc_and ?_ ?_ | refine vc_ret [] [] ?_)
          | ((with_reducible first | refine vc_caseD (fun h => ?_) (fun h => ?_) | refine vc_caseN (fun h => ?_) (fun h => ?_)) <;> try (exfalso; omega))
          | ((with_reducible refine vc_case (fun h => ?_) (fun h => ?_)) <;> (try simp only [Go.Sym.vs1, reduceCtorEq] at h) <;> try (exfalso; first | omega | (simp at h; done)))))
  all_goals first
    | rfl
    | ((repeat' apply And.intro) <;> first | trivial | decide)

/-- What a hash holds. -/
def hsh (h : List W32) (bl : List UInt8) (hv n : Nat) : AObj := .var (.d (.st [.arr 8 1 (h.map wD), .arr 64 1 (bl.map byteD), .int .i64 (hv : Int), .int .u64 (n : Int)]))

def zero64 : List UInt8 := List.replicate 64 0

theorem new_ok : LocalCall Try.prog 91 [] [] [9] (one [.ptr 9 []]) [(9, hsh sFirst zero64 0 0)] := by
  refine vc_fn mixed Try.func91 rfl rfl [] (vc_chk rfl) ?_
  repeat' (first
      | ((with_reducible refine vc_chk ?_); first | decide +kernel | rfl)
      | (with_reducible refine vc_side0 ?_; rfl)
      | (with_reducible first
           | refine vc_true ?_ | refine vc_true2 ?_ | refine vc_side ?_ ?_ | refine vc_triv | refine vc_later ?_ | refine vc_caseT ?_ | refine vc_caseF ?_ | refine vc_cons ?_ | refine vc_nil ?_ ?_ | refine vc_seq ?_
              | refine vc_region ?_ | refine vc_cond ?_ | refine vc_block ?_ | refine vc_retc ?_ | refine vc_exit ?_ | refine vc_skip ?_ | refine vc_scope ?_ | refine vc_label ?_ | refine vc_goto ?_ | refine vc_wkSl0
              | refine vc_wkHp0 | refine vc_eqAVs0 | refine vc_preG0 | refine vc_wkSl ?_ ?_ | refine vc_wkHp ?_ ?_ | refine vc_eqAVs ?_ ?_ | refine vc_preG ?_ ?_ | refine vc_side0 ?_ | refine vc_ret [] [(9, 2008)] ?_
              | refine vc_weakf [] ?_ ?_ ?_ | refine vc_and ?_ ?_ | refine vc_ret [] [] ?_)
      | ((with_reducible first | refine vc_caseD (fun h => ?_) (fun h => ?_) | refine vc_caseN (fun h => ?_) (fun h => ?_)) <;> try (exfalso; omega))
      | ((with_reducible refine vc_case (fun h => ?_) (fun h => ?_)) <;> (try simp only [Go.Sym.vs1, reduceCtorEq] at h) <;> try (exfalso; first | omega | (simp at h; done)))
      | (conv in Vc _ => arg 1; whnf
         first
          | (with_reducible refine vc_side0 ?_; rfl)
          | (with_reducible first
              | refine vc_true ?_ | refine vc_true2 ?_ | refine vc_side ?_ ?_ | refine vc_triv | refine vc_later ?_ | refine vc_caseT ?_ | refine vc_caseF ?_ | refine vc_cons ?_ | refine vc_nil ?_ ?_ | refine vc_seq ?_
                 | refine vc_region ?_ | refine vc_cond ?_ | refine vc_block ?_ | refine vc_retc ?_ | refine vc_exit ?_ | refine vc_skip ?_ | refine vc_scope ?_ | refine vc_label ?_ | refine vc_goto ?_ | refine vc_wkSl0
                 | refine vc_wkHp0 | refine vc_eqAVs0 | refine vc_preG0 | refine vc_wkSl ?_ ?_ | refine vc_wkHp ?_ ?_ | refine vc_eqAVs ?_ ?_ | refine vc_preG ?_ ?_ | refine vc_side0 ?_ | refine vc_ret [] [(9, 2008)] ?_
                 | refine vc_weakf [] ?_ ?_ ?_ | refine vc_and ?_ ?_ | refine vc_ret [] [] ?_)
          | ((with_reducible first | refine vc_caseD (fun h => ?_) (fun h => ?_) | refine vc_caseN (fun h => ?_) (fun h => ?_)) <;> try (exfalso; omega))
          | ((with_reducible refine vc_case (fun h => ?_) (fun h => ?_)) <;> (try simp only [Go.Sym.vs1, reduceCtorEq] at h) <;> try (exfalso; first | omega | (simp at h; done)))))
  all_goals first
    | rfl
    | ((repeat' apply And.intro) <;> first | trivial | decide)

theorem word_ok (h : List W32) (bl : List UInt8) (hv n : Nat) (hb : bl.length = 64) (t : Nat) (ht : t < 16) :
    LocalCall Try.prog 104 [.sl 9 [.fld 1 8] 1 (4 * t) (64 - 4 * t)] [(9, hsh h bl hv n)] [] (one [.d (.int .u32 (wI (wordAt bl t)))]) [] := by
  have hg : ∀ k, k < 64 → ((bl.map byteD).getD k .nilp) = .int .u8 ((bl.getD k 0).toNat : Int) := fun k hk => by rw [getD_byte (by omega)]; rfl
  refine vc_fn mixed Try.func104 rfl rfl [] (vc_chk rfl) ?_
  repeat' (first
      | ((with_reducible refine vc_chk ?_); first | decide +kernel | rfl)
      | (with_reducible refine vc_side0 ?_; rfl)
      | (with_reducible first
           | refine vc_true ?_ | refine vc_true2 ?_ | refine vc_side ?_ ?_ | refine vc_triv | refine vc_later ?_ | refine vc_caseT ?_ | refine vc_caseF ?_ | refine vc_cons ?_ | refine vc_nil ?_ ?_ | refine vc_seq ?_
              | refine vc_region ?_ | refine vc_cond ?_ | refine vc_block ?_ | refine vc_retc ?_ | refine vc_exit ?_ | refine vc_skip ?_ | refine vc_scope ?_ | refine vc_label ?_ | refine vc_goto ?_ | refine vc_wkSl0
              | refine vc_wkHp0 | refine vc_eqAVs0 | refine vc_preG0 | refine vc_wkSl ?_ ?_ | refine vc_wkHp ?_ ?_ | refine vc_eqAVs ?_ ?_ | refine vc_preG ?_ ?_ | refine vc_side0 ?_ | refine vc_weakf [] ?_ ?_ ?_
              | refine vc_and ?_ ?_ | refine vc_ret [] [] ?_)
      | ((with_reducible first | refine vc_caseD (fun h => ?_) (fun h => ?_) | refine vc_caseN (fun h => ?_) (fun h => ?_)) <;> try (exfalso; omega))
      | ((with_reducible refine vc_case (fun h => ?_) (fun h => ?_)) <;> (try simp only [Go.Sym.vs1, reduceCtorEq] at h) <;> try (exfalso; first | omega | (simp at h; done)))
      | (conv in Vc _ => arg 1; whnf
         first
          | (with_reducible refine vc_side0 ?_; rfl)
          | (with_reducible first
              | refine vc_true ?_ | refine vc_true2 ?_ | refine vc_side ?_ ?_ | refine vc_triv | refine vc_later ?_ | refine vc_caseT ?_ | refine vc_caseF ?_ | refine vc_cons ?_ | refine vc_nil ?_ ?_ | refine vc_seq ?_
                 | refine vc_region ?_ | refine vc_cond ?_ | refine vc_block ?_ | refine vc_retc ?_ | refine vc_exit ?_ | refine vc_skip ?_ | refine vc_scope ?_ | refine vc_label ?_ | refine vc_goto ?_ | refine vc_wkSl0
                 | refine vc_wkHp0 | refine vc_eqAVs0 | refine vc_preG0 | refine vc_wkSl ?_ ?_ | refine vc_wkHp ?_ ?_ | refine vc_eqAVs ?_ ?_ | refine vc_preG ?_ ?_ | refine vc_side0 ?_ | refine vc_weakf [] ?_ ?_ ?_
                 | refine vc_and ?_ ?_ | refine vc_ret [] [] ?_)
          | ((with_reducible first | refine vc_caseD (fun h => ?_) (fun h => ?_) | refine vc_caseN (fun h => ?_) (fun h => ?_)) <;> try (exfalso; omega))
          | ((with_reducible refine vc_case (fun h => ?_) (fun h => ?_)) <;> (try simp only [Go.Sym.vs1, reduceCtorEq] at h) <;> try (exfalso; first | omega | (simp at h; done)))))
  all_goals (try simp only [show Int.toNat 0 = 0 from rfl, show Int.toNat 1 = 1 from rfl, show Int.toNat 2 = 2 from rfl, show Int.toNat 3 = 3 from rfl, Nat.add_zero])
  all_goals first
    | exact ⟨by omega, by omega⟩
    | (show (0 : Int) ≤ _; omega)
    | (rw [hg _ (by omega)]; exact ⟨⟨by omega, trivial⟩, rfl⟩)
    | (rw [hg _ (by omega), hg _ (by omega), hg _ (by omega), hg _ (by omega)]
       simp only [D.toInt, bW_wrap]
       have s1 : ∀ x : W32, shlI .u32 (wI x) 24 = wI (x <<< 24) := fun x => w_shl x (k := 24) (by omega)
       have s2 : ∀ x : W32, shlI .u32 (wI x) 16 = wI (x <<< 16) := fun x => w_shl x (k := 16) (by omega)
       have s3 : ∀ x : W32, shlI .u32 (wI x) 8 = wI (x <<< 8) := fun x => w_shl x (k := 8) (by omega)
       rw [s1, s2, s3, w_or, w_or, w_or, word4_or]
       rfl)

end Go.Proofs.Ytcdjheiccefcdaa

/-
A block's words.
-/
set_option linter.unusedSimpArgs false
set_option linter.unusedVariables false
namespace Go.Proofs.Ytcdjheiccefcdaa
open Go.Sym
set_option maxRecDepth 10000
set_option maxHeartbeats 8000000

/-- Words, and noughts behind them. -/
def padW (ws : List W32) : List D := ws.map wD ++ List.replicate (64 - ws.length) (.int .u32 0)

theorem padW_set {ws : List W32} (h : ws.length < 64) (x : W32) : (padW ws).set ws.length (wD x) = padW (ws ++ [x]) := by
  unfold padW
  rw [List.set_append_right _ _ (by rw [List.length_map]; omega), List.length_map, Nat.sub_self]
  rw [show 64 - ws.length = (64 - (ws ++ [x]).length) + 1 by simp; omega, List.replicate_succ, List.set_cons_zero, List.map_append, List.append_assoc]
  rfl

theorem padW_get {ws : List W32} {k : Nat} (h : k < ws.length) : (padW ws).getD k .nilp = wD (ws.getD k 0) := by
  unfold padW
  rw [List.getD_eq_getElem?_getD, List.getElem?_append_left (by rw [List.length_map]; exact h), List.getElem?_map, List.getD_eq_getElem?_getD, List.getElem?_eq_getElem h]; rfl

theorem padW_full {ws : List W32} (h : ws.length = 64) : padW ws = ws.map wD := by
  unfold padW
  rw [h]; simp

theorem words_next (bl : List UInt8) (t : Nat) : (List.range t).map (wordAt bl) ++ [wordAt bl t] = (List.range (t + 1)).map (wordAt bl) := by
  rw [List.range_succ]; simp

theorem spread_ok (hs : List W32) (bl : List UInt8) (hv n : Nat) (hb : bl.length = 64) :
    LocalCall Try.prog 101 [.ptr 9 [.fld 1 8]] [(9, hsh hs bl hv n)] [] (one [.d (.arr 64 1 ((sched bl 48).map wD))]) [] := by
  have r0 : ∀ (m k : Nat), k < 16 + m → (padW (sched bl m)).getD k .nilp = wD ((sched bl m).getD k 0) := fun m k hk => padW_get (by rw [sched_length]; exact hk)
  have r1 : ∀ m : Nat, m < 48 → IntKind.i64.wrap (((16 + m : Nat) : Int) - 15) = ((m + 1 : Nat) : Int) := fun m hm => by rw [wrap64_id (by omega) (by omega)]; omega
  have r2 : ∀ m : Nat, m < 48 → IntKind.i64.wrap (((16 + m : Nat) : Int) - 2) = ((m + 14 : Nat) : Int) := fun m hm => by rw [wrap64_id (by omega) (by omega)]; omega
  have r3 : ∀ m : Nat, m < 48 → IntKind.i64.wrap (((16 + m : Nat) : Int) - 16) = ((m : Nat) : Int) := fun m hm => by rw [wrap64_id (by omega) (by omega)]; omega
  have r4 : ∀ m : Nat, m < 48 → IntKind.i64.wrap (((16 + m : Nat) : Int) - 7) = ((m + 9 : Nat) : Int) := fun m hm => by rw [wrap64_id (by omega) (by omega)]; omega
  have ga : ∀ m : Nat, m < 48 → ((padW (sched bl m)).getD (IntKind.i64.wrap (((16 + m : Nat) : Int) - 15)).toNat .nilp).toInt = wI ((sched bl m).getD (m + 1) 0) := fun m hm => by rw [r1 m hm, Int.toNat_natCast, r0 m _ (by omega)]; rfl
  have gb : ∀ m : Nat, m < 48 → ((padW (sched bl m)).getD (IntKind.i64.wrap (((16 + m : Nat) : Int) - 2)).toNat .nilp).toInt = wI ((sched bl m).getD (m + 14) 0) := fun m hm => by rw [r2 m hm, Int.toNat_natCast, r0 m _ (by omega)]; rfl
  have gc : ∀ m : Nat, m < 48 → ((padW (sched bl m)).getD (IntKind.i64.wrap (((16 + m : Nat) : Int) - 16)).toNat .nilp).toInt = wI ((sched bl m).getD m 0) := fun m hm => by rw [r3 m hm, Int.toNat_natCast, r0 m _ (by omega)]; rfl
  have gd : ∀ m : Nat, m < 48 → ((padW (sched bl m)).getD (IntKind.i64.wrap (((16 + m : Nat) : Int) - 7)).toNat .nilp).toInt = wI ((sched bl m).getD (m + 9) 0) := fun m hm => by rw [r4 m hm, Int.toNat_natCast, r0 m _ (by omega)]; rfl
  have r5 : ∀ t : Nat, t < 16 → IntKind.i64.wrap (4 * (t : Int)) = ((4 * t : Nat) : Int) := fun t ht => by rw [wrap64_id (by omega) (by omega)]; omega
  have r6 : ∀ t : Nat, t < 16 → (padW ((List.range t).map (wordAt bl))).set t (D.int .u32 (wI (wordAt bl t))) = padW ((List.range (t + 1)).map (wordAt bl)) := fun t ht => by
    have := padW_set (ws := (List.range t).map (wordAt bl)) (by simp; omega) (wordAt bl t)
    rw [words_next] at this
    simpa [wD] using this
  have r7 : ∀ m : Nat, m < 48 → (padW (sched bl m)).set (16 + m) (D.int .u32 (wI ((sched bl m).getD m 0 + (rotr ((sched bl m).getD (m + 1) 0) 7 ^^^ rotr ((sched bl m).getD (m + 1) 0) 18 ^^^ (sched bl m).getD (m + 1) 0 >>> 3) + (sched bl m).getD (m + 9) 0 + (rotr ((sched bl m).getD (m + 14) 0) 17 ^^^ rotr ((sched bl m).getD (m + 14) 0) 19 ^^^ (sched bl m).getD (m + 14) 0 >>> 10)))) = padW (sched bl (m + 1)) := fun m hm => by
    have := padW_set (ws := sched bl m) (by rw [sched_length]; omega) ((sched bl m).getD m 0 + low3 ((sched bl m).getD (m + 1) 0) + (sched bl m).getD (m + 9) 0 + high3 ((sched bl m).getD (m + 14) 0))
    rw [sched_length] at this
    exact this
  refine vc_fn mixed Try.func101 rfl rfl [] (vc_chk rfl) ?_
  repeat' (first
      | ((with_reducible refine vc_chk ?_); first | decide +kernel | rfl)
      | (with_reducible refine vc_side0 ?_; rfl)
      | (with_reducible first
           | refine vc_true ?_ | refine vc_true2 ?_ | refine vc_side ?_ ?_ | refine vc_triv | refine vc_later ?_ | refine vc_caseT ?_ | refine vc_caseF ?_ | refine vc_cons ?_ | refine vc_nil ?_ ?_ | refine vc_seq ?_
              | refine vc_region ?_ | refine vc_cond ?_ | refine vc_block ?_ | refine vc_retc ?_ | refine vc_exit ?_ | refine vc_skip ?_ | refine vc_scope ?_ | refine vc_label ?_ | refine vc_goto ?_ | refine vc_wkSl0
              | refine vc_wkHp0 | refine vc_eqAVs0 | refine vc_preG0 | refine vc_wkSl ?_ ?_ | refine vc_wkHp ?_ ?_ | refine vc_eqAVs ?_ ?_ | refine vc_preG ?_ ?_ | refine vc_side0 ?_
              | refine vc_loopI (y := .seq (.region 3 _ _) _) 66 (fun (t : Nat) => [(0, .ptr 9 [.fld 1 8]), (2, .ptr 1000 []), (3, .ptr 2000 []), (10, .d (.int .i64 (t : Int)))]) (fun t => [(9, hsh hs bl hv n), (1000, .var (.d (.arr 64 1 (List.replicate 64 (.int .u32 0))))), (2000, .var (.d (.arr 64 1 (padW ((List.range t).map (wordAt bl))))))]) (fun t => 16 - t) (fun t => t ≤ 16) 0 [] ?_ ?_ ?_ ?_ ?_ (fun t hI => ?_)
              | refine vc_call [] (word_ok hs bl hv n hb t (by omega)) ?_ | refine vc_nextI (t + 1) [] ?_ ?_ ?_ ?_ ?_ ?_
              | refine vc_loopI (y := .seq (.seq (.region 8 _ _) _) _) 66 (fun (t : Nat) => [(2, .ptr 1000 []), (3, .ptr 2000 []), (5, .d (.int .i64 ((16 + t : Nat) : Int)))]) (fun t => [(9, hsh hs bl hv n), (1000, .var (.d (.arr 64 1 (List.replicate 64 (.int .u32 0))))), (2000, .var (.d (.arr 64 1 (padW (sched bl t)))))]) (fun t => 48 - t) (fun t => t ≤ 48) 0 [] ?_ ?_ ?_ ?_ ?_ (fun t hM => ?_)
              | refine vc_pure (rot_ok (ga t (by omega)) (-7) 7 (by decide) (by decide) (by decide)) ?_ ?_ ?_ | refine vc_pure (rot_ok (ga t (by omega)) (-18) 18 (by decide) (by decide) (by decide)) ?_ ?_ ?_
              | refine vc_pure (rot_ok (gb t (by omega)) (-17) 17 (by decide) (by decide) (by decide)) ?_ ?_ ?_ | refine vc_pure (rot_ok (gb t (by omega)) (-19) 19 (by decide) (by decide) (by decide)) ?_ ?_ ?_
              | refine vc_weakf [] ?_ ?_ ?_ | refine vc_and ?_ ?_ | refine vc_ret [] [] ?_)
      | ((with_reducible first | refine vc_caseD (fun h => ?_) (fun h => ?_) | refine vc_caseN (fun h => ?_) (fun h => ?_)) <;> try (exfalso; omega))
      | ((with_reducible refine vc_case (fun h => ?_) (fun h => ?_)) <;> (try simp only [Go.Sym.vs1, reduceCtorEq] at h) <;> try (exfalso; first | omega | (simp at h; done)))
      | (conv in Vc _ => arg 1; whnf
         first
          | (with_reducible refine vc_side0 ?_; rfl)
          | (with_reducible first
              | refine vc_true ?_ | refine vc_true2 ?_ | refine vc_side ?_ ?_ | refine vc_triv | refine vc_later ?_ | refine vc_caseT ?_ | refine vc_caseF ?_ | refine vc_cons ?_ | refine vc_nil ?_ ?_ | refine vc_seq ?_
                 | refine vc_region ?_ | refine vc_cond ?_ | refine vc_block ?_ | refine vc_retc ?_ | refine vc_exit ?_ | refine vc_skip ?_ | refine vc_scope ?_ | refine vc_label ?_ | refine vc_goto ?_ | refine vc_wkSl0
                 | refine vc_wkHp0 | refine vc_eqAVs0 | refine vc_preG0 | refine vc_wkSl ?_ ?_ | refine vc_wkHp ?_ ?_ | refine vc_eqAVs ?_ ?_ | refine vc_preG ?_ ?_ | refine vc_side0 ?_
                 | refine vc_loopI (y := .seq (.region 3 _ _) _) 66 (fun (t : Nat) => [(0, .ptr 9 [.fld 1 8]), (2, .ptr 1000 []), (3, .ptr 2000 []), (10, .d (.int .i64 (t : Int)))]) (fun t => [(9, hsh hs bl hv n), (1000, .var (.d (.arr 64 1 (List.replicate 64 (.int .u32 0))))), (2000, .var (.d (.arr 64 1 (padW ((List.range t).map (wordAt bl))))))]) (fun t => 16 - t) (fun t => t ≤ 16) 0 [] ?_ ?_ ?_ ?_ ?_ (fun t hI => ?_)
                 | refine vc_call [] (word_ok hs bl hv n hb t (by omega)) ?_ | refine vc_nextI (t + 1) [] ?_ ?_ ?_ ?_ ?_ ?_
                 | refine vc_loopI (y := .seq (.seq (.region 8 _ _) _) _) 66 (fun (t : Nat) => [(2, .ptr 1000 []), (3, .ptr 2000 []), (5, .d (.int .i64 ((16 + t : Nat) : Int)))]) (fun t => [(9, hsh hs bl hv n), (1000, .var (.d (.arr 64 1 (List.replicate 64 (.int .u32 0))))), (2000, .var (.d (.arr 64 1 (padW (sched bl t)))))]) (fun t => 48 - t) (fun t => t ≤ 48) 0 [] ?_ ?_ ?_ ?_ ?_ (fun t hM => ?_)
                 | refine vc_pure (rot_ok (ga t (by omega)) (-7) 7 (by decide) (by decide) (by decide)) ?_ ?_ ?_ | refine vc_pure (rot_ok (ga t (by omega)) (-18) 18 (by decide) (by decide) (by decide)) ?_ ?_ ?_
                 | refine vc_pure (rot_ok (gb t (by omega)) (-17) 17 (by decide) (by decide) (by decide)) ?_ ?_ ?_ | refine vc_pure (rot_ok (gb t (by omega)) (-19) 19 (by decide) (by decide) (by decide)) ?_ ?_ ?_
                 | refine vc_weakf [] ?_ ?_ ?_ | refine vc_and ?_ ?_ | refine vc_ret [] [] ?_)
          | ((with_reducible first | refine vc_caseD (fun h => ?_) (fun h => ?_) | refine vc_caseN (fun h => ?_) (fun h => ?_)) <;> try (exfalso; omega))
          | ((with_reducible refine vc_case (fun h => ?_) (fun h => ?_)) <;> (try simp only [Go.Sym.vs1, reduceCtorEq] at h) <;> try (exfalso; first | omega | (simp at h; done)))))
  all_goals (try dsimp only)
  all_goals first
    | with_reducible rfl
    | omega
    | (show (0 : Int) ≤ _; decide)
    | exact ⟨by omega, by omega⟩
    | (show D.int .i64 _ = D.int .i64 _; first | rfl | (congr 1; rw [wrap64_id (by omega) (by omega)]; omega))
    | skip
  all_goals first
    | (have hm := hM
       first
       | (obtain rfl : t = 48 := by omega
          rw [padW_full (sched_length bl 48)]; done)
       | (simp only [r1 t (by omega), r2 t (by omega), r3 t (by omega), r4 t (by omega), Int.toNat_natCast]
          first
          | exact ⟨by omega, by omega⟩
          | (rw [r0 t _ (by omega)]; exact ⟨⟨by omega, trivial⟩, rfl⟩))
       | (rw [ga t (by omega), gb t (by omega), gc t (by omega), gd t (by omega)]
          have s1 : ∀ x : W32, shrI .u32 (wI x) 3 = wI (x >>> 3) := fun x => w_shr x (k := 3) (by omega)
          have s2 : ∀ x : W32, shrI .u32 (wI x) 10 = wI (x >>> 10) := fun x => w_shr x (k := 10) (by omega)
          simp only [s1, s2, w_xor, w_add, Int.toNat_natCast]
          exact congrArg (D.arr 64 1) (r7 t (by omega)))
       | skip)
    | (have ht := hI
       first
       | (rw [r5 t (by omega)]; first | omega | exact ⟨⟨by omega, by omega, by omega⟩, trivial⟩)
       | (rw [Int.toNat_natCast]; exact congrArg (D.arr 64 1) (r6 t (by omega)))
       | (have e : t = 16 := by omega
          subst e
          exact congrArg (D.arr 64 1) rfl)
       | skip)
    | rfl
    | skip

end Go.Proofs.Ytcdjheiccefcdaa

/-
A block taken in.
-/
set_option linter.unusedSimpArgs false
set_option linter.unusedVariables false
namespace Go.Proofs.Ytcdjheiccefcdaa
open Go.Sym
set_option maxRecDepth 10000
set_option maxHeartbeats 8000000

theorem words8 {v : List W32} (h : v.length = 8) : ∃ a b c d e f g i, v = [a, b, c, d, e, f, g, i] := by
  match v, h with
  | [a, b, c, d, e, f, g, i], _ => exact ⟨a, b, c, d, e, f, g, i, rfl⟩

theorem w8_get {v : List W32} (k : Nat) (hk : k < v.length) : (v.map wD).getD k .nilp = wD (v.getD k 0) := by
  rw [List.getD_eq_getElem?_getD, List.getElem?_map, List.getD_eq_getElem?_getD, List.getElem?_eq_getElem hk]; rfl

/-- The words moved by one. -/
def over8 (v : List W32) : List D := overD (v.map wD) ((v.map wD).take 7) 1 7

theorem over8_four {v : List W32} (h : v.length = 8) : (over8 v).getD 4 .nilp = wD (v.getD 3 0) := by
  obtain ⟨a, b, c, d, e, f, g, i, rfl⟩ := words8 h
  rfl

theorem over8_set {v : List W32} (h : v.length = 8) (x y : W32) : ((over8 v).set 0 (wD x)).set 4 (wD y) = [x, v.getD 0 0, v.getD 1 0, v.getD 2 0, y, v.getD 4 0, v.getD 5 0, v.getD 6 0].map wD := by
  obtain ⟨a, b, c, d, e, f, g, i, rfl⟩ := words8 h
  rfl

theorem addW_get (h v : List W32) {i : Nat} (hi : i < 8) : (addW h v i).getD i 0 = h.getD i 0 := by
  unfold addW
  rw [List.getD_eq_getElem?_getD, List.getElem?_map, List.getElem?_range hi]
  simp

theorem addW_length (h v : List W32) (i : Nat) : (addW h v i).length = 8 := by simp [addW]

theorem addW_set (h v : List W32) {i : Nat} (hi : i < 8) : ((addW h v i).map wD).set i (wD (h.getD i 0 + v.getD i 0)) = (addW h v (i + 1)).map wD := by
  rw [← List.map_set]
  congr 1
  apply List.ext_getElem?
  intro k
  unfold addW
  rw [List.getElem?_set]
  by_cases hk : i = k
  · subst hk
    simp [hi]
  · rw [if_neg hk, List.getElem?_map, List.getElem?_map]
    by_cases h8 : k < 8
    · rw [List.getElem?_range h8]
      have : decide (k < i) = decide (k < i + 1) := by
        by_cases h1 : k < i
        · rw [decide_eq_true h1, decide_eq_true (show k < i + 1 by omega)]
        · rw [decide_eq_false h1, decide_eq_false (show ¬ k < i + 1 by omega)]
      simp [this]
    · rw [List.getElem?_eq_none (by simpa using h8)]; rfl

theorem addW_zero {h : List W32} (v : List W32) (hh : h.length = 8) : addW h v 0 = h := by
  obtain ⟨a, b, c, d, e, f, g, i, rfl⟩ := words8 hh
  rfl

theorem over8_eq {v : List W32} (h : v.length = 8) : overD (v.map wD) (List.take (7 - 0) (List.drop 0 (v.map wD))) 1 (min (List.take (7 - 0) (List.drop 0 (v.map wD))).length (8 - 1)) = over8 v := by
  obtain ⟨a, b, c, d, e, f, g, i, rfl⟩ := words8 h
  rfl

theorem n0 : Int.toNat 0 = 0 := rfl
theorem n1 : Int.toNat 1 = 1 := rfl
theorem n2 : Int.toNat 2 = 2 := rfl
theorem n3 : Int.toNat 3 = 3 := rfl
theorem n4 : Int.toNat 4 = 4 := rfl
theorem n5 : Int.toNat 5 = 5 := rfl
theorem n6 : Int.toNat 6 = 6 := rfl
theorem n7 : Int.toNat 7 = 7 := rfl
theorem n8 : (((8 : Nat) : Int)).toNat = 8 := rfl

theorem mix_ok (hs : List W32) (bl : List UInt8) (hv n : Nat) (hh : hs.length = 8) (hb : bl.length = 64) :
    LocalCall Try.prog 98 [.ptr 9 []] [(9, hsh hs bl hv n)] [] (one []) [(9, hsh (sblock hs bl) bl 0 n)] := by
  have hV : ∀ t, (srounds sK (sched bl 48) hs t).length = 8 := srounds_length _ _ hh
  have g : ∀ t k, k < 8 → ((srounds sK (sched bl 48) hs t).map wD).getD k .nilp = wD ((srounds sK (sched bl 48) hs t).getD k 0) := fun t k hk => w8_get k (by rw [hV]; exact hk)
  have g0 : ∀ t, (((srounds sK (sched bl 48) hs t).map wD).getD (Int.toNat 0) .nilp).toInt = wI ((srounds sK (sched bl 48) hs t).getD 0 0) := fun t => by rw [show Int.toNat 0 = 0 from rfl, g t 0 (by omega)]; rfl
  have g4 : ∀ t, (((srounds sK (sched bl 48) hs t).map wD).getD (Int.toNat 4) .nilp).toInt = wI ((srounds sK (sched bl 48) hs t).getD 4 0) := fun t => by rw [show Int.toNat 4 = 4 from rfl, g t 4 (by omega)]; rfl
  refine vc_fn mixed Try.func98 rfl rfl [] (vc_chk rfl) ?_
  repeat' (first
      | ((with_reducible refine vc_chk ?_); first | decide +kernel | rfl)
      | (with_reducible refine vc_side0 ?_; rfl)
      | (with_reducible first
           | refine vc_true ?_ | refine vc_true2 ?_ | refine vc_side ?_ ?_ | refine vc_triv | refine vc_later ?_ | refine vc_caseT ?_ | refine vc_caseF ?_ | refine vc_cons ?_ | refine vc_nil ?_ ?_ | refine vc_seq ?_
              | refine vc_region ?_ | refine vc_cond ?_ | refine vc_block ?_ | refine vc_retc ?_ | refine vc_exit ?_ | refine vc_skip ?_ | refine vc_scope ?_ | refine vc_label ?_ | refine vc_goto ?_ | refine vc_wkSl0
              | refine vc_wkHp0 | refine vc_eqAVs0 | refine vc_preG0 | refine vc_wkSl ?_ ?_ | refine vc_wkHp ?_ ?_ | refine vc_eqAVs ?_ ?_ | refine vc_preG ?_ ?_ | refine vc_side0 ?_
              | refine vc_call [] (spread_ok hs bl hv n hb) ?_ | refine vc_pure factors_ok ?_ ?_ ?_
              | refine vc_loopI (y := .seq (.region 2 _ _) _) 115 (fun (t : Nat) => [(0, .ptr 9 []), (2, .ptr 1036 []), (3, .ptr 1040 []), (4, .ptr 1044 []), (21, .d (.int .i64 (t : Int)))]) (fun t => [(9, hsh hs bl hv n), (1036, .var (.d (.arr 64 1 ((sched bl 48).map wD)))), (1040, .var (.d (.arr 64 1 (sK.map wD)))), (1044, .var (.d (.arr 8 1 ((srounds sK (sched bl 48) hs t).map wD))))]) (fun t => 64 - t) (fun t => t ≤ 64) 0 [] ?_ ?_ ?_ ?_ ?_ (fun t hI => ?_)
              | refine vc_loopI (y := .seq (.region 11 _ _) _) 115 (fun (t : Nat) => [(0, .ptr 9 []), (95, .d (.arr 8 1 ((srounds sK (sched bl 48) hs 64).map wD))), (96, .d (.int .i64 (t : Int)))]) (fun t => [(9, hsh (addW hs (srounds sK (sched bl 48) hs 64) t) bl hv n)]) (fun t => 8 - t) (fun t => t ≤ 8) 0 [] ?_ ?_ ?_ ?_ ?_ (fun t hM => ?_)
              | refine vc_nextI (t + 1) [] ?_ ?_ ?_ ?_ ?_ ?_ | refine vc_pure (rot_ok (g0 t) (-2) 2 (by decide) (by decide) (by decide)) ?_ ?_ ?_
              | refine vc_pure (rot_ok (g0 t) (-13) 13 (by decide) (by decide) (by decide)) ?_ ?_ ?_ | refine vc_pure (rot_ok (g0 t) (-22) 22 (by decide) (by decide) (by decide)) ?_ ?_ ?_
              | refine vc_pure (rot_ok (g4 t) (-6) 6 (by decide) (by decide) (by decide)) ?_ ?_ ?_ | refine vc_pure (rot_ok (g4 t) (-11) 11 (by decide) (by decide) (by decide)) ?_ ?_ ?_
              | refine vc_pure (rot_ok (g4 t) (-25) 25 (by decide) (by decide) (by decide)) ?_ ?_ ?_ | refine vc_weakf [] ?_ ?_ ?_ | refine vc_and ?_ ?_ | refine vc_ret [] [] ?_)
      | ((with_reducible first | refine vc_caseD (fun h => ?_) (fun h => ?_) | refine vc_caseN (fun h => ?_) (fun h => ?_)) <;> try (exfalso; omega))
      | ((with_reducible refine vc_case (fun h => ?_) (fun h => ?_)) <;> (try simp only [Go.Sym.vs1, reduceCtorEq] at h) <;> try (exfalso; first | omega | (simp at h; done)))
      | (conv in Vc _ => arg 1; whnf
         first
          | (with_reducible refine vc_side0 ?_; rfl)
          | (with_reducible first
              | refine vc_true ?_ | refine vc_true2 ?_ | refine vc_side ?_ ?_ | refine vc_triv | refine vc_later ?_ | refine vc_caseT ?_ | refine vc_caseF ?_ | refine vc_cons ?_ | refine vc_nil ?_ ?_ | refine vc_seq ?_
                 | refine vc_region ?_ | refine vc_cond ?_ | refine vc_block ?_ | refine vc_retc ?_ | refine vc_exit ?_ | refine vc_skip ?_ | refine vc_scope ?_ | refine vc_label ?_ | refine vc_goto ?_ | refine vc_wkSl0
                 | refine vc_wkHp0 | refine vc_eqAVs0 | refine vc_preG0 | refine vc_wkSl ?_ ?_ | refine vc_wkHp ?_ ?_ | refine vc_eqAVs ?_ ?_ | refine vc_preG ?_ ?_ | refine vc_side0 ?_
                 | refine vc_call [] (spread_ok hs bl hv n hb) ?_ | refine vc_pure factors_ok ?_ ?_ ?_
                 | refine vc_loopI (y := .seq (.region 2 _ _) _) 115 (fun (t : Nat) => [(0, .ptr 9 []), (2, .ptr 1036 []), (3, .ptr 1040 []), (4, .ptr 1044 []), (21, .d (.int .i64 (t : Int)))]) (fun t => [(9, hsh hs bl hv n), (1036, .var (.d (.arr 64 1 ((sched bl 48).map wD)))), (1040, .var (.d (.arr 64 1 (sK.map wD)))), (1044, .var (.d (.arr 8 1 ((srounds sK (sched bl 48) hs t).map wD))))]) (fun t => 64 - t) (fun t => t ≤ 64) 0 [] ?_ ?_ ?_ ?_ ?_ (fun t hI => ?_)
                 | refine vc_loopI (y := .seq (.region 11 _ _) _) 115 (fun (t : Nat) => [(0, .ptr 9 []), (95, .d (.arr 8 1 ((srounds sK (sched bl 48) hs 64).map wD))), (96, .d (.int .i64 (t : Int)))]) (fun t => [(9, hsh (addW hs (srounds sK (sched bl 48) hs 64) t) bl hv n)]) (fun t => 8 - t) (fun t => t ≤ 8) 0 [] ?_ ?_ ?_ ?_ ?_ (fun t hM => ?_)
                 | refine vc_nextI (t + 1) [] ?_ ?_ ?_ ?_ ?_ ?_ | refine vc_pure (rot_ok (g0 t) (-2) 2 (by decide) (by decide) (by decide)) ?_ ?_ ?_
                 | refine vc_pure (rot_ok (g0 t) (-13) 13 (by decide) (by decide) (by decide)) ?_ ?_ ?_ | refine vc_pure (rot_ok (g0 t) (-22) 22 (by decide) (by decide) (by decide)) ?_ ?_ ?_
                 | refine vc_pure (rot_ok (g4 t) (-6) 6 (by decide) (by decide) (by decide)) ?_ ?_ ?_ | refine vc_pure (rot_ok (g4 t) (-11) 11 (by decide) (by decide) (by decide)) ?_ ?_ ?_
                 | refine vc_pure (rot_ok (g4 t) (-25) 25 (by decide) (by decide) (by decide)) ?_ ?_ ?_ | refine vc_weakf [] ?_ ?_ ?_ | refine vc_and ?_ ?_ | refine vc_ret [] [] ?_)
          | ((with_reducible first | refine vc_caseD (fun h => ?_) (fun h => ?_) | refine vc_caseN (fun h => ?_) (fun h => ?_)) <;> try (exfalso; omega))
          | ((with_reducible refine vc_case (fun h => ?_) (fun h => ?_)) <;> (try simp only [Go.Sym.vs1, reduceCtorEq] at h) <;> try (exfalso; first | omega | (simp at h; done)))))
  all_goals (try dsimp only)
  all_goals first
    | with_reducible rfl
    | omega
    | exact ⟨by omega, by omega⟩
    | exact ⟨⟨by omega, by omega, by omega⟩, trivial⟩
    | (show D.int .i64 _ = D.int .i64 _; first | rfl | (congr 1; rw [wrap64_id (by omega) (by omega)]; omega))
    | skip
  all_goals first
    | (have hm := hM
       first
       | (have ht : t < 8 := by omega
          rw [Int.toNat_natCast, w8_get t (by rw [hV]; exact ht)]
          exact ⟨⟨by omega, by omega⟩, rfl⟩)
       | (have ht : t < 8 := by omega
          rw [Int.toNat_natCast, w8_get t (by rw [addW_length]; exact ht)]
          exact ⟨⟨by omega, trivial⟩, rfl⟩)
       | (have ht : t < 8 := by omega
          have a1 := w8_get (v := srounds sK (sched bl 48) hs 64) t (by rw [hV]; exact ht)
          have a2 := w8_get (v := addW hs (srounds sK (sched bl 48) hs 64) t) t (by rw [addW_length]; exact ht)
          rw [Int.toNat_natCast, a1, a2, addW_get _ _ ht]
          have e1 : (wD (hs.getD t 0)).toInt = wI (hs.getD t 0) := rfl
          have e2 : (wD ((srounds sK (sched bl 48) hs 64).getD t 0)).toInt = wI ((srounds sK (sched bl 48) hs 64).getD t 0) := rfl
          rw [e1, e2, w_add]
          have e3 := addW_set hs (srounds sK (sched bl 48) hs 64) ht
          have e4 : wD (hs.getD t 0 + (srounds sK (sched bl 48) hs 64).getD t 0) = D.int .u32 (wI (hs.getD t 0 + (srounds sK (sched bl 48) hs 64).getD t 0)) := rfl
          rw [← e4, e3]; done)
       | (have e : t = 8 := by omega
          subst e
          rfl)
       | skip)
    | (have ht := hI
       (try simp only [n0, n1, n2, n3, n4, n5, n6, n7, n8, over8_eq (hV t), Int.toNat_natCast])
       first
       | (rw [g t _ (by omega)]; exact ⟨⟨by omega, trivial⟩, rfl⟩)
       | (rw [w8_get t (by rw [sched_length]; omega)]; exact ⟨⟨by omega, trivial⟩, rfl⟩)
       | (rw [w8_get t (show t < sK.length from (by omega : t < 64))]; exact ⟨⟨by omega, trivial⟩, rfl⟩)
       | (rw [over8_four (hV t)]; exact ⟨⟨by omega, trivial⟩, rfl⟩)
       | (refine ⟨⟨⟨⟨trivial, ?_⟩, trivial, trivial⟩, ?_⟩, fun y hy => ?_⟩
          · rw [List.length_map, hV t]; omega
          · rw [List.length_map, hV t]; omega
          · obtain ⟨c, _, rfl⟩ := List.mem_map.1 (List.mem_of_mem_drop (List.mem_of_mem_take hy)); rfl)
       | (have gi : ∀ k, k < 8 → (((srounds sK (sched bl 48) hs t).map wD).getD k .nilp).toInt = wI ((srounds sK (sched bl 48) hs t).getD k 0) := fun k hk => by rw [g t k hk]; rfl
          have gk : ((sK.map wD).getD t .nilp).toInt = wI (sK.getD t 0) := by rw [w8_get t (show t < sK.length from (by omega : t < 64))]; rfl
          have gw : (((sched bl 48).map wD).getD t .nilp).toInt = wI ((sched bl 48).getD t 0) := by rw [w8_get t (by rw [sched_length]; omega)]; rfl
          have go : ((over8 (srounds sK (sched bl 48) hs t)).getD 4 .nilp).toInt = wI ((srounds sK (sched bl 48) hs t).getD 3 0) := by rw [over8_four (hV t)]; rfl
          simp only [gi 0 (by omega), gi 1 (by omega), gi 2 (by omega), gi 4 (by omega), gi 5 (by omega), gi 6 (by omega), gi 7 (by omega), gk, gw, go, w_not, w_xor, w_and, w_add]
          exact congrArg (D.arr 8 1) (over8_set (hV t) _ _))
       | (have e : t = 64 := by omega
          subst e
          first
          | with_reducible rfl
          | (rw [addW_zero _ hh]; done))
       | skip)
    | with_reducible rfl
    | exact congrArg (D.arr 8 1) rfl
    | skip

end Go.Proofs.Ytcdjheiccefcdaa

/-
Bytes taken in.
-/
set_option linter.unusedSimpArgs false
set_option linter.unusedVariables false
namespace Go.Proofs.Ytcdjheiccefcdaa
open Go.Sym
set_option maxRecDepth 10000
set_option maxHeartbeats 8000000

/-- A block written over. -/
def blk (bl b : List UInt8) (hv n : Nat) : List UInt8 := bl.take hv ++ b.take n ++ bl.drop (hv + n)

theorem blk_length {bl b : List UInt8} {hv n : Nat} (hb : bl.length = 64) (hn : n ≤ b.length) (h : hv + n ≤ 64) : (blk bl b hv n).length = 64 := by
  unfold blk; simp; omega

theorem blk_over (bl b : List UInt8) (hv n : Nat) : overD (bl.map byteD) (b.map byteD) hv n = (blk bl b hv n).map byteD := by
  unfold overD blk
  simp only [List.map_append, List.map_take, List.map_drop]

theorem sstate_more {m c : List UInt8} (h : m.length % 64 + c.length < 64) : sstate (m ++ c) = sstate m := by
  unfold sstate
  have e : m ++ c = m.take (m.length / 64 * 64) ++ (srest m ++ c) := by
    rw [← List.append_assoc]; congr 1
    exact (List.take_append_drop _ _).symm
  have hl : (m.take (m.length / 64 * 64)).length = m.length / 64 * 64 := by rw [List.length_take]; omega
  rw [e, sblocks_append _ _ _ (by rw [hl]; omega), sblocks_small (m := srest m ++ c) (by rw [List.length_append, srest_length]; omega), sblocks_rest _ m]

theorem sstate_block {m c : List UInt8} (h : m.length % 64 + c.length = 64) : sstate (m ++ c) = sblock (sstate m) (srest m ++ c) := by
  have hr : (srest m ++ c).length = 64 := by rw [List.length_append, srest_length]; exact h
  unfold sstate
  have e : m ++ c = m.take (m.length / 64 * 64) ++ (srest m ++ c) := by
    rw [← List.append_assoc]; congr 1
    exact (List.take_append_drop _ _).symm
  have hl : (m.take (m.length / 64 * 64)).length = m.length / 64 * 64 := by rw [List.length_take]; omega
  have t : (srest m ++ c).take 64 = srest m ++ c := List.take_of_length_le (by omega)
  have d : (srest m ++ c).drop 64 = [] := List.drop_of_length_le (by omega)
  rw [e, sblocks_append _ _ _ (by rw [hl]; omega), sblocks_big (m := srest m ++ c) (by omega), t, d, sblocks_small (m := []) (by simp), ← sblocks_rest]

theorem srest_more {m c : List UInt8} (h : m.length % 64 + c.length < 64) : srest (m ++ c) = srest m ++ c := by
  unfold srest
  have e : (m ++ c).length / 64 * 64 = m.length / 64 * 64 := by rw [List.length_append]; omega
  rw [e, List.drop_append_of_le_length (by omega)]

theorem srest_block {m c : List UInt8} (h : m.length % 64 + c.length = 64) : srest (m ++ c) = [] := by
  apply List.eq_nil_of_length_eq_zero
  rw [srest_length, List.length_append]; omega

/-- The block behind all bytes. -/
def wrB (bl : List UInt8) (hv : Nat) (b : List UInt8) : List UInt8 :=
  if _h : b = [] ∨ 64 ≤ hv then bl else wrB (blk bl b hv (min b.length (64 - hv))) ((hv + min b.length (64 - hv)) % 64) (b.drop (min b.length (64 - hv)))
termination_by b.length
decreasing_by
  rw [List.length_drop]
  have h1 : 0 < b.length := List.length_pos_iff.2 (fun e => _h (.inl e))
  omega

theorem wrB_nil (bl : List UInt8) (hv : Nat) : wrB bl hv [] = bl := by rw [wrB, dif_pos (.inl rfl)]
theorem wrB_step {bl : List UInt8} {hv : Nat} {b : List UInt8} (h : 0 < b.length) (hh : hv < 64) : wrB bl hv b = wrB (blk bl b hv (min b.length (64 - hv))) ((hv + min b.length (64 - hv)) % 64) (b.drop (min b.length (64 - hv))) := by
  rw [wrB, dif_neg]
  rintro (rfl | h2)
  · simp at h
  · omega

structure WrI (M BL : List UInt8) (x : List UInt8 × List UInt8 × List UInt8) : Prop where
  e : wrB x.2.1 (x.1.length % 64) x.2.2 = BL
  m : x.1 ++ x.2.2 = M
  l : x.2.1.length = 64
  r : x.2.1.take (x.1.length % 64) = srest x.1

def wrN (x : List UInt8 × List UInt8 × List UInt8) : Nat := min x.2.2.length (64 - x.1.length % 64)
def wrX (x : List UInt8 × List UInt8 × List UInt8) : List UInt8 × List UInt8 × List UInt8 := (x.1 ++ x.2.2.take (wrN x), blk x.2.1 x.2.2 (x.1.length % 64) (wrN x), x.2.2.drop (wrN x))

theorem WrI.next {M BL : List UInt8} {x : List UInt8 × List UInt8 × List UInt8} (hI : WrI M BL x) (hb : 0 < x.2.2.length) : WrI M BL (wrX x) := by
  obtain ⟨m, bl, b⟩ := x
  obtain ⟨e, hm, l, r⟩ := hI
  simp only at e hm l r hb
  have hlt : m.length % 64 < 64 := Nat.mod_lt _ (by omega)
  have hn1 : min b.length (64 - m.length % 64) ≤ b.length := Nat.min_le_left _ _
  have hn2 : min b.length (64 - m.length % 64) ≤ 64 - m.length % 64 := Nat.min_le_right _ _
  have hl : (m ++ b.take (min b.length (64 - m.length % 64))).length % 64 = (m.length % 64 + min b.length (64 - m.length % 64)) % 64 := by
    rw [List.length_append, List.length_take]; omega
  refine ⟨?_, ?_, ?_, ?_⟩ <;> simp only [wrX, wrN]
  · rw [hl, ← wrB_step hb hlt]; exact e
  · rw [List.append_assoc, List.take_append_drop]; exact hm
  · exact blk_length l hn1 (by omega)
  · rw [hl]
    have hc : (b.take (min b.length (64 - m.length % 64))).length = min b.length (64 - m.length % 64) := by rw [List.length_take]; omega
    rcases Nat.lt_or_ge (m.length % 64 + min b.length (64 - m.length % 64)) 64 with h64 | h64
    · rw [Nat.mod_eq_of_lt h64, srest_more (by rw [hc]; exact h64), ← r]
      unfold blk
      rw [List.take_append_of_le_length (by rw [List.length_append, List.length_take, hc]; omega), List.take_of_length_le (by rw [List.length_append, List.length_take, hc]; omega)]
    · have h64 : m.length % 64 + min b.length (64 - m.length % 64) = 64 := by omega
      rw [h64, srest_block (by rw [hc]; exact h64)]; rfl

theorem WrI.mixes {M BL : List UInt8} {x : List UInt8 × List UInt8 × List UInt8} (hI : WrI M BL x) (h : x.1.length % 64 + wrN x = 64) : sblock (sstate x.1) (wrX x).2.1 = sstate (wrX x).1 ∧ (wrX x).1.length % 64 = 0 := by
  obtain ⟨m, bl, b⟩ := x
  obtain ⟨e, hm, l, r⟩ := hI
  simp only [wrN] at e hm l r h
  have hc : (b.take (min b.length (64 - m.length % 64))).length = min b.length (64 - m.length % 64) := by rw [List.length_take]; omega
  simp only [wrX, wrN]
  refine ⟨?_, by rw [List.length_append, hc]; omega⟩
  rw [sstate_block (by rw [hc]; exact h), ← r]
  unfold blk
  rw [h, List.drop_of_length_le (by omega), List.append_nil]

theorem WrI.stays {M BL : List UInt8} {x : List UInt8 × List UInt8 × List UInt8} (hI : WrI M BL x) (h : x.1.length % 64 + wrN x < 64) : sstate (wrX x).1 = sstate x.1 ∧ (wrX x).1.length % 64 = x.1.length % 64 + wrN x := by
  obtain ⟨m, bl, b⟩ := x
  simp only [wrN] at h
  have hc : (b.take (min b.length (64 - m.length % 64))).length = min b.length (64 - m.length % 64) := by rw [List.length_take]; omega
  simp only [wrX, wrN]
  exact ⟨sstate_more (by rw [hc]; exact h), by rw [List.length_append, hc]; omega⟩

/-- What is known of the block behind all bytes. -/
theorem wrB_ok : ∀ (k : Nat) (m bl b : List UInt8), b.length ≤ k → bl.length = 64 → bl.take (m.length % 64) = srest m → (wrB bl (m.length % 64) b).length = 64 ∧ (wrB bl (m.length % 64) b).take ((m ++ b).length % 64) = srest (m ++ b)
  | k, m, bl, [], _, l, r => by rw [wrB_nil, List.append_nil]; exact ⟨l, r⟩
  | 0, m, bl, c :: b, hk, _, _ => by simp at hk
  | k + 1, m, bl, c :: b, hk, l, r => by
    have hI : WrI (m ++ (c :: b)) (wrB bl (m.length % 64) (c :: b)) (m, bl, c :: b) := ⟨rfl, rfl, l, r⟩
    have hI2 := hI.next (by simp)
    have hlt : m.length % 64 < 64 := Nat.mod_lt _ (by omega)
    have hlen : ((c :: b).drop (wrN (m, bl, c :: b))).length ≤ k := by
      rw [List.length_drop]
      simp only [wrN, List.length_cons] at hk ⊢
      omega
    have := wrB_ok k (wrX (m, bl, c :: b)).1 (wrX (m, bl, c :: b)).2.1 (wrX (m, bl, c :: b)).2.2 hlen hI2.l hI2.r
    rw [hI2.e, hI2.m] at this
    exact this

/-- A hash to which a text was written. -/
def hst (m bl : List UInt8) : AObj := hsh (sstate m) bl (m.length % 64) m.length

theorem pos_map {l : List UInt8} (h : ((l.map byteD).length : Int) > 0) : 0 < l.length := by rw [List.length_map] at h; omega

theorem write_ok (m bl b : List UInt8) (l : bl.length = 64) (r : bl.take (m.length % 64) = srest m) (hl : m.length + b.length < 2 ^ 60) :
    LocalCall Try.prog 92 [.ptr 9 [], .d (.sl (b.map byteD))] [(9, hst m bl)] [] (one []) [(9, hst (m ++ b) (wrB bl (m.length % 64) b))] := by
  have w0 : IntKind.u64.wrap ((m.length : Int) + IntKind.u64.wrap ((b.map byteD).length : Int)) = (((m ++ b).length : Nat) : Int) := by
    rw [List.length_map, List.length_append, u64_wrap, u64_wrap]; omega
  refine vc_fn mixed Try.func92 rfl rfl [] (vc_chk rfl) ?_
  repeat' (first
      | ((with_reducible refine vc_chk ?_); first | decide +kernel | rfl)
      | (with_reducible refine vc_side0 ?_; rfl)
      | (with_reducible first
           | refine vc_true ?_ | refine vc_true2 ?_ | refine vc_side ?_ ?_ | refine vc_triv | refine vc_later ?_ | refine vc_caseT ?_ | refine vc_caseF ?_ | refine vc_cons ?_ | refine vc_nil ?_ ?_ | refine vc_seq ?_
              | refine vc_region ?_ | refine vc_cond ?_ | refine vc_block ?_ | refine vc_retc ?_ | refine vc_exit ?_ | refine vc_skip ?_ | refine vc_scope ?_ | refine vc_label ?_ | refine vc_goto ?_ | refine vc_wkSl0
              | refine vc_wkHp0 | refine vc_eqAVs0 | refine vc_preG0 | refine vc_wkSl ?_ ?_ | refine vc_wkHp ?_ ?_ | refine vc_eqAVs ?_ ?_ | refine vc_preG ?_ ?_ | refine vc_side0 ?_
              | refine vc_loopI 47 (fun (x : List UInt8 × List UInt8 × List UInt8) => [(0, .ptr 9 []), (1, .d (.sl (x.2.2.map byteD)))]) (fun x => [(9, hsh (sstate x.1) x.2.1 (x.1.length % 64) (m ++ b).length)]) (fun x => x.2.2.length) (WrI (m ++ b) (wrB bl (m.length % 64) b)) (m, bl, b) [] ?_ ?_ ?_ ?_ ?_ (fun x hI => ?_)
              | refine vc_call [] (mix_ok (sstate x.1) (wrX x).2.1 64 (m ++ b).length (sstate_length _) (hI.next (pos_map (by assumption))).l) ?_ | refine vc_nextI (wrX x) [] ?_ ?_ ?_ ?_ ?_ ?_ | refine vc_weakf [] ?_ ?_ ?_
              | refine vc_and ?_ ?_ | refine vc_ret [] [] ?_)
      | ((with_reducible first | refine vc_caseD (fun h => ?_) (fun h => ?_) | refine vc_caseN (fun h => ?_) (fun h => ?_)) <;> try (exfalso; omega))
      | ((with_reducible refine vc_case (fun h => ?_) (fun h => ?_)) <;> (try simp only [Go.Sym.vs1, reduceCtorEq] at h) <;> try (exfalso; first | omega | (simp at h; done)))
      | (conv in Vc _ => arg 1; whnf
         first
          | (with_reducible refine vc_side0 ?_; rfl)
          | (with_reducible first
              | refine vc_true ?_ | refine vc_true2 ?_ | refine vc_side ?_ ?_ | refine vc_triv | refine vc_later ?_ | refine vc_caseT ?_ | refine vc_caseF ?_ | refine vc_cons ?_ | refine vc_nil ?_ ?_ | refine vc_seq ?_
                 | refine vc_region ?_ | refine vc_cond ?_ | refine vc_block ?_ | refine vc_retc ?_ | refine vc_exit ?_ | refine vc_skip ?_ | refine vc_scope ?_ | refine vc_label ?_ | refine vc_goto ?_ | refine vc_wkSl0
                 | refine vc_wkHp0 | refine vc_eqAVs0 | refine vc_preG0 | refine vc_wkSl ?_ ?_ | refine vc_wkHp ?_ ?_ | refine vc_eqAVs ?_ ?_ | refine vc_preG ?_ ?_ | refine vc_side0 ?_
                 | refine vc_loopI 47 (fun (x : List UInt8 × List UInt8 × List UInt8) => [(0, .ptr 9 []), (1, .d (.sl (x.2.2.map byteD)))]) (fun x => [(9, hsh (sstate x.1) x.2.1 (x.1.length % 64) (m ++ b).length)]) (fun x => x.2.2.length) (WrI (m ++ b) (wrB bl (m.length % 64) b)) (m, bl, b) [] ?_ ?_ ?_ ?_ ?_ (fun x hI => ?_)
                 | refine vc_call [] (mix_ok (sstate x.1) (wrX x).2.1 64 (m ++ b).length (sstate_length _) (hI.next (pos_map (by assumption))).l) ?_ | refine vc_nextI (wrX x) [] ?_ ?_ ?_ ?_ ?_ ?_ | refine vc_weakf [] ?_ ?_ ?_
                 | refine vc_and ?_ ?_ | refine vc_ret [] [] ?_)
          | ((with_reducible first | refine vc_caseD (fun h => ?_) (fun h => ?_) | refine vc_caseN (fun h => ?_) (fun h => ?_)) <;> try (exfalso; omega))
          | ((with_reducible refine vc_case (fun h => ?_) (fun h => ?_)) <;> (try simp only [Go.Sym.vs1, reduceCtorEq] at h) <;> try (exfalso; first | omega | (simp at h; done)))))
  all_goals (try dsimp only)
  all_goals first
    | with_reducible rfl
    | exact ⟨rfl, rfl, l, r⟩
    | (rw [w0]; done)
    | skip
  all_goals (try simp only [Int.toNat_natCast, List.length_map, n8] at *)
  all_goals
    have hlt : x.1.length % 64 < 64 := Nat.mod_lt _ (by omega)
    have hnm : min x.2.2.length (64 - x.1.length % 64) = wrN x := rfl
    have hw : IntKind.i64.wrap (((x.1.length % 64 : Nat) : Int) + ((wrN x : Nat) : Int)) = ((x.1.length % 64 + wrN x : Nat) : Int) := by
      rw [wrap64_id (by omega) (by omega)]; rfl
    have hxl := hI.l
    have hn3 : wrN x ≤ x.2.2.length ∧ wrN x ≤ 64 - x.1.length % 64 ∧ (x.2.2.length ≤ wrN x ∨ 64 - x.1.length % 64 ≤ wrN x) := by
      unfold wrN; omega
    try simp only [hnm, hw] at h ⊢
  all_goals first
    | exact ⟨⟨by omega, by omega, by omega⟩, trivial⟩
    | (refine ⟨⟨⟨trivial, trivial, trivial⟩, by omega⟩, fun y hy => ?_⟩
       obtain ⟨c, _, rfl⟩ := List.mem_map.1 hy; rfl)
    | (refine ⟨⟨by omega, by omega, by omega⟩, fun y hy => ?_⟩
       obtain ⟨c, _, rfl⟩ := List.mem_map.1 hy; rfl)
    | exact hI.next (by omega)
    | (show (x.2.2.drop (wrN x)).length < _
       rw [List.length_drop]; omega)
    | (show D.sl _ = D.sl ((x.2.2.drop (wrN x)).map byteD)
       unfold cutD
       rw [Int.toNat_natCast, Int.toNat_natCast, List.take_of_length_le (by rw [List.length_map]; omega), List.map_drop]; done)
    | (obtain ⟨e1, e2⟩ := hI.mixes (by omega)
       rw [e1, e2]; done)
    | (obtain ⟨e1, e2⟩ := hI.stays (by omega)
       rw [e1, e2, blk_over]; rfl)
    | (rw [blk_over, h]; rfl)
    | (have hb : x.2.2 = [] := List.eq_nil_of_length_eq_zero (by omega)
       have e1 := hI.e
       have e2 := hI.m
       rw [hb, wrB_nil] at e1
       rw [hb, List.append_nil] at e2
       rw [← e1, ← e2])

end Go.Proofs.Ytcdjheiccefcdaa

/-
Clones, and what stands behind a text.
-/
set_option linter.unusedSimpArgs false
set_option linter.unusedVariables false
namespace Go.Proofs.Ytcdjheiccefcdaa
open Go.Sym
set_option maxRecDepth 10000
set_option maxHeartbeats 8000000

theorem clone_ok (h : List W32) (bl : List UInt8) (hv n : Nat) : LocalCall Try.prog 99 [.ptr 9 []] [(9, hsh h bl hv n)] [8] (one [.ptr 8 []]) [(8, hsh h bl hv n)] := by
  refine vc_fn mixed Try.func99 rfl rfl [] (vc_chk rfl) ?_
  repeat' (first
      | ((with_reducible refine vc_chk ?_); first | decide +kernel | rfl)
      | (with_reducible refine vc_side0 ?_; rfl)
      | (with_reducible first
           | refine vc_true ?_ | refine vc_true2 ?_ | refine vc_side ?_ ?_ | refine vc_triv | refine vc_later ?_ | refine vc_caseT ?_ | refine vc_caseF ?_ | refine vc_cons ?_ | refine vc_nil ?_ ?_ | refine vc_seq ?_
              | refine vc_region ?_ | refine vc_cond ?_ | refine vc_block ?_ | refine vc_retc ?_ | refine vc_exit ?_ | refine vc_skip ?_ | refine vc_scope ?_ | refine vc_label ?_ | refine vc_goto ?_ | refine vc_wkSl0
              | refine vc_wkHp0 | refine vc_eqAVs0 | refine vc_preG0 | refine vc_wkSl ?_ ?_ | refine vc_wkHp ?_ ?_ | refine vc_eqAVs ?_ ?_ | refine vc_preG ?_ ?_ | refine vc_side0 ?_ | refine vc_ret [] [(8, 2012)] ?_
              | refine vc_weakf [] ?_ ?_ ?_ | refine vc_and ?_ ?_ | refine vc_ret [] [] ?_)
      | ((with_reducible first | refine vc_caseD (fun h => ?_) (fun h => ?_) | refine vc_caseN (fun h => ?_) (fun h => ?_)) <;> try (exfalso; omega))
      | ((with_reducible refine vc_case (fun h => ?_) (fun h => ?_)) <;> (try simp only [Go.Sym.vs1, reduceCtorEq] at h) <;> try (exfalso; first | omega | (simp at h; done)))
      | (conv in Vc _ => arg 1; whnf
         first
          | (with_reducible refine vc_side0 ?_; rfl)
          | (with_reducible first
              | refine vc_true ?_ | refine vc_true2 ?_ | refine vc_side ?_ ?_ | refine vc_triv | refine vc_later ?_ | refine vc_caseT ?_ | refine vc_caseF ?_ | refine vc_cons ?_ | refine vc_nil ?_ ?_ | refine vc_seq ?_
                 | refine vc_region ?_ | refine vc_cond ?_ | refine vc_block ?_ | refine vc_retc ?_ | refine vc_exit ?_ | refine vc_skip ?_ | refine vc_scope ?_ | refine vc_label ?_ | refine vc_goto ?_ | refine vc_wkSl0
                 | refine vc_wkHp0 | refine vc_eqAVs0 | refine vc_preG0 | refine vc_wkSl ?_ ?_ | refine vc_wkHp ?_ ?_ | refine vc_eqAVs ?_ ?_ | refine vc_preG ?_ ?_ | refine vc_side0 ?_ | refine vc_ret [] [(8, 2012)] ?_
                 | refine vc_weakf [] ?_ ?_ ?_ | refine vc_and ?_ ?_ | refine vc_ret [] [] ?_)
          | ((with_reducible first | refine vc_caseD (fun h => ?_) (fun h => ?_) | refine vc_caseN (fun h => ?_) (fun h => ?_)) <;> try (exfalso; omega))
          | ((with_reducible refine vc_case (fun h => ?_) (fun h => ?_)) <;> (try simp only [Go.Sym.vs1, reduceCtorEq] at h) <;> try (exfalso; first | omega | (simp at h; done)))))
  all_goals rfl

theorem shl3 (n : Nat) : shlI .u64 (n : Int) 3 = ((n * 8 % 18446744073709551616 : Nat) : Int) := by
  have hm : min (3 : Int).toNat IntKind.u64.bits = 3 := by decide
  unfold shlI
  rw [hm, u64_wrap]
  omega

theorem mul8 (n : Nat) : IntKind.u64.wrap ((n : Int) * 8) = ((n * 8 % 18446744073709551616 : Nat) : Int) := by
  rw [u64_wrap]; omega

theorem shr_u64 (a k : Nat) (h : k ≤ 64) : shrI .u64 (a : Int) (k : Int) = ((a / 2 ^ k : Nat) : Int) := by
  have hm : min ((k : Nat) : Int).toNat IntKind.u64.bits = k := by
    show min k 64 = _
    omega
  unfold shrI
  rw [hm]
  have : (2 : Int) ^ k = ((2 ^ k : Nat) : Int) := by simp
  rw [this, Int.fdiv_eq_ediv_of_nonneg _ (Int.natCast_nonneg _)]; simp

theorem pad_byte (n i : Nat) (hi : i < 8) : IntKind.u8.wrap (shrI .u64 ((n * 8 % 18446744073709551616 : Nat) : Int) ((56 - 8 * i : Nat) : Int)) = ((n * 8 / 2 ^ (56 - 8 * i) % 256 : Nat) : Int) := by
  rw [shr_u64 _ _ (by omega), u8_wrap]
  have key : n * 8 % 18446744073709551616 / 2 ^ (56 - 8 * i) % 256 = n * 8 / 2 ^ (56 - 8 * i) % 256 := by
    match i, hi with
    | 0, _ => show n * 8 % 18446744073709551616 / 72057594037927936 % 256 = n * 8 / 72057594037927936 % 256; omega
    | 1, _ => show n * 8 % 18446744073709551616 / 281474976710656 % 256 = n * 8 / 281474976710656 % 256; omega
    | 2, _ => show n * 8 % 18446744073709551616 / 1099511627776 % 256 = n * 8 / 1099511627776 % 256; omega
    | 3, _ => show n * 8 % 18446744073709551616 / 4294967296 % 256 = n * 8 / 4294967296 % 256; omega
    | 4, _ => show n * 8 % 18446744073709551616 / 16777216 % 256 = n * 8 / 16777216 % 256; omega
    | 5, _ => show n * 8 % 18446744073709551616 / 65536 % 256 = n * 8 / 65536 % 256; omega
    | 6, _ => show n * 8 % 18446744073709551616 / 256 % 256 = n * 8 / 256 % 256; omega
    | 7, _ => show n * 8 % 18446744073709551616 / 1 % 256 = n * 8 / 1 % 256; omega
  rw [← key]; omega

/-- So many noughts, so many bytes of the length. -/
def padZ (i : Nat) : List UInt8 := 128 :: List.replicate i 0
def padL (n j : Nat) : List UInt8 := padZ ((119 - n % 64) % 64) ++ (List.range j).map fun i => UInt8.ofNat (n * 8 / 2 ^ (56 - 8 * i) % 256)

theorem padZ_app (i : Nat) : (padZ i).map byteD ++ [D.int .u8 0] = (padZ (i + 1)).map byteD := by
  have : [D.int .u8 0] = [(0 : UInt8)].map byteD := rfl
  rw [this, ← List.map_append]
  unfold padZ
  rw [List.cons_append, ← List.replicate_succ']

theorem padL_app (n j : Nat) : (padL n j).map byteD ++ [D.int .u8 ((n * 8 / 2 ^ (56 - 8 * j) % 256 : Nat) : Int)] = (padL n (j + 1)).map byteD := by
  have e : D.int .u8 ((n * 8 / 2 ^ (56 - 8 * j) % 256 : Nat) : Int) = byteD (UInt8.ofNat (n * 8 / 2 ^ (56 - 8 * j) % 256)) := by
    unfold byteD
    rw [UInt8.toNat_ofNat_of_lt' (show _ < 256 from Nat.mod_lt _ (by omega))]
  rw [e]
  unfold padL
  rw [List.range_succ]
  simp only [List.map_append, List.append_assoc, List.map_cons, List.map_nil]

theorem padZ_length (i : Nat) : (padZ i).length = i + 1 := by simp [padZ]
theorem padL_length (n j : Nat) : (padL n j).length = (119 - n % 64) % 64 + 1 + j := by simp [padL, padZ_length]

theorem room_small {k j : Nat} (hj : j = 1) (h : k ≤ 2 ^ 30) : Room k j := by subst hj; unfold Room; omega

theorem pad_cond (n i : Nat) (hn : n < 18446744073709551616) (hi : i ≤ 63) : (IntKind.u64.wrap ((n : Int) + IntKind.u64.wrap (((padZ i).map byteD).length : Int))).tmod 64 = (((n + i + 1) % 64 : Nat) : Int) := by
  rw [List.length_map, padZ_length, u64_wrap, u64_wrap, Int.tmod_eq_emod_of_nonneg (by omega)]
  omega

theorem w56 (j : Nat) (h : j < 8) : IntKind.i64.wrap (56 - IntKind.i64.wrap (8 * (j : Int))) = ((56 - 8 * j : Nat) : Int) := by
  rw [wrap64_id (n := 8 * (j : Int)) (by omega) (by omega), wrap64_id (by omega) (by omega)]; omega

theorem w56u (j : Nat) (h : j < 8) : IntKind.u64.wrap (IntKind.i64.wrap (56 - IntKind.i64.wrap (8 * (j : Int)))) = ((56 - 8 * j : Nat) : Int) := by
  rw [w56 j h, u64_wrap]; omega

theorem wrapU64n (n : Int) : 0 ≤ IntKind.u64.wrap n := by rw [u64_wrap]; omega

theorem pad_ok (n : Nat) (hn : n < 18446744073709551616) : LocalCall Try.prog 100 [.d (.int .u64 (n : Int))] [] [] (one [.d (.sl ((spad n).map byteD))]) [] := by
  refine vc_fn mixed Try.func100 rfl rfl [] (vc_chk rfl) ?_
  repeat' (first
      | ((with_reducible refine vc_chk ?_); first | decide +kernel | rfl)
      | (with_reducible refine vc_side0 ?_; rfl)
      | (with_reducible first
           | refine vc_true ?_ | refine vc_true2 ?_ | refine vc_side ?_ ?_ | refine vc_triv | refine vc_later ?_ | refine vc_caseT ?_ | refine vc_caseF ?_ | refine vc_cons ?_ | refine vc_nil ?_ ?_ | refine vc_seq ?_
              | refine vc_region ?_ | refine vc_cond ?_ | refine vc_block ?_ | refine vc_retc ?_ | refine vc_exit ?_ | refine vc_skip ?_ | refine vc_scope ?_ | refine vc_label ?_ | refine vc_goto ?_ | refine vc_wkSl0
              | refine vc_wkHp0 | refine vc_eqAVs0 | refine vc_preG0 | refine vc_wkSl ?_ ?_ | refine vc_wkHp ?_ ?_ | refine vc_eqAVs ?_ ?_ | refine vc_preG ?_ ?_ | refine vc_side0 ?_
              | refine vc_loopI (y := .seq (.seq (.region 2 _ _) _) _) 31 (fun (i : Nat) => [(0, .d (.int .u64 (n : Int))), (3, .sl 7 [] 1 0 ((padZ i).map byteD).length)]) (fun i => [(7, .row 1 ((padZ i).map byteD))]) (fun i => 64 - i) (fun i => i ≤ (119 - n % 64) % 64) 0 [(7, 2000)] ?_ ?_ ?_ ?_ ?_ (fun i hI => ?_)
              | refine vc_nextI (i + 1 : Nat) [(7, 4008)] ?_ ?_ ?_ ?_ ?_ ?_
              | refine vc_loopI (y := .seq (.region 5 _ _) _) 31 (fun (x : Nat × Unit) => [(0, .d (.int .u64 (n : Int))), (3, .sl 7 [] 1 0 ((padL n x.1).map byteD).length), (16, .d (.int .i64 (x.1 : Int)))]) (fun x => [(7, .row 1 ((padL n x.1).map byteD))]) (fun x => 8 - x.1) (fun x => x.1 ≤ 8) (0, ()) [] ?_ ?_ ?_ ?_ ?_ (fun x hM => ?_)
              | refine vc_nextI (x.1 + 1, ()) [(7, 8036)] ?_ ?_ ?_ ?_ ?_ ?_ | refine vc_ret [true] [] ?_ | refine vc_weakf [] ?_ ?_ ?_ | refine vc_and ?_ ?_ | refine vc_ret [] [] ?_)
      | ((with_reducible first | refine vc_caseD (fun h => ?_) (fun h => ?_) | refine vc_caseN (fun h => ?_) (fun h => ?_)) <;> try (exfalso; omega))
      | ((with_reducible refine vc_case (fun h => ?_) (fun h => ?_)) <;> (try simp only [Go.Sym.vs1, reduceCtorEq] at h) <;> try (exfalso; first | omega | (simp at h; done)))
      | (conv in Vc _ => arg 1; whnf
         first
          | (with_reducible refine vc_side0 ?_; rfl)
          | (with_reducible first
              | refine vc_true ?_ | refine vc_true2 ?_ | refine vc_side ?_ ?_ | refine vc_triv | refine vc_later ?_ | refine vc_caseT ?_ | refine vc_caseF ?_ | refine vc_cons ?_ | refine vc_nil ?_ ?_ | refine vc_seq ?_
                 | refine vc_region ?_ | refine vc_cond ?_ | refine vc_block ?_ | refine vc_retc ?_ | refine vc_exit ?_ | refine vc_skip ?_ | refine vc_scope ?_ | refine vc_label ?_ | refine vc_goto ?_ | refine vc_wkSl0
                 | refine vc_wkHp0 | refine vc_eqAVs0 | refine vc_preG0 | refine vc_wkSl ?_ ?_ | refine vc_wkHp ?_ ?_ | refine vc_eqAVs ?_ ?_ | refine vc_preG ?_ ?_ | refine vc_side0 ?_
                 | refine vc_loopI (y := .seq (.seq (.region 2 _ _) _) _) 31 (fun (i : Nat) => [(0, .d (.int .u64 (n : Int))), (3, .sl 7 [] 1 0 ((padZ i).map byteD).length)]) (fun i => [(7, .row 1 ((padZ i).map byteD))]) (fun i => 64 - i) (fun i => i ≤ (119 - n % 64) % 64) 0 [(7, 2000)] ?_ ?_ ?_ ?_ ?_ (fun i hI => ?_)
                 | refine vc_nextI (i + 1 : Nat) [(7, 4008)] ?_ ?_ ?_ ?_ ?_ ?_
                 | refine vc_loopI (y := .seq (.region 5 _ _) _) 31 (fun (x : Nat × Unit) => [(0, .d (.int .u64 (n : Int))), (3, .sl 7 [] 1 0 ((padL n x.1).map byteD).length), (16, .d (.int .i64 (x.1 : Int)))]) (fun x => [(7, .row 1 ((padL n x.1).map byteD))]) (fun x => 8 - x.1) (fun x => x.1 ≤ 8) (0, ()) [] ?_ ?_ ?_ ?_ ?_ (fun x hM => ?_)
                 | refine vc_nextI (x.1 + 1, ()) [(7, 8036)] ?_ ?_ ?_ ?_ ?_ ?_ | refine vc_ret [true] [] ?_ | refine vc_weakf [] ?_ ?_ ?_ | refine vc_and ?_ ?_ | refine vc_ret [] [] ?_)
          | ((with_reducible first | refine vc_caseD (fun h => ?_) (fun h => ?_) | refine vc_caseN (fun h => ?_) (fun h => ?_)) <;> try (exfalso; omega))
          | ((with_reducible refine vc_case (fun h => ?_) (fun h => ?_)) <;> (try simp only [Go.Sym.vs1, reduceCtorEq] at h) <;> try (exfalso; first | omega | (simp at h; done)))))
  all_goals (try dsimp only)
  all_goals (try simp only [List.drop_zero, List.take_length])
  all_goals first
    | with_reducible rfl
    | omega
    | decide
    | (rw [padZ_app]; done)
    | (show D.int .i64 _ = D.int .i64 _; first | rfl | (congr 1; rw [wrap64_id (by omega) (by omega)]; omega))
    | skip
  all_goals first
    | (have hm := hM
       first
       | (have hj : x.1 < 8 := by omega
          (try rw [w56 x.1 hj])
          (try rw [shl3, pad_byte n x.1 hj])
          first
          | omega
          | (rw [padL_app]; done)
          | (refine ⟨⟨by simp, by first | trivial | rfl, room_small rfl ?_⟩, fun y hy => ?_⟩
             · rw [List.length_append, List.length_map, padL_length]
               show _ + 1 ≤ _
               omega
             · simp only [List.mem_singleton] at hy; subst hy; rfl))
       | (have e : x.1 = 8 := by omega
          rw [e]
          first
          | exact ⟨Nat.le_of_eq (Nat.zero_add _), trivial⟩
          | rfl)
       | skip)
    | (have hi := hI
       rw [pad_cond n i hn (by omega)] at h
       first
       | omega
       | (refine ⟨⟨by simp, by first | trivial | rfl, room_small rfl ?_⟩, fun y hy => ?_⟩
          · rw [List.length_append, List.length_map, padZ_length]
            show _ + 1 ≤ _
            omega
          · simp only [List.mem_singleton] at hy; subst hy; rfl)
       | (have e : i = (119 - n % 64) % 64 := by omega
          rw [e]
          simp [padL]; done)
       | skip)
    | rfl
    | skip

theorem rPad_ok (n : Nat) (hn : n < 18446744073709551616) : LocalCall Try.prog 86 [.d (.int .u64 (n : Int))] [] [] (one [.d (.sl ((spad n).map byteD))]) [] := by
  refine vc_fn mixed Try.func86 rfl rfl [] (vc_chk rfl) ?_
  repeat' (first
      | ((with_reducible refine vc_chk ?_); first | decide +kernel | rfl)
      | (with_reducible refine vc_side0 ?_; rfl)
      | (with_reducible first
           | refine vc_true ?_ | refine vc_true2 ?_ | refine vc_side ?_ ?_ | refine vc_triv | refine vc_later ?_ | refine vc_caseT ?_ | refine vc_caseF ?_ | refine vc_cons ?_ | refine vc_nil ?_ ?_ | refine vc_seq ?_
              | refine vc_region ?_ | refine vc_cond ?_ | refine vc_block ?_ | refine vc_retc ?_ | refine vc_exit ?_ | refine vc_skip ?_ | refine vc_scope ?_ | refine vc_label ?_ | refine vc_goto ?_ | refine vc_wkSl0
              | refine vc_wkHp0 | refine vc_eqAVs0 | refine vc_preG0 | refine vc_wkSl ?_ ?_ | refine vc_wkHp ?_ ?_ | refine vc_eqAVs ?_ ?_ | refine vc_preG ?_ ?_ | refine vc_side0 ?_
              | refine vc_loopI (y := .seq (.seq (.region 3 _ _) _) _) 36 (fun (i : Nat) => [(0, .d (.int .u64 (n : Int))), (3, .sl 7 [] 1 0 ((padZ i).map byteD).length)]) (fun i => [(7, .row 1 ((padZ i).map byteD))]) (fun i => 64 - i) (fun i => i ≤ (119 - n % 64) % 64) 0 [(7, 3008)] ?_ ?_ ?_ ?_ ?_ (fun i hI => ?_)
              | refine vc_nextI (i + 1 : Nat) [(7, 5008)] ?_ ?_ ?_ ?_ ?_ ?_
              | refine vc_loopI (y := .seq (.seq (.region 7 _ _) _) _) 36 (fun (x : Nat × Unit) => [(3, .sl 7 [] 1 0 ((padL n x.1).map byteD).length), (4, .d (.int .u64 ((n * 8 % 18446744073709551616 : Nat) : Int))), (5, .d (.int .i64 (x.1 : Int)))]) (fun x => [(7, .row 1 ((padL n x.1).map byteD))]) (fun x => 8 - x.1) (fun x => x.1 ≤ 8) (0, ()) [] ?_ ?_ ?_ ?_ ?_ (fun x hM => ?_)
              | refine vc_nextI (x.1 + 1, ()) [(7, 10036)] ?_ ?_ ?_ ?_ ?_ ?_ | refine vc_ret [true] [] ?_ | refine vc_weakf [] ?_ ?_ ?_ | refine vc_and ?_ ?_ | refine vc_ret [] [] ?_)
      | ((with_reducible first | refine vc_caseD (fun h => ?_) (fun h => ?_) | refine vc_caseN (fun h => ?_) (fun h => ?_)) <;> try (exfalso; omega))
      | ((with_reducible refine vc_case (fun h => ?_) (fun h => ?_)) <;> (try simp only [Go.Sym.vs1, reduceCtorEq] at h) <;> try (exfalso; first | omega | (simp at h; done)))
      | (conv in Vc _ => arg 1; whnf
         first
          | (with_reducible refine vc_side0 ?_; rfl)
          | (with_reducible first
              | refine vc_true ?_ | refine vc_true2 ?_ | refine vc_side ?_ ?_ | refine vc_triv | refine vc_later ?_ | refine vc_caseT ?_ | refine vc_caseF ?_ | refine vc_cons ?_ | refine vc_nil ?_ ?_ | refine vc_seq ?_
                 | refine vc_region ?_ | refine vc_cond ?_ | refine vc_block ?_ | refine vc_retc ?_ | refine vc_exit ?_ | refine vc_skip ?_ | refine vc_scope ?_ | refine vc_label ?_ | refine vc_goto ?_ | refine vc_wkSl0
                 | refine vc_wkHp0 | refine vc_eqAVs0 | refine vc_preG0 | refine vc_wkSl ?_ ?_ | refine vc_wkHp ?_ ?_ | refine vc_eqAVs ?_ ?_ | refine vc_preG ?_ ?_ | refine vc_side0 ?_
                 | refine vc_loopI (y := .seq (.seq (.region 3 _ _) _) _) 36 (fun (i : Nat) => [(0, .d (.int .u64 (n : Int))), (3, .sl 7 [] 1 0 ((padZ i).map byteD).length)]) (fun i => [(7, .row 1 ((padZ i).map byteD))]) (fun i => 64 - i) (fun i => i ≤ (119 - n % 64) % 64) 0 [(7, 3008)] ?_ ?_ ?_ ?_ ?_ (fun i hI => ?_)
                 | refine vc_nextI (i + 1 : Nat) [(7, 5008)] ?_ ?_ ?_ ?_ ?_ ?_
                 | refine vc_loopI (y := .seq (.seq (.region 7 _ _) _) _) 36 (fun (x : Nat × Unit) => [(3, .sl 7 [] 1 0 ((padL n x.1).map byteD).length), (4, .d (.int .u64 ((n * 8 % 18446744073709551616 : Nat) : Int))), (5, .d (.int .i64 (x.1 : Int)))]) (fun x => [(7, .row 1 ((padL n x.1).map byteD))]) (fun x => 8 - x.1) (fun x => x.1 ≤ 8) (0, ()) [] ?_ ?_ ?_ ?_ ?_ (fun x hM => ?_)
                 | refine vc_nextI (x.1 + 1, ()) [(7, 10036)] ?_ ?_ ?_ ?_ ?_ ?_ | refine vc_ret [true] [] ?_ | refine vc_weakf [] ?_ ?_ ?_ | refine vc_and ?_ ?_ | refine vc_ret [] [] ?_)
          | ((with_reducible first | refine vc_caseD (fun h => ?_) (fun h => ?_) | refine vc_caseN (fun h => ?_) (fun h => ?_)) <;> try (exfalso; omega))
          | ((with_reducible refine vc_case (fun h => ?_) (fun h => ?_)) <;> (try simp only [Go.Sym.vs1, reduceCtorEq] at h) <;> try (exfalso; first | omega | (simp at h; done)))))
  all_goals (try dsimp only)
  all_goals (try simp only [List.drop_zero, List.take_length])
  all_goals first
    | with_reducible rfl
    | omega
    | decide
    | (rw [padZ_app]; done)
    | (rw [mul8]; done)
    | exact wrapU64n _
    | exact ⟨⟨by simp, room_small rfl (by simp)⟩, fun y hy => by simp only [List.mem_singleton] at hy; subst hy; rfl⟩
    | (show D.int .i64 _ = D.int .i64 _; first | rfl | (congr 1; rw [wrap64_id (by omega) (by omega)]; omega))
    | skip
  all_goals first
    | (have hm := hM
       first
       | (have hj : x.1 < 8 := by omega
          (try rw [w56u x.1 hj, pad_byte n x.1 hj])
          first
          | omega
          | (rw [padL_app]; done)
          | (refine ⟨⟨by simp, by first | trivial | rfl, room_small rfl ?_⟩, fun y hy => ?_⟩
             · rw [List.length_append, List.length_map, padL_length]
               show _ + 1 ≤ _
               omega
             · simp only [List.mem_singleton] at hy; subst hy; rfl))
       | (have e : x.1 = 8 := by omega
          rw [e]
          first
          | exact ⟨Nat.le_of_eq (Nat.zero_add _), trivial⟩
          | rfl)
       | skip)
    | (have hi := hI
       rw [pad_cond n i hn (by omega)] at h
       first
       | omega
       | (refine ⟨⟨by simp, by first | trivial | rfl, room_small rfl ?_⟩, fun y hy => ?_⟩
          · rw [List.length_append, List.length_map, padZ_length]
            show _ + 1 ≤ _
            omega
          · simp only [List.mem_singleton] at hy; subst hy; rfl)
       | (have e : i = (119 - n % 64) % 64 := by omega
          rw [e]
          simp [padL]; done)
       | skip)
    | rfl
    | skip

end Go.Proofs.Ytcdjheiccefcdaa
