import Derived.Test.YtcdjheiccefcdaaJ4
import Derived.Test.YtcdjheiccefcdaaJ5
import Derived.Test.YtcdjheiccefcdaaJ6
import Derived.Test.YtcdjheiccefcdaaJ7
set_option linter.unusedSimpArgs false
set_option linter.unusedVariables false
/-
Roots followed, one behind the other; the next epoch's root sealed.
-/
set_option linter.unusedSimpArgs false
set_option linter.unusedVariables false
namespace Go.Proofs.Ytcdjheiccefcdaa
open Go.Sym
set_option maxRecDepth 10000
set_option maxHeartbeats 4000000

theorem sgn_at {l : List Sgn} {i : Nat} (hi : i < l.length) : (l.map sD).getD i .nilp = sD (l.getD i s0) := (map_at (f := sD) (d := s0) hi).1
theorem wfS_at {l : List Sgn} (hl : ∀ s, s ∈ l → wfS s) {i : Nat} (hi : i < l.length) : wfS (l.getD i s0) := hl _ (by rw [List.getD_eq_getElem?_getD, List.getElem?_eq_getElem hi]; simp)

theorem walk_ok (g : Hd) (l : List Sgn) (hg : wfH g) (hl : ∀ s, s ∈ l → wfS s) (hm : l.length < 2 ^ 63) : LocalCall Try.prog 27 [.d (hdD g), .d (.sl (l.map sD))] [] [] (one [.d (hdD (walk g l).1), .d (.int .i64 ((walk g l).2.1 : Int)), .d (.int .i64 (walk g l).2.2)]) [] := by
  have fo : ∀ (g : Hd) (i : Nat), i < l.length → wfH g → LocalCall Try.prog 29 [.d (hdD g), .d (sD (l.getD i s0))] [] [] (one [.d (hdD (folH g (l.getD i s0))), .d (.int .i64 (folE g (l.getD i s0)))]) [] := fun g i hi hg => follow_ok g _ hg (wfS_at hl hi)
  have lm : (l.map sD).length = l.length := List.length_map _
  refine vc_fn mixed Try.func27 rfl rfl [] (vc_chk rfl) ?_
  repeat' (first
      | ((with_reducible refine vc_chk ?_); first | decide +kernel | rfl)
      | (with_reducible refine vc_side0 ?_; rfl)
      | (with_reducible first
           | refine vc_true ?_ | refine vc_true2 ?_ | refine vc_side ?_ ?_ | refine vc_triv | refine vc_later ?_ | refine vc_caseT ?_ | refine vc_caseF ?_ | refine vc_cons ?_ | refine vc_nil ?_ ?_ | refine vc_seq ?_
              | refine vc_region ?_ | refine vc_cond ?_ | refine vc_block ?_ | refine vc_retc ?_ | refine vc_exit ?_ | refine vc_skip ?_ | refine vc_scope ?_ | refine vc_label ?_ | refine vc_goto ?_ | refine vc_wkSl0
              | refine vc_wkHp0 | refine vc_eqAVs0 | refine vc_preG0 | refine vc_wkSl ?_ ?_ | refine vc_wkHp ?_ ?_ | refine vc_eqAVs ?_ ?_ | refine vc_preG ?_ ?_ | refine vc_side0 ?_
              | refine vc_loopI 34 (fun (x : Hd × Nat) => [(1, .d (.sl (l.map sD))), (2, .ptr 1000 []), (4, .ptr 1004 []), (11, .d (.int .i64 ((l.map sD).length : Nat))), (12, .d (.int .i64 (x.2 : Int)))]) (fun x => [(1000, .var (.d (hdD x.1))), (1004, .var (.d (hdD hd0)))]) (fun x => l.length - x.2) (fun x => x.2 ≤ l.length ∧ walkAt g l x.1 x.2 ∧ wfH x.1) (g, 0) [] ?_ ?_ ?_ ?_ ?_ (fun x hI => ?_)
              | refine vc_call [] (fo x.1 x.2 (by omega) hI.2.2) ?_ | refine vc_nextI (folY (l.getD x.2 s0), x.2 + 1) [] ?_ ?_ ?_ ?_ ?_ ?_ | refine vc_weakf [] ?_ ?_ ?_ | refine vc_and ?_ ?_ | refine vc_ret [] [] ?_)
      | ((with_reducible first | refine vc_caseD (fun h => ?_) (fun h => ?_) | refine vc_caseN (fun h => ?_) (fun h => ?_)) <;> try (exfalso; omega))
      | ((with_reducible refine vc_case (fun h => ?_) (fun h => ?_)) <;> (try simp only [Go.Sym.vs1, reduceCtorEq] at h) <;> try (exfalso; first | omega | (simp at h; done)))
      | (conv in Vc _ => arg 1; whnf
         first
          | (with_reducible refine vc_side0 ?_; rfl)
          | (with_reducible first
              | refine vc_true ?_ | refine vc_true2 ?_ | refine vc_side ?_ ?_ | refine vc_triv | refine vc_later ?_ | refine vc_caseT ?_ | refine vc_caseF ?_ | refine vc_cons ?_ | refine vc_nil ?_ ?_ | refine vc_seq ?_
                 | refine vc_region ?_ | refine vc_cond ?_ | refine vc_block ?_ | refine vc_retc ?_ | refine vc_exit ?_ | refine vc_skip ?_ | refine vc_scope ?_ | refine vc_label ?_ | refine vc_goto ?_ | refine vc_wkSl0
                 | refine vc_wkHp0 | refine vc_eqAVs0 | refine vc_preG0 | refine vc_wkSl ?_ ?_ | refine vc_wkHp ?_ ?_ | refine vc_eqAVs ?_ ?_ | refine vc_preG ?_ ?_ | refine vc_side0 ?_
                 | refine vc_loopI 34 (fun (x : Hd × Nat) => [(1, .d (.sl (l.map sD))), (2, .ptr 1000 []), (4, .ptr 1004 []), (11, .d (.int .i64 ((l.map sD).length : Nat))), (12, .d (.int .i64 (x.2 : Int)))]) (fun x => [(1000, .var (.d (hdD x.1))), (1004, .var (.d (hdD hd0)))]) (fun x => l.length - x.2) (fun x => x.2 ≤ l.length ∧ walkAt g l x.1 x.2 ∧ wfH x.1) (g, 0) [] ?_ ?_ ?_ ?_ ?_ (fun x hI => ?_)
                 | refine vc_call [] (fo x.1 x.2 (by omega) hI.2.2) ?_ | refine vc_nextI (folY (l.getD x.2 s0), x.2 + 1) [] ?_ ?_ ?_ ?_ ?_ ?_ | refine vc_weakf [] ?_ ?_ ?_ | refine vc_and ?_ ?_ | refine vc_ret [] [] ?_)
          | ((with_reducible first | refine vc_caseD (fun h => ?_) (fun h => ?_) | refine vc_caseN (fun h => ?_) (fun h => ?_)) <;> try (exfalso; omega))
          | ((with_reducible refine vc_case (fun h => ?_) (fun h => ?_)) <;> (try simp only [Go.Sym.vs1, reduceCtorEq] at h) <;> try (exfalso; first | omega | (simp at h; done)))))
  all_goals first
    | with_reducible rfl
    | exact ⟨Nat.zero_le _, walkAt_zero _ _, hg⟩
    | exact ⟨trivial, trivial, trivial, trivial⟩
    | exact ⟨⟨by omega, by omega⟩, by rw [Int.toNat_natCast, sgn_at (by omega)]; rfl⟩
    | (show D.st _ = sD _; simp only [Int.toNat_natCast, sgn_at (show x.2 < l.length by omega)]; rfl)
    | (rw [walkAt_no hI.2.1 (by omega) h]; first | done | rfl)
    | exact ⟨by show x.2 + 1 ≤ l.length; omega, walkAt_yes hI.2.1 (by omega) h, wf_folY (wfS_at hl (by omega))⟩
    | (show l.length - (x.2 + 1) < l.length - x.2; omega)
    | (rw [wrap64_id (by omega) (by omega)]; rfl)
    | (unfold folH; rw [decide_eq_true h]; rfl)
    | (rw [walkAt_end hI.2.1 (by omega)]; first | done | rfl)
    | (rw [walkAt_end hI.2.1 (by omega)]; exact congrArg (D.int .i64) (show ((l.map sD).length : Int) = (x.2 : Int) by omega))
    | rfl
    | trace_state

/-- The next epoch's root, signed. -/
def sealRt (seed : List UInt8) (g : Hd) (tree : List UInt8) : Rt := ⟨g.epoch + 1, g.root, tree, pubH seed (g.epoch + 2)⟩
def sealS (seed : List UInt8) (g : Hd) (tree : List UInt8) : Sgn := ⟨sealRt seed g tree, signP (keyH seed (g.epoch + 1)) (shaB (rootB (sealRt seed g tree)))⟩
theorem wf_seal (seed : List UInt8) {g : Hd} (hg : wfH g) (he : g.epoch < 64) {tree : List UInt8} (ht : tree.length = 32) : wfS (sealS seed g tree) := ⟨by show g.epoch + 1 < _; omega, hg.2.1, ht, pubH_length _ _⟩
def sealE (g : Hd) : Int := bif decide (64 ≤ g.epoch) then 12 else 0
def sealR (seed : List UInt8) (g : Hd) (tree : List UInt8) : Sgn := bif decide (64 ≤ g.epoch) then s0 else sealS seed g tree

end Go.Proofs.Ytcdjheiccefcdaa

/-
What path.Common, path.Cut, path.Under and path.Less do.
-/
set_option linter.unusedSimpArgs false
set_option linter.unusedVariables false
namespace Go.Proofs.Ytcdjheiccefcdaa
open Go.Sym
set_option maxRecDepth 10000

end Go.Proofs.Ytcdjheiccefcdaa

/-
What the references of the path layer do.
-/
set_option linter.unusedSimpArgs false
set_option linter.unusedVariables false
namespace Go.Proofs.Ytcdjheiccefcdaa
open Go.Sym
set_option maxRecDepth 10000
set_option maxHeartbeats 1000000

theorem shr_half (c : UInt8) (j : Nat) : IntKind.i64.wrap (((c.toNat >>> j : Nat) : Int).tdiv 2) = ((c.toNat >>> (j + 1) : Nat) : Int) := by
  have h1 : c.toNat >>> (j + 1) = (c.toNat >>> j) / 2 := Nat.shiftRight_succ _ _
  have h2 : c.toNat >>> j ≤ c.toNat := by rw [Nat.shiftRight_eq_div_pow]; exact Nat.div_le_self _ _
  have h3 := c.toNat_lt
  rw [h1]
  generalize c.toNat >>> j = q at h2
  rw [Int.tdiv_eq_ediv_of_nonneg (by omega), wrap64_id (by omega) (by omega)]; omega

theorem shr_bit (c m : Nat) : (((c >>> m : Nat) : Int).tmod 2 == 1) = c.testBit m := by
  rw [Nat.testBit_eq_decide_div_mod_eq, ← Nat.shiftRight_eq_div_pow]
  generalize c >>> m = q
  rw [Int.tmod_eq_emod_of_nonneg (by omega)]
  rw [Bool.eq_iff_iff]
  simp
  omega

theorem rBit_ok (xs : List D) (bs : List UInt8) (hx : xs = bs.map byteD) (hb : bs.length = 32) (i : Int) : LocalCall Try.prog 47 [.d (.arr 32 1 xs), .d (.int .i64 i)] [] [] (one [.d (.bool (bitI bs i))]) [] := by
  subst hx
  refine vc_fn mixed Try.func47 rfl rfl [] (vc_chk rfl) ?_
  repeat' (first
      | ((with_reducible refine vc_chk ?_); first | decide +kernel | rfl)
      | (with_reducible refine vc_side0 ?_; rfl)
      | (with_reducible first
           | refine vc_true ?_ | refine vc_true2 ?_ | refine vc_side ?_ ?_ | refine vc_triv | refine vc_later ?_ | refine vc_caseT ?_ | refine vc_caseF ?_ | refine vc_cons ?_ | refine vc_nil ?_ ?_ | refine vc_seq ?_
              | refine vc_region ?_ | refine vc_cond ?_ | refine vc_block ?_ | refine vc_retc ?_ | refine vc_exit ?_ | refine vc_skip ?_ | refine vc_scope ?_ | refine vc_label ?_ | refine vc_goto ?_ | refine vc_wkSl0
              | refine vc_wkHp0 | refine vc_eqAVs0 | refine vc_preG0 | refine vc_wkSl ?_ ?_ | refine vc_wkHp ?_ ?_ | refine vc_eqAVs ?_ ?_ | refine vc_preG ?_ ?_ | refine vc_side0 ?_
              | refine vc_loopI 29 (fun (j : Nat) => [(1, .d (.int .i64 i)), (5, .d (.int .i64 (((bs.getD (i.toNat / 8) 0).toNat >>> j : Nat) : Int))), (6, .d (.int .i64 ((7 - j : Nat) : Int)))]) (fun _ => []) (fun j => 7 - j) (fun j => j ≤ 7 - i.toNat % 8) 0 [] ?_ ?_ ?_ ?_ ?_ (fun j hj => ?_)
              | refine vc_nextI (j + 1) [] ?_ ?_ ?_ ?_ ?_ ?_ | refine vc_weakf [] ?_ ?_ ?_ | refine vc_and ?_ ?_ | refine vc_ret [] [] ?_)
      | ((with_reducible first | refine vc_caseD (fun h => ?_) (fun h => ?_) | refine vc_caseN (fun h => ?_) (fun h => ?_)) <;> try (exfalso; omega))
      | ((with_reducible refine vc_case (fun h => ?_) (fun h => ?_)) <;> (try simp at h) <;> try (exfalso; omega))
      | (conv in Vc _ => arg 1; whnf
         first
          | (with_reducible refine vc_side0 ?_; rfl)
          | (with_reducible first
              | refine vc_true ?_ | refine vc_true2 ?_ | refine vc_side ?_ ?_ | refine vc_triv | refine vc_later ?_ | refine vc_caseT ?_ | refine vc_caseF ?_ | refine vc_cons ?_ | refine vc_nil ?_ ?_ | refine vc_seq ?_
                 | refine vc_region ?_ | refine vc_cond ?_ | refine vc_block ?_ | refine vc_retc ?_ | refine vc_exit ?_ | refine vc_skip ?_ | refine vc_scope ?_ | refine vc_label ?_ | refine vc_goto ?_ | refine vc_wkSl0
                 | refine vc_wkHp0 | refine vc_eqAVs0 | refine vc_preG0 | refine vc_wkSl ?_ ?_ | refine vc_wkHp ?_ ?_ | refine vc_eqAVs ?_ ?_ | refine vc_preG ?_ ?_ | refine vc_side0 ?_
                 | refine vc_loopI 29 (fun (j : Nat) => [(1, .d (.int .i64 i)), (5, .d (.int .i64 (((bs.getD (i.toNat / 8) 0).toNat >>> j : Nat) : Int))), (6, .d (.int .i64 ((7 - j : Nat) : Int)))]) (fun _ => []) (fun j => 7 - j) (fun j => j ≤ 7 - i.toNat % 8) 0 [] ?_ ?_ ?_ ?_ ?_ (fun j hj => ?_)
                 | refine vc_nextI (j + 1) [] ?_ ?_ ?_ ?_ ?_ ?_ | refine vc_weakf [] ?_ ?_ ?_ | refine vc_and ?_ ?_ | refine vc_ret [] [] ?_)
          | ((with_reducible first | refine vc_caseD (fun h => ?_) (fun h => ?_) | refine vc_caseN (fun h => ?_) (fun h => ?_)) <;> try (exfalso; omega))
          | ((with_reducible refine vc_case (fun h => ?_) (fun h => ?_)) <;> (try simp at h) <;> try (exfalso; omega))))
  all_goals first | rw [bitI_neg bs (by omega)] | rw [bitI_big bs (by omega)] | skip
  all_goals
    obtain ⟨n, rfl⟩ : ∃ n : Nat, i = n := ⟨i.toNat, by omega⟩
    have hn : n < 256 := by omega
    have hc := (bs.getD (n / 8) 0).toNat_lt
    try simp only [div8 hn, mod8, Int.toNat_natCast, getD_byte (show n / 8 < bs.length by omega)] at *
  all_goals first
    | rfl
    | omega
    | exact ⟨⟨by omega, trivial⟩, rfl⟩
    | (simp only [byteD, D.toInt]; rw [wrap64_id (by omega) (by omega)]; rfl)
    | (rw [shr_half])
    | (rw [wrap64_id (by omega) (by omega)]; congr 1; omega)
    | (obtain rfl : j = 7 - n % 8 := by omega
       rw [bitI_nat bs hn]; exact congrArg D.bool (shr_bit _ _))

end Go.Proofs.Ytcdjheiccefcdaa

/-
The document's answer of what signs once.
-/
set_option linter.unusedSimpArgs false
set_option linter.unusedVariables false
namespace Go.Proofs.Ytcdjheiccefcdaa
open Go.Sym
set_option maxRecDepth 10000
set_option maxHeartbeats 1000000

theorem rPart_ok (seed : List UInt8) (hs : seed.length = 32) (key : Nat) (hk : key < 2 ^ 64) (i : Nat) (hi : i < 256) (on : Bool) :
    LocalCall Try.prog 85 [.d (.arr 32 1 (seed.map byteD)), .d (.int .u64 (key : Int)), .d (.int .i64 (i : Int)), .d (.bool on)] [] [] (one [.d (.arr 32 1 ((keyH seed key i on).map byteD))]) [] := by
  have c0 := rKeyOf_ok seed hs key hk i hi 0 (.inl rfl)
  have c1 := rKeyOf_ok seed hs key hk i hi 1 (.inr rfl)
  rw [decide_eq_false (by decide)] at c0
  rw [decide_eq_true rfl] at c1
  refine vc_fn mixed Try.func85 rfl rfl [] (vc_chk rfl) ?_
  repeat' (first
      | ((with_reducible refine vc_chk ?_); first | decide +kernel | rfl)
      | (with_reducible refine vc_side0 ?_; rfl)
      | (with_reducible first
           | refine vc_true ?_ | refine vc_true2 ?_ | refine vc_side ?_ ?_ | refine vc_triv | refine vc_later ?_ | refine vc_caseT ?_ | refine vc_caseF ?_ | refine vc_cons ?_ | refine vc_nil ?_ ?_ | refine vc_seq ?_
              | refine vc_region ?_ | refine vc_cond ?_ | refine vc_block ?_ | refine vc_retc ?_ | refine vc_exit ?_ | refine vc_skip ?_ | refine vc_scope ?_ | refine vc_label ?_ | refine vc_goto ?_ | refine vc_wkSl0
              | refine vc_wkHp0 | refine vc_eqAVs0 | refine vc_preG0 | refine vc_wkSl ?_ ?_ | refine vc_wkHp ?_ ?_ | refine vc_eqAVs ?_ ?_ | refine vc_preG ?_ ?_ | refine vc_side0 ?_ | refine vc_pure c0 ?_ ?_ ?_
              | refine vc_pure c1 ?_ ?_ ?_ | refine vc_weakf [] ?_ ?_ ?_ | refine vc_and ?_ ?_ | refine vc_ret [] [] ?_)
      | ((with_reducible first | refine vc_caseD (fun h => ?_) (fun h => ?_) | refine vc_caseN (fun h => ?_) (fun h => ?_)) <;> try (exfalso; omega))
      | ((with_reducible refine vc_case (fun h => ?_) (fun h => ?_)) <;> (try simp only [Go.Sym.vs1, reduceCtorEq] at h) <;> try (exfalso; first | omega | (simp at h; done)))
      | (conv in Vc _ => arg 1; whnf
         first
          | (with_reducible refine vc_side0 ?_; rfl)
          | (with_reducible first
              | refine vc_true ?_ | refine vc_true2 ?_ | refine vc_side ?_ ?_ | refine vc_triv | refine vc_later ?_ | refine vc_caseT ?_ | refine vc_caseF ?_ | refine vc_cons ?_ | refine vc_nil ?_ ?_ | refine vc_seq ?_
                 | refine vc_region ?_ | refine vc_cond ?_ | refine vc_block ?_ | refine vc_retc ?_ | refine vc_exit ?_ | refine vc_skip ?_ | refine vc_scope ?_ | refine vc_label ?_ | refine vc_goto ?_ | refine vc_wkSl0
                 | refine vc_wkHp0 | refine vc_eqAVs0 | refine vc_preG0 | refine vc_wkSl ?_ ?_ | refine vc_wkHp ?_ ?_ | refine vc_eqAVs ?_ ?_ | refine vc_preG ?_ ?_ | refine vc_side0 ?_ | refine vc_pure c0 ?_ ?_ ?_
                 | refine vc_pure c1 ?_ ?_ ?_ | refine vc_weakf [] ?_ ?_ ?_ | refine vc_and ?_ ?_ | refine vc_ret [] [] ?_)
          | ((with_reducible first | refine vc_caseD (fun h => ?_) (fun h => ?_) | refine vc_caseN (fun h => ?_) (fun h => ?_)) <;> try (exfalso; omega))
          | ((with_reducible refine vc_case (fun h => ?_) (fun h => ?_)) <;> (try simp only [Go.Sym.vs1, reduceCtorEq] at h) <;> try (exfalso; first | omega | (simp at h; done)))))
  all_goals first
    | rfl
    | (subst h; rfl)
    | skip

theorem rHashed_ok (seed : List UInt8) (hs : seed.length = 32) (key : Nat) (hk : key < 2 ^ 64) (i : Nat) (hi : i < 256) (on : Bool) :
    LocalCall Try.prog 71 [.d (.arr 32 1 (seed.map byteD)), .d (.int .u64 (key : Int)), .d (.int .i64 (i : Int)), .d (.bool on)] [] [] (one [.d (.arr 32 1 ((shaB (keyH seed key i on)).map byteD))]) [] := by
  have c0 := rPart_ok seed hs key hk i hi on
  have c1 := rOf_ok (keyH seed key i on) (by rw [keyH_length]; decide)
  refine vc_fn mixed Try.func71 rfl rfl [] (vc_chk rfl) ?_
  repeat' (first
      | ((with_reducible refine vc_chk ?_); first | decide +kernel | rfl)
      | (with_reducible refine vc_side0 ?_; rfl)
      | (with_reducible first
           | refine vc_true ?_ | refine vc_true2 ?_ | refine vc_side ?_ ?_ | refine vc_triv | refine vc_later ?_ | refine vc_caseT ?_ | refine vc_caseF ?_ | refine vc_cons ?_ | refine vc_nil ?_ ?_ | refine vc_seq ?_
              | refine vc_region ?_ | refine vc_cond ?_ | refine vc_block ?_ | refine vc_retc ?_ | refine vc_exit ?_ | refine vc_skip ?_ | refine vc_scope ?_ | refine vc_label ?_ | refine vc_goto ?_ | refine vc_wkSl0
              | refine vc_wkHp0 | refine vc_eqAVs0 | refine vc_preG0 | refine vc_wkSl ?_ ?_ | refine vc_wkHp ?_ ?_ | refine vc_eqAVs ?_ ?_ | refine vc_preG ?_ ?_ | refine vc_side0 ?_ | refine vc_pure c0 ?_ ?_ ?_
              | refine vc_call [true] c1 ?_ | refine vc_weakf [] ?_ ?_ ?_ | refine vc_and ?_ ?_ | refine vc_ret [] [] ?_)
      | ((with_reducible first | refine vc_caseD (fun h => ?_) (fun h => ?_) | refine vc_caseN (fun h => ?_) (fun h => ?_)) <;> try (exfalso; omega))
      | ((with_reducible refine vc_case (fun h => ?_) (fun h => ?_)) <;> (try simp only [Go.Sym.vs1, reduceCtorEq] at h) <;> try (exfalso; first | omega | (simp at h; done)))
      | (conv in Vc _ => arg 1; whnf
         first
          | (with_reducible refine vc_side0 ?_; rfl)
          | (with_reducible first
              | refine vc_true ?_ | refine vc_true2 ?_ | refine vc_side ?_ ?_ | refine vc_triv | refine vc_later ?_ | refine vc_caseT ?_ | refine vc_caseF ?_ | refine vc_cons ?_ | refine vc_nil ?_ ?_ | refine vc_seq ?_
                 | refine vc_region ?_ | refine vc_cond ?_ | refine vc_block ?_ | refine vc_retc ?_ | refine vc_exit ?_ | refine vc_skip ?_ | refine vc_scope ?_ | refine vc_label ?_ | refine vc_goto ?_ | refine vc_wkSl0
                 | refine vc_wkHp0 | refine vc_eqAVs0 | refine vc_preG0 | refine vc_wkSl ?_ ?_ | refine vc_wkHp ?_ ?_ | refine vc_eqAVs ?_ ?_ | refine vc_preG ?_ ?_ | refine vc_side0 ?_ | refine vc_pure c0 ?_ ?_ ?_
                 | refine vc_call [true] c1 ?_ | refine vc_weakf [] ?_ ?_ ?_ | refine vc_and ?_ ?_ | refine vc_ret [] [] ?_)
          | ((with_reducible first | refine vc_caseD (fun h => ?_) (fun h => ?_) | refine vc_caseN (fun h => ?_) (fun h => ?_)) <;> try (exfalso; omega))
          | ((with_reducible refine vc_case (fun h => ?_) (fun h => ?_)) <;> (try simp only [Go.Sym.vs1, reduceCtorEq] at h) <;> try (exfalso; first | omega | (simp at h; done)))))
  all_goals (try simp only [take32d (keyH_length _ _ _ _)])
  all_goals first
    | rfl
    | exact ⟨⟨by decide, by decide, by decide⟩, trivial⟩
    | exact ⟨⟨trivial, len32 (keyH_length _ _ _ _)⟩, trivial⟩
    | exact ⟨trivial, trivial, trivial⟩
    | skip

theorem lrText_ok (seed : List UInt8) (hs : seed.length = 32) (key : Nat) (hk : key < 2 ^ 64) :
    LocalCall Try.prog 46 [.d (.arr 32 1 (seed.map byteD)), .d (.int .u64 (key : Int))] [] [] (one [.d (.sl ((textP (keyH seed key)).map byteD))]) [] := by
  have hc0 : ∀ i : Nat, i < 256 → _ := fun i hi => rHashed_ok seed hs key hk i hi false
  have hc1 : ∀ i : Nat, i < 256 → _ := fun i hi => rHashed_ok seed hs key hk i hi true
  refine vc_fn mixed Try.func46 rfl rfl [] (vc_chk rfl) ?_
  repeat' (first
      | ((with_reducible refine vc_chk ?_); first | decide +kernel | rfl)
      | (with_reducible refine vc_side0 ?_; rfl)
      | (with_reducible first
           | refine vc_true ?_ | refine vc_true2 ?_ | refine vc_side ?_ ?_ | refine vc_triv | refine vc_later ?_ | refine vc_caseT ?_ | refine vc_caseF ?_ | refine vc_cons ?_ | refine vc_nil ?_ ?_ | refine vc_seq ?_
              | refine vc_region ?_ | refine vc_cond ?_ | refine vc_block ?_ | refine vc_retc ?_ | refine vc_exit ?_ | refine vc_skip ?_ | refine vc_scope ?_ | refine vc_label ?_ | refine vc_goto ?_ | refine vc_wkSl0
              | refine vc_wkHp0 | refine vc_eqAVs0 | refine vc_preG0 | refine vc_wkSl ?_ ?_ | refine vc_wkHp ?_ ?_ | refine vc_eqAVs ?_ ?_ | refine vc_preG ?_ ?_ | refine vc_side0 ?_
              | refine vc_loopI 31 (fun (i : Nat) => [(1, .d (.int .u64 (key : Int))), (2, .ptr 1000 []), (5, .sl 7 [] 1 0 ((textN (keyH seed key) i).map byteD).length), (6, .d (.int .i64 (i : Int)))]) (fun i => [(1000, .var (.d (.arr 32 1 (seed.map byteD)))), (7, .row 1 ((textN (keyH seed key) i).map byteD))]) (fun i => 256 - i) (fun i => i ≤ 256) 0 [(7, 2000)] ?_ ?_ ?_ ?_ ?_ (fun i hI => ?_)
              | refine vc_pure (hc0 i (by omega)) ?_ ?_ ?_ | refine vc_pure (hc1 i (by omega)) ?_ ?_ ?_ | refine vc_nextI (i + 1) [(7, 10008)] ?_ ?_ ?_ ?_ ?_ ?_ | refine vc_ret [true] [] ?_ | refine vc_weakf [] ?_ ?_ ?_
              | refine vc_and ?_ ?_ | refine vc_ret [] [] ?_)
      | ((with_reducible first | refine vc_caseD (fun h => ?_) (fun h => ?_) | refine vc_caseN (fun h => ?_) (fun h => ?_)) <;> try (exfalso; omega))
      | ((with_reducible refine vc_case (fun h => ?_) (fun h => ?_)) <;> (try simp only [Go.Sym.vs1, reduceCtorEq] at h) <;> try (exfalso; first | omega | (simp at h; done)))
      | (conv in Vc _ => arg 1; whnf
         first
          | (with_reducible refine vc_side0 ?_; rfl)
          | (with_reducible first
              | refine vc_true ?_ | refine vc_true2 ?_ | refine vc_side ?_ ?_ | refine vc_triv | refine vc_later ?_ | refine vc_caseT ?_ | refine vc_caseF ?_ | refine vc_cons ?_ | refine vc_nil ?_ ?_ | refine vc_seq ?_
                 | refine vc_region ?_ | refine vc_cond ?_ | refine vc_block ?_ | refine vc_retc ?_ | refine vc_exit ?_ | refine vc_skip ?_ | refine vc_scope ?_ | refine vc_label ?_ | refine vc_goto ?_ | refine vc_wkSl0
                 | refine vc_wkHp0 | refine vc_eqAVs0 | refine vc_preG0 | refine vc_wkSl ?_ ?_ | refine vc_wkHp ?_ ?_ | refine vc_eqAVs ?_ ?_ | refine vc_preG ?_ ?_ | refine vc_side0 ?_
                 | refine vc_loopI 31 (fun (i : Nat) => [(1, .d (.int .u64 (key : Int))), (2, .ptr 1000 []), (5, .sl 7 [] 1 0 ((textN (keyH seed key) i).map byteD).length), (6, .d (.int .i64 (i : Int)))]) (fun i => [(1000, .var (.d (.arr 32 1 (seed.map byteD)))), (7, .row 1 ((textN (keyH seed key) i).map byteD))]) (fun i => 256 - i) (fun i => i ≤ 256) 0 [(7, 2000)] ?_ ?_ ?_ ?_ ?_ (fun i hI => ?_)
                 | refine vc_pure (hc0 i (by omega)) ?_ ?_ ?_ | refine vc_pure (hc1 i (by omega)) ?_ ?_ ?_ | refine vc_nextI (i + 1) [(7, 10008)] ?_ ?_ ?_ ?_ ?_ ?_ | refine vc_ret [true] [] ?_ | refine vc_weakf [] ?_ ?_ ?_
                 | refine vc_and ?_ ?_ | refine vc_ret [] [] ?_)
          | ((with_reducible first | refine vc_caseD (fun h => ?_) (fun h => ?_) | refine vc_caseN (fun h => ?_) (fun h => ?_)) <;> try (exfalso; omega))
          | ((with_reducible refine vc_case (fun h => ?_) (fun h => ?_)) <;> (try simp only [Go.Sym.vs1, reduceCtorEq] at h) <;> try (exfalso; first | omega | (simp at h; done)))))
  all_goals (try simp only [Int.toNat_natCast, t32k, t32s])
  all_goals first
    | with_reducible rfl
    | omega
    | exact ⟨trivial, trivial⟩
    | exact ⟨trivial, trivial, trivial⟩
    | exact ⟨trivial, trivial, trivial, trivial⟩
    | exact ⟨⟨by decide, by decide, by decide⟩, trivial⟩
    | exact ⟨Nat.le_of_eq (Nat.zero_add _), trivial⟩
    | exact ⟨Nat.le_refl _, trivial, trivial⟩
    | (rw [wrap64_id (by omega) (by omega)]; rfl)
    | exact ⟨by decide, by decide, by decide, by decide⟩
    | (decide; done)
    | exact ⟨⟨⟨trivial, len32 (shaB_length _)⟩, trivial, roomJ (by simp only [List.length_append, List.length_map, textN_length, shaB_length]; omega)⟩, fun y hy => size_bytes _ y hy⟩
    | (rw [← textN_succ]; done)
    | ((obtain rfl : i = 256 := (by omega)); rw [List.drop_zero, List.take_length]; rfl)
    | rfl
    | (exfalso; simp at h; done)
    | skip

theorem rPublic_ok (seed : List UInt8) (hs : seed.length = 32) (key : Nat) (hk : key < 2 ^ 64) :
    LocalCall Try.prog 39 [.d (.arr 32 1 (seed.map byteD)), .d (.int .u64 (key : Int))] [] [] (one [.d (.arr 32 1 ((shaB (textP (keyH seed key))).map byteD))]) [] := by
  have c1 := lrText_ok seed hs key hk
  have c2 := rOf_ok (textP (keyH seed key)) (by rw [textP_length]; decide)
  refine vc_fn mixed Try.func39 rfl rfl [] (vc_chk rfl) ?_
  repeat' (first
      | ((with_reducible refine vc_chk ?_); first | decide +kernel | rfl)
      | (with_reducible refine vc_side0 ?_; rfl)
      | (with_reducible first
           | refine vc_true ?_ | refine vc_true2 ?_ | refine vc_side ?_ ?_ | refine vc_triv | refine vc_later ?_ | refine vc_caseT ?_ | refine vc_caseF ?_ | refine vc_cons ?_ | refine vc_nil ?_ ?_ | refine vc_seq ?_
              | refine vc_region ?_ | refine vc_cond ?_ | refine vc_block ?_ | refine vc_retc ?_ | refine vc_exit ?_ | refine vc_skip ?_ | refine vc_scope ?_ | refine vc_label ?_ | refine vc_goto ?_ | refine vc_wkSl0
              | refine vc_wkHp0 | refine vc_eqAVs0 | refine vc_preG0 | refine vc_wkSl ?_ ?_ | refine vc_wkHp ?_ ?_ | refine vc_eqAVs ?_ ?_ | refine vc_preG ?_ ?_ | refine vc_side0 ?_ | refine vc_pure c1 ?_ ?_ ?_
              | refine vc_pure c2 ?_ ?_ ?_ | refine vc_weakf [] ?_ ?_ ?_ | refine vc_and ?_ ?_ | refine vc_ret [] [] ?_)
      | ((with_reducible first | refine vc_caseD (fun h => ?_) (fun h => ?_) | refine vc_caseN (fun h => ?_) (fun h => ?_)) <;> try (exfalso; omega))
      | ((with_reducible refine vc_case (fun h => ?_) (fun h => ?_)) <;> (try simp only [Go.Sym.vs1, reduceCtorEq] at h) <;> try (exfalso; first | omega | (simp at h; done)))
      | (conv in Vc _ => arg 1; whnf
         first
          | (with_reducible refine vc_side0 ?_; rfl)
          | (with_reducible first
              | refine vc_true ?_ | refine vc_true2 ?_ | refine vc_side ?_ ?_ | refine vc_triv | refine vc_later ?_ | refine vc_caseT ?_ | refine vc_caseF ?_ | refine vc_cons ?_ | refine vc_nil ?_ ?_ | refine vc_seq ?_
                 | refine vc_region ?_ | refine vc_cond ?_ | refine vc_block ?_ | refine vc_retc ?_ | refine vc_exit ?_ | refine vc_skip ?_ | refine vc_scope ?_ | refine vc_label ?_ | refine vc_goto ?_ | refine vc_wkSl0
                 | refine vc_wkHp0 | refine vc_eqAVs0 | refine vc_preG0 | refine vc_wkSl ?_ ?_ | refine vc_wkHp ?_ ?_ | refine vc_eqAVs ?_ ?_ | refine vc_preG ?_ ?_ | refine vc_side0 ?_ | refine vc_pure c1 ?_ ?_ ?_
                 | refine vc_pure c2 ?_ ?_ ?_ | refine vc_weakf [] ?_ ?_ ?_ | refine vc_and ?_ ?_ | refine vc_ret [] [] ?_)
          | ((with_reducible first | refine vc_caseD (fun h => ?_) (fun h => ?_) | refine vc_caseN (fun h => ?_) (fun h => ?_)) <;> try (exfalso; omega))
          | ((with_reducible refine vc_case (fun h => ?_) (fun h => ?_)) <;> (try simp only [Go.Sym.vs1, reduceCtorEq] at h) <;> try (exfalso; first | omega | (simp at h; done)))))
  all_goals first
    | rfl
    | skip

theorem rSign_ok (seed : List UInt8) (hs : seed.length = 32) (key : Nat) (hk : key < 2 ^ 64) (b : List UInt8) (hb : b.length < 2 ^ 28) :
    LocalCall Try.prog 69 [.d (.arr 32 1 (seed.map byteD)), .d (.int .u64 (key : Int)), .d (.sl (b.map byteD))] [] [] (one [.d (.sl ((signP (keyH seed key) (shaB b)).map byteD))]) [] := by
  have c1 := rOf_ok b hb
  generalize hd : shaB b = d at c1
  have ld : d.length = 32 := by rw [← hd]; exact shaB_length b
  have cb : ∀ i : Nat, i < 256 → LocalCall Try.prog 47 [.d (.arr 32 1 (d.map byteD)), .d (.int .i64 (i : Int))] [] [] (one [.d (.bool (bitB d i))]) [] := fun i hi => by
    have h := rBit_ok (d.map byteD) d rfl ld (i : Int)
    rwa [bitI_nat d hi] at h
  have cp : ∀ i : Nat, i < 256 → _ := fun i hi => rPart_ok seed hs key hk i hi (bitB d i)
  have ch : ∀ i : Nat, i < 256 → _ := fun i hi => rHashed_ok seed hs key hk i hi (!bitB d i)
  refine vc_fn mixed Try.func69 rfl rfl [] (vc_chk rfl) ?_
  repeat' (first
      | ((with_reducible refine vc_chk ?_); first | decide +kernel | rfl)
      | (with_reducible refine vc_side0 ?_; rfl)
      | (with_reducible first
           | refine vc_true ?_ | refine vc_true2 ?_ | refine vc_side ?_ ?_ | refine vc_triv | refine vc_later ?_ | refine vc_caseT ?_ | refine vc_caseF ?_ | refine vc_cons ?_ | refine vc_nil ?_ ?_ | refine vc_seq ?_
              | refine vc_region ?_ | refine vc_cond ?_ | refine vc_block ?_ | refine vc_retc ?_ | refine vc_exit ?_ | refine vc_skip ?_ | refine vc_scope ?_ | refine vc_label ?_ | refine vc_goto ?_ | refine vc_wkSl0
              | refine vc_wkHp0 | refine vc_eqAVs0 | refine vc_preG0 | refine vc_wkSl ?_ ?_ | refine vc_wkHp ?_ ?_ | refine vc_eqAVs ?_ ?_ | refine vc_preG ?_ ?_ | refine vc_side0 ?_
              | refine vc_loopI 41 (fun (i : Nat) => [(1, .d (.int .u64 (key : Int))), (3, .ptr 1000 []), (7, .ptr 2008 []), (8, .sl 9 [] 1 0 ((signN (keyH seed key) d i).map byteD).length), (9, .d (.int .i64 (i : Int)))]) (fun i => [(1000, .var (.d (.arr 32 1 (seed.map byteD)))), (2008, .var (.d (.arr 32 1 (d.map byteD)))), (9, .row 1 ((signN (keyH seed key) d i).map byteD))]) (fun i => 256 - i) (fun i => i ≤ 256) 0 [(9, 3000)] ?_ ?_ ?_ ?_ ?_ (fun i hI => ?_)
              | refine vc_pure c1 ?_ ?_ ?_ | refine vc_pure (cb i (by omega)) ?_ ?_ ?_ | refine vc_pure (cp i (by omega)) ?_ ?_ ?_ | refine vc_pure (ch i (by omega)) ?_ ?_ ?_
              | refine vc_nextI (i + 1) [(9, 11008)] ?_ ?_ ?_ ?_ ?_ ?_ | refine vc_ret [true] [] ?_ | refine vc_weakf [] ?_ ?_ ?_ | refine vc_and ?_ ?_ | refine vc_ret [] [] ?_)
      | ((with_reducible first | refine vc_caseD (fun h => ?_) (fun h => ?_) | refine vc_caseN (fun h => ?_) (fun h => ?_)) <;> try (exfalso; omega))
      | ((with_reducible refine vc_case (fun h => ?_) (fun h => ?_)) <;> (try simp only [Go.Sym.vs1, reduceCtorEq] at h) <;> try (exfalso; first | omega | (simp at h; done)))
      | (conv in Vc _ => arg 1; whnf
         first
          | (with_reducible refine vc_side0 ?_; rfl)
          | (with_reducible first
              | refine vc_true ?_ | refine vc_true2 ?_ | refine vc_side ?_ ?_ | refine vc_triv | refine vc_later ?_ | refine vc_caseT ?_ | refine vc_caseF ?_ | refine vc_cons ?_ | refine vc_nil ?_ ?_ | refine vc_seq ?_
                 | refine vc_region ?_ | refine vc_cond ?_ | refine vc_block ?_ | refine vc_retc ?_ | refine vc_exit ?_ | refine vc_skip ?_ | refine vc_scope ?_ | refine vc_label ?_ | refine vc_goto ?_ | refine vc_wkSl0
                 | refine vc_wkHp0 | refine vc_eqAVs0 | refine vc_preG0 | refine vc_wkSl ?_ ?_ | refine vc_wkHp ?_ ?_ | refine vc_eqAVs ?_ ?_ | refine vc_preG ?_ ?_ | refine vc_side0 ?_
                 | refine vc_loopI 41 (fun (i : Nat) => [(1, .d (.int .u64 (key : Int))), (3, .ptr 1000 []), (7, .ptr 2008 []), (8, .sl 9 [] 1 0 ((signN (keyH seed key) d i).map byteD).length), (9, .d (.int .i64 (i : Int)))]) (fun i => [(1000, .var (.d (.arr 32 1 (seed.map byteD)))), (2008, .var (.d (.arr 32 1 (d.map byteD)))), (9, .row 1 ((signN (keyH seed key) d i).map byteD))]) (fun i => 256 - i) (fun i => i ≤ 256) 0 [(9, 3000)] ?_ ?_ ?_ ?_ ?_ (fun i hI => ?_)
                 | refine vc_pure c1 ?_ ?_ ?_ | refine vc_pure (cb i (by omega)) ?_ ?_ ?_ | refine vc_pure (cp i (by omega)) ?_ ?_ ?_ | refine vc_pure (ch i (by omega)) ?_ ?_ ?_
                 | refine vc_nextI (i + 1) [(9, 11008)] ?_ ?_ ?_ ?_ ?_ ?_ | refine vc_ret [true] [] ?_ | refine vc_weakf [] ?_ ?_ ?_ | refine vc_and ?_ ?_ | refine vc_ret [] [] ?_)
          | ((with_reducible first | refine vc_caseD (fun h => ?_) (fun h => ?_) | refine vc_caseN (fun h => ?_) (fun h => ?_)) <;> try (exfalso; omega))
          | ((with_reducible refine vc_case (fun h => ?_) (fun h => ?_)) <;> (try simp only [Go.Sym.vs1, reduceCtorEq] at h) <;> try (exfalso; first | omega | (simp at h; done)))))
  all_goals (try simp only [Int.toNat_natCast, t32k, t32s])
  all_goals first
    | with_reducible rfl
    | omega
    | exact ⟨trivial, trivial⟩
    | exact ⟨trivial, trivial, trivial⟩
    | exact ⟨trivial, trivial, trivial, trivial⟩
    | exact ⟨⟨by decide, by decide, by decide⟩, trivial⟩
    | exact ⟨Nat.le_of_eq (Nat.zero_add _), trivial⟩
    | exact ⟨Nat.le_refl _, trivial, trivial⟩
    | (rw [wrap64_id (by omega) (by omega)]; rfl)
    | exact ⟨by decide, by decide, by decide, by decide⟩
    | (decide; done)
    | exact ⟨⟨⟨trivial, len32 (shaB_length _)⟩, trivial, roomJ (by simp only [List.length_append, List.length_map, signN_length (keyH_length _ _), shaB_length, keyH_length]; omega)⟩, fun y hy => size_bytes _ y hy⟩
    | (rw [← signN_succ]; done)
    | ((obtain rfl : i = 256 := (by omega)); rw [List.drop_zero, List.take_length]; exact congrArg (fun l => D.sl (List.map byteD l)) (signN_all _ _))
    | rfl
    | (exfalso; simp at h; done)
    | skip

theorem rsig_x {s : List UInt8} (hs : s.length = 16384) {i : Nat} (hi : i < 256) : cutD (s.map byteD) (IntKind.i64.wrap (64 * (i : Int))) (IntKind.i64.wrap (IntKind.i64.wrap (64 * (i : Int)) + 32)) = (sigX s i).map byteD := by
  rw [wrap64_id (n := 64 * (i : Int)) (by omega) (by omega), wrap64_id (by omega) (by omega)]
  unfold cutD sigX
  rw [show (64 * (i : Int) + 32).toNat = 64 * i + 32 by omega, show (64 * (i : Int)).toNat = 64 * i by omega, List.drop_take, ← List.map_drop, ← List.map_take, show 64 * i + 32 - 64 * i = 32 by omega]
theorem rsig_y {s : List UInt8} (hs : s.length = 16384) {i : Nat} (hi : i < 256) : cutD (s.map byteD) (IntKind.i64.wrap (IntKind.i64.wrap (64 * (i : Int)) + 32)) (IntKind.i64.wrap (IntKind.i64.wrap (64 * (i : Int)) + 64)) = (sigY s i).map byteD := by
  rw [wrap64_id (n := 64 * (i : Int)) (by omega) (by omega), wrap64_id (n := 64 * (i : Int) + 32) (by omega) (by omega), wrap64_id (by omega) (by omega)]
  unfold cutD sigY
  rw [show (64 * (i : Int) + 64).toNat = 64 * i + 64 by omega, show (64 * (i : Int) + 32).toNat = 64 * i + 32 by omega, List.drop_take, ← List.map_drop, ← List.map_take, show 64 * i + 64 - (64 * i + 32) = 32 by omega]
theorem rsig_r {s : List UInt8} (hs : s.length = 16384) {i : Nat} (hi : i < 256) : (0 ≤ IntKind.i64.wrap (64 * (i : Int)) ∧ IntKind.i64.wrap (64 * (i : Int)) ≤ IntKind.i64.wrap (IntKind.i64.wrap (64 * (i : Int)) + 32) ∧ IntKind.i64.wrap (IntKind.i64.wrap (64 * (i : Int)) + 32) ≤ ((s.map byteD).length : Int)) := by
  rw [wrap64_id (n := 64 * (i : Int)) (by omega) (by omega), wrap64_id (n := 64 * (i : Int) + 32) (by omega) (by omega), List.length_map]
  omega
theorem rsig_q {s : List UInt8} (hs : s.length = 16384) {i : Nat} (hi : i < 256) : (0 ≤ IntKind.i64.wrap (IntKind.i64.wrap (64 * (i : Int)) + 32) ∧ IntKind.i64.wrap (IntKind.i64.wrap (64 * (i : Int)) + 32) ≤ IntKind.i64.wrap (IntKind.i64.wrap (64 * (i : Int)) + 64) ∧ IntKind.i64.wrap (IntKind.i64.wrap (64 * (i : Int)) + 64) ≤ ((s.map byteD).length : Int)) := by
  rw [wrap64_id (n := 64 * (i : Int)) (by omega) (by omega), wrap64_id (n := 64 * (i : Int) + 32) (by omega) (by omega), wrap64_id (n := 64 * (i : Int) + 64) (by omega) (by omega), List.length_map]
  omega

theorem rOpened_ok (b sig : List UInt8) (hb : b.length < 2 ^ 28) :
    LocalCall Try.prog 45 [.d (.sl (b.map byteD)), .d (.sl (sig.map byteD))] [] [] (one [.d (.sl ((openT b sig).map byteD)), .d (.int .i64 (openE sig))]) [] := by
  by_cases hs : sig.length = 16384
  · have c1 := rOf_ok b hb
    unfold openT openE
    rw [decide_eq_true hs, cond_true, cond_true]
    generalize hd : shaB b = d at c1
    have ld : d.length = 32 := by rw [← hd]; exact shaB_length b
    have ls : ((sig.map byteD).length : Int) = 16384 := by rw [List.length_map, hs]; rfl
    have lo : ∀ i : Nat, i < 256 → (openN d sig i).length = 64 * i + 1 := fun i hi => openN_length d hs (by omega)
    have cb : ∀ i : Nat, i < 256 → LocalCall Try.prog 47 [.d (.arr 32 1 (d.map byteD)), .d (.int .i64 (i : Int))] [] [] (one [.d (.bool (bitB d i))]) [] := fun i hi => by
      have h := rBit_ok (d.map byteD) d rfl ld (i : Int)
      rwa [bitI_nat d hi] at h
    have co : ∀ i : Nat, i < 256 → LocalCall Try.prog 44 [.d (.sl (cutD (sig.map byteD) (IntKind.i64.wrap (64 * (i : Int))) (IntKind.i64.wrap (IntKind.i64.wrap (64 * (i : Int)) + 32))))] [] [] (one [.d (.arr 32 1 ((shaB (sigX sig i)).map byteD))]) [] := fun i hi => by
      rw [rsig_x hs hi]; exact rOf_ok _ (by rw [sigX_length hs hi]; decide)
    refine vc_fn mixed Try.func45 rfl rfl [] (vc_chk rfl) ?_
    repeat' (first
        | ((with_reducible refine vc_chk ?_); first | decide +kernel | rfl)
        | (with_reducible refine vc_side0 ?_; rfl)
        | (with_reducible first
             | refine vc_true ?_ | refine vc_true2 ?_ | refine vc_side ?_ ?_ | refine vc_triv | refine vc_later ?_ | refine vc_caseT ?_ | refine vc_caseF ?_ | refine vc_cons ?_ | refine vc_nil ?_ ?_ | refine vc_seq ?_
                | refine vc_region ?_ | refine vc_cond ?_ | refine vc_block ?_ | refine vc_retc ?_ | refine vc_exit ?_ | refine vc_skip ?_ | refine vc_scope ?_ | refine vc_label ?_ | refine vc_goto ?_ | refine vc_wkSl0
                | refine vc_wkHp0 | refine vc_eqAVs0 | refine vc_preG0 | refine vc_wkSl ?_ ?_ | refine vc_wkHp ?_ ?_ | refine vc_eqAVs ?_ ?_ | refine vc_preG ?_ ?_ | refine vc_side0 ?_ | refine vc_pure c1 ?_ ?_ ?_
                | refine vc_pure (co i (by omega)) ?_ ?_ ?_ | refine vc_pure (cb i (by omega)) ?_ ?_ ?_ | refine vc_pure c1 ?_ ?_ ?_ | refine vc_pure (cb i (by omega)) ?_ ?_ ?_
                | refine vc_loopI 55 (fun (i : Nat) => [(1, .d (.sl (sig.map byteD))), (6, .ptr 4008 []), (7, .sl 9 [] 1 0 ((openN d sig i).map byteD).length), (8, .d (.int .i64 (i : Int)))]) (fun i => [(4008, .var (.d (.arr 32 1 (d.map byteD)))), (9, .row 1 ((openN d sig i).map byteD))]) (fun i => 256 - i) (fun i => i ≤ 256) 0 [(9, 5000)] ?_ ?_ ?_ ?_ ?_ (fun i hI => ?_)
                | refine vc_nextAt (i + 1) [(9, 14008)] 14008 (by with_unfolding_all rfl) ?_ ?_ ?_ ?_ ?_ ?_ | refine vc_nextAt (i + 1) [(9, 16008)] 16008 (by with_unfolding_all rfl) ?_ ?_ ?_ ?_ ?_ ?_ | refine vc_ret [true] [] ?_
                | refine vc_weakf [] ?_ ?_ ?_ | refine vc_and ?_ ?_ | refine vc_ret [] [] ?_)
        | ((with_reducible first | refine vc_caseD (fun h => ?_) (fun h => ?_) | refine vc_caseN (fun h => ?_) (fun h => ?_)) <;> try (exfalso; omega))
        | ((with_reducible refine vc_case (fun h => ?_) (fun h => ?_)) <;> (try simp only [Go.Sym.vs1, reduceCtorEq] at h) <;> try (exfalso; first | omega | (simp at h; done)))
        | (conv in Vc _ => arg 1; whnf
           first
            | (with_reducible refine vc_side0 ?_; rfl)
            | (with_reducible first
                | refine vc_true ?_ | refine vc_true2 ?_ | refine vc_side ?_ ?_ | refine vc_triv | refine vc_later ?_ | refine vc_caseT ?_ | refine vc_caseF ?_ | refine vc_cons ?_ | refine vc_nil ?_ ?_ | refine vc_seq ?_
                   | refine vc_region ?_ | refine vc_cond ?_ | refine vc_block ?_ | refine vc_retc ?_ | refine vc_exit ?_ | refine vc_skip ?_ | refine vc_scope ?_ | refine vc_label ?_ | refine vc_goto ?_ | refine vc_wkSl0
                   | refine vc_wkHp0 | refine vc_eqAVs0 | refine vc_preG0 | refine vc_wkSl ?_ ?_ | refine vc_wkHp ?_ ?_ | refine vc_eqAVs ?_ ?_ | refine vc_preG ?_ ?_ | refine vc_side0 ?_ | refine vc_pure c1 ?_ ?_ ?_
                   | refine vc_pure (co i (by omega)) ?_ ?_ ?_ | refine vc_pure (cb i (by omega)) ?_ ?_ ?_ | refine vc_pure c1 ?_ ?_ ?_ | refine vc_pure (cb i (by omega)) ?_ ?_ ?_
                   | refine vc_loopI 55 (fun (i : Nat) => [(1, .d (.sl (sig.map byteD))), (6, .ptr 4008 []), (7, .sl 9 [] 1 0 ((openN d sig i).map byteD).length), (8, .d (.int .i64 (i : Int)))]) (fun i => [(4008, .var (.d (.arr 32 1 (d.map byteD)))), (9, .row 1 ((openN d sig i).map byteD))]) (fun i => 256 - i) (fun i => i ≤ 256) 0 [(9, 5000)] ?_ ?_ ?_ ?_ ?_ (fun i hI => ?_)
                   | refine vc_nextAt (i + 1) [(9, 14008)] 14008 (by with_unfolding_all rfl) ?_ ?_ ?_ ?_ ?_ ?_ | refine vc_nextAt (i + 1) [(9, 16008)] 16008 (by with_unfolding_all rfl) ?_ ?_ ?_ ?_ ?_ ?_
                   | refine vc_ret [true] [] ?_ | refine vc_weakf [] ?_ ?_ ?_ | refine vc_and ?_ ?_ | refine vc_ret [] [] ?_)
            | ((with_reducible first | refine vc_caseD (fun h => ?_) (fun h => ?_) | refine vc_caseN (fun h => ?_) (fun h => ?_)) <;> try (exfalso; omega))
            | ((with_reducible refine vc_case (fun h => ?_) (fun h => ?_)) <;> (try simp only [Go.Sym.vs1, reduceCtorEq] at h) <;> try (exfalso; first | omega | (simp at h; done)))))
    all_goals (try simp only [Int.toNat_natCast, t32s])
    all_goals (try have hi : i < 256 := (by omega))
    all_goals (try simp only [rsig_y hs hi])
    all_goals first
      | with_reducible rfl
      | omega
      | exact ⟨trivial, trivial⟩
      | exact ⟨trivial, trivial, trivial⟩
      | exact ⟨trivial, trivial, trivial, trivial⟩
      | exact ⟨⟨by decide, by decide, by decide⟩, trivial⟩
      | exact ⟨Nat.le_of_eq (Nat.zero_add _), trivial⟩
      | exact ⟨Nat.le_refl _, trivial, trivial⟩
      | (rw [wrap64_id (by omega) (by omega)]; rfl)
      | exact ⟨by decide, by decide, by decide, by decide⟩
      | (decide; done)
      | exact ⟨rsig_r hs hi, size_bytes _⟩
      | exact ⟨rsig_q hs hi, size_bytes _⟩
      | (rw [← openN_succ i h]; done)
      | (rw [← openN_succ0 i h]; done)
      | exact ⟨⟨trivial, trivial, roomJ (by simp only [List.length_append, List.length_map, lo i hi, shaB_length, sigY_length hs hi]; omega)⟩, fun y hy => size_bytes _ y hy⟩
      | exact ⟨⟨⟨trivial, len32 (shaB_length _)⟩, trivial, roomJ (by simp only [List.length_append, List.length_map, lo i hi, shaB_length, sigY_length hs hi]; omega)⟩, fun y hy => size_bytes _ y hy⟩
      | ((obtain rfl : i = 256 := (by omega)); rw [List.drop_zero, List.take_length]; exact congrArg (fun l => D.sl (List.map byteD l)) (openN_all _ _))
      | rfl
      | (exfalso; simp at h; done)
      | skip
  · have hn : ¬ ((sig.map byteD).length : Int) = 16384 := by rw [List.length_map]; omega
    unfold openT openE
    rw [decide_eq_false hs, cond_false, cond_false]
    have key : LocalCall Try.prog 45 [.d (.sl (b.map byteD)), .d (.sl (sig.map byteD))] [] [] (one [.d .nils, .d (.int .i64 15)]) [] := by
      refine vc_fn mixed Try.func45 rfl rfl [] (vc_chk rfl) ?_
      repeat' (first
          | ((with_reducible refine vc_chk ?_); first | decide +kernel | rfl)
          | (with_reducible refine vc_side0 ?_; rfl)
          | (with_reducible first
               | refine vc_true ?_ | refine vc_true2 ?_ | refine vc_side ?_ ?_ | refine vc_triv | refine vc_later ?_ | refine vc_caseT ?_ | refine vc_caseF ?_ | refine vc_cons ?_ | refine vc_nil ?_ ?_ | refine vc_seq ?_
                  | refine vc_region ?_ | refine vc_cond ?_ | refine vc_block ?_ | refine vc_retc ?_ | refine vc_exit ?_ | refine vc_skip ?_ | refine vc_scope ?_ | refine vc_label ?_ | refine vc_goto ?_ | refine vc_wkSl0
                  | refine vc_wkHp0 | refine vc_eqAVs0 | refine vc_preG0 | refine vc_wkSl ?_ ?_ | refine vc_wkHp ?_ ?_ | refine vc_eqAVs ?_ ?_ | refine vc_preG ?_ ?_ | refine vc_side0 ?_ | refine vc_weakf [] ?_ ?_ ?_
                  | refine vc_and ?_ ?_ | refine vc_ret [] [] ?_)
          | ((with_reducible first | refine vc_caseD (fun h => ?_) (fun h => ?_) | refine vc_caseN (fun h => ?_) (fun h => ?_)) <;> try (exfalso; omega))
          | ((with_reducible refine vc_case (fun h => ?_) (fun h => ?_)) <;> (try simp only [Go.Sym.vs1, reduceCtorEq] at h) <;> try (exfalso; first | omega | (simp at h; done)))
          | (conv in Vc _ => arg 1; whnf
             first
              | (with_reducible refine vc_side0 ?_; rfl)
              | (with_reducible first
                  | refine vc_true ?_ | refine vc_true2 ?_ | refine vc_side ?_ ?_ | refine vc_triv | refine vc_later ?_ | refine vc_caseT ?_ | refine vc_caseF ?_ | refine vc_cons ?_ | refine vc_nil ?_ ?_ | refine vc_seq ?_
                     | refine vc_region ?_ | refine vc_cond ?_ | refine vc_block ?_ | refine vc_retc ?_ | refine vc_exit ?_ | refine vc_skip ?_ | refine vc_scope ?_ | refine vc_label ?_ | refine vc_goto ?_ | refine vc_wkSl0
                     | refine vc_wkHp0 | refine vc_eqAVs0 | refine vc_preG0 | refine vc_wkSl ?_ ?_ | refine vc_wkHp ?_ ?_ | refine vc_eqAVs ?_ ?_ | refine vc_preG ?_ ?_ | refine vc_side0 ?_ | refine vc_weakf [] ?_ ?_ ?_
                     | refine vc_and ?_ ?_ | refine vc_ret [] [] ?_)
              | ((with_reducible first | refine vc_caseD (fun h => ?_) (fun h => ?_) | refine vc_caseN (fun h => ?_) (fun h => ?_)) <;> try (exfalso; omega))
              | ((with_reducible refine vc_case (fun h => ?_) (fun h => ?_)) <;> (try simp only [Go.Sym.vs1, reduceCtorEq] at h) <;> try (exfalso; first | omega | (simp at h; done)))))
      all_goals first | rfl | exact ⟨trivial, trivial, trivial⟩
    exact local_dn key

end Go.Proofs.Ytcdjheiccefcdaa

/-
The document's answer of roots that are followed and sealed.
-/
set_option linter.unusedSimpArgs false
set_option linter.unusedVariables false
namespace Go.Proofs.Ytcdjheiccefcdaa
open Go.Sym
set_option maxRecDepth 10000
set_option maxHeartbeats 4000000

theorem rSeal_ok (seed : List UInt8) (hs : seed.length = 32) (g : Hd) (hg : wfH g) (tree : List UInt8) (ht : tree.length = 32) :
    LocalCall Try.prog 40 [.d (.arr 32 1 (seed.map byteD)), .d (hdD g), .d (.arr 32 1 (tree.map byteD))] [] [] (one [.d (sD (sealR seed g tree)), .d (.int .i64 (sealE g))]) [] := by
  by_cases he : 64 ≤ g.epoch
  · unfold sealR sealE
    rw [decide_eq_true he, cond_true, cond_true]
    have key : LocalCall Try.prog 40 [.d (.arr 32 1 (seed.map byteD)), .d (hdD g), .d (.arr 32 1 (tree.map byteD))] [] [] (one [.d (.st [rootD s0.root, .nils]), .d (.int .i64 12)]) [] := by
      refine vc_fn mixed Try.func40 rfl rfl [] (vc_chk rfl) ?_
      repeat' (first
          | ((with_reducible refine vc_chk ?_); first | decide +kernel | rfl)
          | (with_reducible refine vc_side0 ?_; rfl)
          | (with_reducible first
               | refine vc_true ?_ | refine vc_true2 ?_ | refine vc_side ?_ ?_ | refine vc_triv | refine vc_later ?_ | refine vc_caseT ?_ | refine vc_caseF ?_ | refine vc_cons ?_ | refine vc_nil ?_ ?_ | refine vc_seq ?_
                  | refine vc_region ?_ | refine vc_cond ?_ | refine vc_block ?_ | refine vc_retc ?_ | refine vc_exit ?_ | refine vc_skip ?_ | refine vc_scope ?_ | refine vc_label ?_ | refine vc_goto ?_ | refine vc_wkSl0
                  | refine vc_wkHp0 | refine vc_eqAVs0 | refine vc_preG0 | refine vc_wkSl ?_ ?_ | refine vc_wkHp ?_ ?_ | refine vc_eqAVs ?_ ?_ | refine vc_preG ?_ ?_ | refine vc_side0 ?_ | refine vc_weakf [] ?_ ?_ ?_
                  | refine vc_and ?_ ?_ | refine vc_ret [] [] ?_)
          | ((with_reducible first | refine vc_caseD (fun h => ?_) (fun h => ?_) | refine vc_caseN (fun h => ?_) (fun h => ?_)) <;> try (exfalso; omega))
          | ((with_reducible refine vc_case (fun h => ?_) (fun h => ?_)) <;> (try simp only [Go.Sym.vs1, reduceCtorEq] at h) <;> try (exfalso; first | omega | (simp at h; done)))
          | (conv in Vc _ => arg 1; whnf
             first
              | (with_reducible refine vc_side0 ?_; rfl)
              | (with_reducible first
                  | refine vc_true ?_ | refine vc_true2 ?_ | refine vc_side ?_ ?_ | refine vc_triv | refine vc_later ?_ | refine vc_caseT ?_ | refine vc_caseF ?_ | refine vc_cons ?_ | refine vc_nil ?_ ?_ | refine vc_seq ?_
                     | refine vc_region ?_ | refine vc_cond ?_ | refine vc_block ?_ | refine vc_retc ?_ | refine vc_exit ?_ | refine vc_skip ?_ | refine vc_scope ?_ | refine vc_label ?_ | refine vc_goto ?_ | refine vc_wkSl0
                     | refine vc_wkHp0 | refine vc_eqAVs0 | refine vc_preG0 | refine vc_wkSl ?_ ?_ | refine vc_wkHp ?_ ?_ | refine vc_eqAVs ?_ ?_ | refine vc_preG ?_ ?_ | refine vc_side0 ?_ | refine vc_weakf [] ?_ ?_ ?_
                     | refine vc_and ?_ ?_ | refine vc_ret [] [] ?_)
              | ((with_reducible first | refine vc_caseD (fun h => ?_) (fun h => ?_) | refine vc_caseN (fun h => ?_) (fun h => ?_)) <;> try (exfalso; omega))
              | ((with_reducible refine vc_case (fun h => ?_) (fun h => ?_)) <;> (try simp only [Go.Sym.vs1, reduceCtorEq] at h) <;> try (exfalso; first | omega | (simp at h; done)))))
      all_goals first | with_reducible rfl | exact ⟨trivial, trivial, trivial⟩ | exact ⟨trivial, trivial, trivial, trivial, trivial⟩ | (exfalso; omega) | rfl | trace_state
    exact local_dn key
  · unfold sealR sealE
    rw [decide_eq_false he, cond_false, cond_false]
    have w1 : IntKind.u64.wrap ((g.epoch : Int) + 1) = ((g.epoch + 1 : Nat) : Int) := by rw [wrapU64_id (by omega) (by omega)]; rfl
    have w2 : IntKind.u64.wrap ((g.epoch : Int) + 2) = ((g.epoch + 2 : Nat) : Int) := by rw [wrapU64_id (by omega) (by omega)]; rfl
    have c1 := rPublic_ok seed hs (g.epoch + 2) (by omega)
    have wr : wfR (sealRt seed g tree) := (wf_seal seed hg (by omega) ht).wfR
    have c2 := rRootBytes_ok (sealRt seed g tree) wr
    have c3 := rSign_ok seed hs (g.epoch + 1) (by omega) (rootB (sealRt seed g tree)) (by rw [rootB_length wr]; decide)
    refine vc_fn mixed Try.func40 rfl rfl [] (vc_chk rfl) ?_
    repeat' (first
        | ((with_reducible refine vc_chk ?_); first | decide +kernel | rfl)
        | (with_reducible refine vc_side0 ?_; rfl)
        | (with_reducible first
             | refine vc_true ?_ | refine vc_true2 ?_ | refine vc_side ?_ ?_ | refine vc_triv | refine vc_later ?_ | refine vc_caseT ?_ | refine vc_caseF ?_ | refine vc_cons ?_ | refine vc_nil ?_ ?_ | refine vc_seq ?_
                | refine vc_region ?_ | refine vc_cond ?_ | refine vc_block ?_ | refine vc_retc ?_ | refine vc_exit ?_ | refine vc_skip ?_ | refine vc_scope ?_ | refine vc_label ?_ | refine vc_goto ?_ | refine vc_wkSl0
                | refine vc_wkHp0 | refine vc_eqAVs0 | refine vc_preG0 | refine vc_wkSl ?_ ?_ | refine vc_wkHp ?_ ?_ | refine vc_eqAVs ?_ ?_ | refine vc_preG ?_ ?_ | refine vc_side0 ?_ | refine vc_call [] c1 ?_
                | refine vc_call [] c2 ?_ | refine vc_call [] c3 ?_ | refine vc_weakf [] ?_ ?_ ?_ | refine vc_and ?_ ?_ | refine vc_ret [] [] ?_)
        | ((with_reducible first | refine vc_caseD (fun h => ?_) (fun h => ?_) | refine vc_caseN (fun h => ?_) (fun h => ?_)) <;> try (exfalso; omega))
        | ((with_reducible refine vc_case (fun h => ?_) (fun h => ?_)) <;> (try simp only [Go.Sym.vs1, reduceCtorEq] at h) <;> try (exfalso; first | omega | (simp at h; done)))
        | (conv in Vc _ => arg 1; whnf
           first
            | (with_reducible refine vc_side0 ?_; rfl)
            | (with_reducible first
                | refine vc_true ?_ | refine vc_true2 ?_ | refine vc_side ?_ ?_ | refine vc_triv | refine vc_later ?_ | refine vc_caseT ?_ | refine vc_caseF ?_ | refine vc_cons ?_ | refine vc_nil ?_ ?_ | refine vc_seq ?_
                   | refine vc_region ?_ | refine vc_cond ?_ | refine vc_block ?_ | refine vc_retc ?_ | refine vc_exit ?_ | refine vc_skip ?_ | refine vc_scope ?_ | refine vc_label ?_ | refine vc_goto ?_ | refine vc_wkSl0
                   | refine vc_wkHp0 | refine vc_eqAVs0 | refine vc_preG0 | refine vc_wkSl ?_ ?_ | refine vc_wkHp ?_ ?_ | refine vc_eqAVs ?_ ?_ | refine vc_preG ?_ ?_ | refine vc_side0 ?_ | refine vc_call [] c1 ?_
                   | refine vc_call [] c2 ?_ | refine vc_call [] c3 ?_ | refine vc_weakf [] ?_ ?_ ?_ | refine vc_and ?_ ?_ | refine vc_ret [] [] ?_)
            | ((with_reducible first | refine vc_caseD (fun h => ?_) (fun h => ?_) | refine vc_caseN (fun h => ?_) (fun h => ?_)) <;> try (exfalso; omega))
            | ((with_reducible refine vc_case (fun h => ?_) (fun h => ?_)) <;> (try simp only [Go.Sym.vs1, reduceCtorEq] at h) <;> try (exfalso; first | omega | (simp at h; done)))))
    all_goals (try simp only [w1, w2])
    all_goals first | with_reducible rfl | exact ⟨trivial, trivial, trivial⟩ | exact ⟨trivial, trivial, trivial, trivial, trivial⟩ | (exfalso; omega) | rfl | trace_state

end Go.Proofs.Ytcdjheiccefcdaa

/-
What the laws of roots that are followed return: single roots and lists.
-/
set_option linter.unusedSimpArgs false
set_option linter.unusedVariables false
namespace Go.Proofs.Ytcdjheiccefcdaa
open Go.Sym
set_option maxRecDepth 10000
set_option maxHeartbeats 4000000

/-! Digests compared, as the program does. -/
theorem digNo {a b : List UInt8} (h : (bif false then !(D.arr (31 + 1) (0 + 1) (a.map byteD)).beq (D.arr (31 + 1) (0 + 1) (b.map byteD)) else (D.arr (31 + 1) (0 + 1) (a.map byteD)).beq (D.arr (31 + 1) (0 + 1) (b.map byteD))) = false) : ¬ a = b := by
  have h2 : (D.arr 32 1 (a.map byteD)).beq (D.arr 32 1 (b.map byteD)) = false := h
  rw [beq_dig] at h2
  exact of_decide_eq_false h2
/-- How many bytes signatures have, as the guard adds them. -/
def sumW : List Sgn → Int → Int
  | [], n => n
  | s :: l, n => bif decide (n ≤ 524288) then sumW l (IntKind.i64.wrap (n + (s.sig.length : Int))) else n
def fewB (l : List Sgn) : Bool := bif decide ((l.length : Int) > 40) then false else decide (sumW l 0 ≤ 524288)
theorem fewB_le {l : List Sgn} (h : fewB l = true) : l.length ≤ 40 := by
  unfold fewB at h
  by_cases h1 : (l.length : Int) > 40
  · rw [decide_eq_true h1] at h; cases h
  · omega
theorem sumW_step {l : List Sgn} {i : Nat} (hi : i < l.length) {n : Int} (hn : n ≤ 524288) : sumW (l.drop i) n = sumW (l.drop (i + 1)) (IntKind.i64.wrap (n + ((l.getD i s0).sig.length : Int))) := by
  have hd : l.drop i = l.getD i s0 :: l.drop (i + 1) := by
    rw [List.drop_eq_getElem_cons hi, List.getD_eq_getElem?_getD, List.getElem?_eq_getElem hi]; rfl
  rw [hd, sumW, decide_eq_true hn, cond_true]
theorem sumW_stop {l : List Sgn} {i : Nat} {n : Int} (h : ¬ n ≤ 524288 ∨ l.length ≤ i) : sumW (l.drop i) n = n := by
  rcases Nat.lt_or_ge i l.length with hi | hi
  · have hn : ¬ n ≤ 524288 := h.resolve_right (by omega)
    rw [List.drop_eq_getElem_cons hi, sumW, decide_eq_false hn, cond_false]
  · rw [List.drop_eq_nil_of_le hi, sumW]

def one32 : List UInt8 := 1 :: List.replicate 31 0
def hdW : Hd := ⟨0, zero32, one32⟩
def sgW (n : Nat) : Sgn := ⟨⟨n, zero32, zero32, zero32⟩, []⟩
end Go.Proofs.Ytcdjheiccefcdaa

/-
Two unlike texts of one digest.
-/
set_option linter.unusedSimpArgs false
set_option linter.unusedVariables false
namespace Go.Proofs.Ytcdjheiccefcdaa
open Go.Sym
set_option maxRecDepth 10000
set_option maxHeartbeats 4000000

/-- Two unlike texts of one digest. -/
def pairB (a b : List UInt8) : Bool := !decide (a = b) && decide (shaB a = shaB b)
end Go.Proofs.Ytcdjheiccefcdaa

/-
What the laws of roots that are followed return: pieces of lists; two lists to one head.
-/
set_option linter.unusedSimpArgs false
set_option linter.unusedVariables false
namespace Go.Proofs.Ytcdjheiccefcdaa
open Go.Sym
set_option maxRecDepth 10000
set_option maxHeartbeats 4000000

theorem folE_yes {g : Hd} {s : Sgn} (h : folE g s = 0) : g.epoch < 64 ∧ s.root.epoch = g.epoch + 1 ∧ s.root.prev = g.root ∧ checkE g.key (rootB s.root) s.sig = 0 := by
  rcases folE_cases g s with ⟨_, e⟩ | ⟨⟨a, b⟩, ⟨_, e⟩ | ⟨c, d, _⟩⟩
  · rw [h] at e; cases e
  · rw [h] at e; cases e
  · exact ⟨a, b, c, d⟩

/-- Where the law cuts. -/
abbrev kK (l : List Sgn) (cut : Int) : Int := IntKind.i64.wrap ((IntKind.u64.wrap cut).tmod (IntKind.u64.wrap (IntKind.i64.wrap (((l.map sD).length : Int) + 1))))
end Go.Proofs.Ytcdjheiccefcdaa

/-
Numbers read one behind the other; the closure of codec.ReadNums.
-/
set_option linter.unusedSimpArgs false
set_option linter.unusedVariables false
namespace Go.Proofs.Ytcdjheiccefcdaa
open Go.Sym
set_option maxRecDepth 10000
set_option maxHeartbeats 1000000

/-- So many numbers, from a place on. -/
def rdNs (bs : List UInt8) : Nat → Nat → Option (List Nat × Nat)
  | 0, k => some ([], k)
  | n + 1, k => match rdN bs 10 k 0 0 with
    | some (v, e) => (rdNs bs n e).map fun p => (v :: p.1, p.2)
    | none => none

def nD (v : Nat) : D := .int .u64 (v : Int)

structure RnI (bs : List UInt8) (R : Option (List Nat × Nat)) (x : List Nat × Nat × Nat) : Prop where
  h : (rdNs bs x.2.1 x.2.2).map (fun p => (x.1 ++ p.1, p.2)) = R
  le : x.1.length + x.2.1 ≤ 4096

theorem RnI.cases {bs : List UInt8} {R : Option (List Nat × Nat)} {x : List Nat × Nat × Nat} (hI : RnI bs R x) : (x.2.1 = 0 ∧ R = some (x.1, x.2.2)) ∨ (0 < x.2.1 ∧ ((rdN bs 10 x.2.2 0 0 = none ∧ R = none) ∨
    ∃ v e, rdN bs 10 x.2.2 0 0 = some (v, e) ∧ RnI bs R (x.1 ++ [v], x.2.1 - 1, e))) := by
  obtain ⟨acc, n, k⟩ := x
  obtain ⟨h, le⟩ := hI
  simp only at h le ⊢
  cases n with
  | zero => exact .inl ⟨rfl, by rw [← h]; simp [rdNs]⟩
  | succ n =>
    refine .inr ⟨by omega, ?_⟩
    simp only [rdNs] at h
    cases hr : rdN bs 10 k 0 0 with
    | none => rw [hr] at h; exact .inl ⟨rfl, h.symm⟩
    | some p =>
      obtain ⟨v, e⟩ := p
      rw [hr] at h
      refine .inr ⟨v, e, rfl, ?_, ?_⟩
      · simp only [Nat.add_sub_cancel]
        rw [← h, Option.map_map]
        congr 1
        funext p
        simp
      · simp; omega

theorem RnI.ok {bs : List UInt8} {vs : List Nat} {e : Nat} {x : List Nat × Nat × Nat} (hI : RnI bs (some (vs, e)) x) {q : Prop} (h0 : x.2.1 = 0 → x.1 = vs → x.2.2 = e → Vc q)
    (h : ∀ v e', 0 < x.2.1 → x.1.length + x.2.1 ≤ 4096 → rdN bs 10 x.2.2 0 0 = some (v, e') → RnI bs (some (vs, e)) (x.1 ++ [v], x.2.1 - 1, e') → Vc q) : Vc q := by
  rcases hI.cases with ⟨h1, h2⟩ | ⟨h1, ⟨_, h2⟩ | ⟨v, e', h2, h3⟩⟩
  · cases h2; exact h0 h1 rfl rfl
  · cases h2
  · exact h v e' h1 hI.le h2 h3

theorem RnI.no {bs : List UInt8} {x : List Nat × Nat × Nat} (hI : RnI bs none x) {q : Prop} (h0 : 0 < x.2.1 → rdN bs 10 x.2.2 0 0 = none → Vc q)
    (h : ∀ v e', 0 < x.2.1 → x.1.length + x.2.1 ≤ 4096 → rdN bs 10 x.2.2 0 0 = some (v, e') → RnI bs none (x.1 ++ [v], x.2.1 - 1, e') → Vc q) : Vc q := by
  rcases hI.cases with ⟨h1, h2⟩ | ⟨h1, ⟨h2, _⟩ | ⟨v, e', h2, h3⟩⟩
  · cases h2
  · exact h0 h1 h2
  · exact h v e' h1 hI.le h2 h3

end Go.Proofs.Ytcdjheiccefcdaa

/-
codec.ReadNums.
-/
set_option linter.unusedSimpArgs false
set_option linter.unusedVariables false
namespace Go.Proofs.Ytcdjheiccefcdaa
open Go.Sym
set_option maxRecDepth 10000
set_option maxHeartbeats 1000000

/-- Bytes that are numbers, to their end. -/
def rdNums (bs : List UInt8) : Option (List Nat) := match rdC bs 4096 0 with
  | some (n, k) => match rdNs bs n k with
    | some (vs, e) => bif decide (e = bs.length) then some vs else none
    | none => none
  | none => none

end Go.Proofs.Ytcdjheiccefcdaa

/-
That the codec works, in the law's own words.
-/
set_option linter.unusedSimpArgs false
set_option linter.unusedVariables false
namespace Go.Proofs.Ytcdjheiccefcdaa
open Go.Sym
set_option maxRecDepth 10000
set_option maxHeartbeats 1000000

end Go.Proofs.Ytcdjheiccefcdaa

/-
Texts read one behind the other; the closure of codec.ReadTexts.
-/
set_option linter.unusedSimpArgs false
set_option linter.unusedVariables false
namespace Go.Proofs.Ytcdjheiccefcdaa
open Go.Sym
set_option maxRecDepth 10000
set_option maxHeartbeats 1000000

/-- So many texts, from a place on. -/
def rdTs (bs : List UInt8) : Nat → Nat → Option (List (List UInt8) × Nat)
  | 0, k => some ([], k)
  | n + 1, k => match rdT bs k with
    | some (v, e) => (rdTs bs n e).map fun p => (v :: p.1, p.2)
    | none => none

structure RtI (bs : List UInt8) (R : Option (List (List UInt8) × Nat)) (x : List (List UInt8) × Nat × Nat) : Prop where
  h : (rdTs bs x.2.1 x.2.2).map (fun p => (x.1 ++ p.1, p.2)) = R
  le : x.1.length + x.2.1 ≤ 4096

theorem RtI.cases {bs : List UInt8} {R : Option (List (List UInt8) × Nat)} {x : List (List UInt8) × Nat × Nat} (hI : RtI bs R x) : (x.2.1 = 0 ∧ R = some (x.1, x.2.2)) ∨ (0 < x.2.1 ∧ ((rdT bs x.2.2 = none ∧ R = none) ∨
    ∃ v e, rdT bs x.2.2 = some (v, e) ∧ RtI bs R (x.1 ++ [v], x.2.1 - 1, e))) := by
  obtain ⟨acc, n, k⟩ := x
  obtain ⟨h, le⟩ := hI
  simp only at h le ⊢
  cases n with
  | zero => exact .inl ⟨rfl, by rw [← h]; simp [rdTs]⟩
  | succ n =>
    refine .inr ⟨by omega, ?_⟩
    simp only [rdTs] at h
    cases hr : rdT bs k with
    | none => rw [hr] at h; exact .inl ⟨rfl, h.symm⟩
    | some p =>
      obtain ⟨v, e⟩ := p
      rw [hr] at h
      refine .inr ⟨v, e, rfl, ?_, ?_⟩
      · simp only [Nat.add_sub_cancel]
        rw [← h, Option.map_map]
        congr 1
        funext p
        simp
      · simp; omega

theorem RtI.ok {bs : List UInt8} {vs : List (List UInt8)} {e : Nat} {x : List (List UInt8) × Nat × Nat} (hI : RtI bs (some (vs, e)) x) {q : Prop} (h0 : x.2.1 = 0 → x.1 = vs → x.2.2 = e → Vc q)
    (h : ∀ v e', 0 < x.2.1 → x.1.length + x.2.1 ≤ 4096 → rdT bs x.2.2 = some (v, e') → RtI bs (some (vs, e)) (x.1 ++ [v], x.2.1 - 1, e') → Vc q) : Vc q := by
  rcases hI.cases with ⟨h1, h2⟩ | ⟨h1, ⟨_, h2⟩ | ⟨v, e', h2, h3⟩⟩
  · cases h2; exact h0 h1 rfl rfl
  · cases h2
  · exact h v e' h1 hI.le h2 h3

theorem RtI.no {bs : List UInt8} {x : List (List UInt8) × Nat × Nat} (hI : RtI bs none x) {q : Prop} (h0 : 0 < x.2.1 → rdT bs x.2.2 = none → Vc q)
    (h : ∀ v e', 0 < x.2.1 → x.1.length + x.2.1 ≤ 4096 → rdT bs x.2.2 = some (v, e') → RtI bs none (x.1 ++ [v], x.2.1 - 1, e') → Vc q) : Vc q := by
  rcases hI.cases with ⟨h1, h2⟩ | ⟨h1, ⟨h2, _⟩ | ⟨v, e', h2, h3⟩⟩
  · cases h2
  · exact h0 h1 h2
  · exact h v e' h1 hI.le h2 h3

theorem tD_app (l : List (List UInt8)) (v : List UInt8) : (l.map tD) ++ [D.sl (v.map byteD)] = (l ++ [v]).map tD := by simp [tD]

theorem room24 {n k : Nat} (hk : k = 24) (h : n ≤ 4096) : Room n k := by subst hk; unfold Room; omega

theorem texts_in (B : List D) (bs : List UInt8) (hB : B = bs.map byteD) (n k e : Nat) (vs : List (List UInt8)) (hc : rdC bs 4096 0 = some (n, k)) (hr : rdTs bs n k = some (vs, e)) (hl : bs.length < 2 ^ 63) :
    LocalCall Try.prog 59 [.ptr 9 [], .ptr 8 []] [(9, rd B 0), (8, .var (.d .nils))] [7] (one []) [(9, rd B e), (8, .var (.sl 7 [] 1 0 (vs.map tD).length)), (7, .row 1 (vs.map tD))] := by
  have hn := (rdC_ok hc).2.2
  have h0 : RtI bs (some (vs, e)) ([], n, k) := ⟨by rw [hr]; rfl, by simp; omega⟩
  refine vc_fn mixed Try.func59 rfl rfl [(500000, [1000000007000000008])] (vc_chk rfl) ?_
  repeat' (first
      | ((with_reducible refine vc_chk ?_); first | decide +kernel | rfl)
      | (with_reducible refine vc_side0 ?_; rfl)
      | (with_reducible first
           | refine vc_true ?_ | refine vc_true2 ?_ | refine vc_side ?_ ?_ | refine vc_triv | refine vc_later ?_ | refine vc_caseT ?_ | refine vc_caseF ?_ | refine vc_cons ?_ | refine vc_nil ?_ ?_ | refine vc_seq ?_
              | refine vc_region ?_ | refine vc_cond ?_ | refine vc_block ?_ | refine vc_retc ?_ | refine vc_exit ?_ | refine vc_skip ?_ | refine vc_scope ?_ | refine vc_label ?_ | refine vc_goto ?_ | refine vc_wkSl0
              | refine vc_wkHp0 | refine vc_eqAVs0 | refine vc_preG0 | refine vc_wkSl ?_ ?_ | refine vc_wkHp ?_ ?_ | refine vc_eqAVs ?_ ?_ | refine vc_preG ?_ ?_ | refine vc_side0 ?_
              | refine vc_call [] (count_ok B bs hB 4096 0 n k hc (by omega) hl) ?_
              | refine vc_loopI 15 (fun (x : List (List UInt8) × Nat × Nat) => [(0, .ptr 9 []), (1, .ptr 8 []), (3, .d (.int .i64 (x.2.1 : Int)))]) (fun x => [(9, rd B x.2.2), (8, .var (.sl 7 [] 1 0 (x.1.map tD).length)), (7, .row 1 (x.1.map tD))]) (fun x => x.2.1) (RtI bs (some (vs, e))) ([], n, k) [] ?_ ?_ ?_ ?_ ?_ (fun x hI => hI.ok (fun hz he1 he2 => ?_) (fun v e' hz hle hv hx => ?_))
              | refine vc_call [] (text_read B bs v hB x.2.2 e' hv hl) ?_ | refine vc_nextI (x.1 ++ [v], x.2.1 - 1, e') [(7, 4016)] ?_ ?_ ?_ ?_ ?_ ?_ | refine vc_weakf [] ?_ ?_ ?_ | refine vc_and ?_ ?_ | refine vc_ret [] [] ?_)
      | ((with_reducible first | refine vc_caseD (fun h => ?_) (fun h => ?_) | refine vc_caseN (fun h => ?_) (fun h => ?_)) <;> try (exfalso; omega))
      | ((with_reducible refine vc_case (fun h => ?_) (fun h => ?_)) <;> (try simp at h) <;> try (exfalso; omega))
      | (conv in Vc _ => arg 1; whnf
         first
          | (with_reducible refine vc_side0 ?_; rfl)
          | (with_reducible first
              | refine vc_true ?_ | refine vc_true2 ?_ | refine vc_side ?_ ?_ | refine vc_triv | refine vc_later ?_ | refine vc_caseT ?_ | refine vc_caseF ?_ | refine vc_cons ?_ | refine vc_nil ?_ ?_ | refine vc_seq ?_
                 | refine vc_region ?_ | refine vc_cond ?_ | refine vc_block ?_ | refine vc_retc ?_ | refine vc_exit ?_ | refine vc_skip ?_ | refine vc_scope ?_ | refine vc_label ?_ | refine vc_goto ?_ | refine vc_wkSl0
                 | refine vc_wkHp0 | refine vc_eqAVs0 | refine vc_preG0 | refine vc_wkSl ?_ ?_ | refine vc_wkHp ?_ ?_ | refine vc_eqAVs ?_ ?_ | refine vc_preG ?_ ?_ | refine vc_side0 ?_
                 | refine vc_call [] (count_ok B bs hB 4096 0 n k hc (by omega) hl) ?_
                 | refine vc_loopI 15 (fun (x : List (List UInt8) × Nat × Nat) => [(0, .ptr 9 []), (1, .ptr 8 []), (3, .d (.int .i64 (x.2.1 : Int)))]) (fun x => [(9, rd B x.2.2), (8, .var (.sl 7 [] 1 0 (x.1.map tD).length)), (7, .row 1 (x.1.map tD))]) (fun x => x.2.1) (RtI bs (some (vs, e))) ([], n, k) [] ?_ ?_ ?_ ?_ ?_ (fun x hI => hI.ok (fun hz he1 he2 => ?_) (fun v e' hz hle hv hx => ?_))
                 | refine vc_call [] (text_read B bs v hB x.2.2 e' hv hl) ?_ | refine vc_nextI (x.1 ++ [v], x.2.1 - 1, e') [(7, 4016)] ?_ ?_ ?_ ?_ ?_ ?_ | refine vc_weakf [] ?_ ?_ ?_ | refine vc_and ?_ ?_ | refine vc_ret [] [] ?_)
          | ((with_reducible first | refine vc_caseD (fun h => ?_) (fun h => ?_) | refine vc_caseN (fun h => ?_) (fun h => ?_)) <;> try (exfalso; omega))
          | ((with_reducible refine vc_case (fun h => ?_) (fun h => ?_)) <;> (try simp at h) <;> try (exfalso; omega))))
  all_goals first
    | rfl
    | exact h0
    | exact hx
    | (simp only; omega)
    | (rw [he1]; done)
    | (rw [he2]; done)
    | (simp only [List.drop_zero, List.take_length]; rw [tD_app]; done)
    | (congr 1; rw [wrap64_id (by omega) (by omega)]; simp only; omega)
    | (refine ⟨⟨by simp, by first | trivial | rfl, room24 rfl ?_⟩, fun y hy => ?_⟩
       · rw [List.length_append, List.length_map]
         show x.1.length + 1 ≤ 4096
         omega
       · simp only [List.drop_zero, List.take_length, List.mem_singleton] at hy; subst hy; rfl)

theorem texts_not (B : List D) (bs : List UInt8) (hB : B = bs.map byteD) (hc : ∀ n k, rdC bs 4096 0 = some (n, k) → rdTs bs n k = none) (hl : bs.length < 2 ^ 63) :
    LocalPan Try.prog 59 [.ptr 9 [], .ptr 8 []] [(9, rd B 0), (8, .var (.d .nils))] [] fault [(9, .dead), (8, .dead)] := by
  refine vc_fnPan mixed Try.func59 rfl rfl [(500000, [1000000007000000008])] (vc_chk rfl) ?_
  rcases hr0 : rdC bs 4096 0 with _ | ⟨n, k⟩
  · skip
    repeat' (first
        | ((with_reducible refine vc_chk ?_); first | decide +kernel | rfl)
        | (with_reducible refine vc_side0 ?_; rfl)
        | (with_reducible first
             | refine vc_true ?_ | refine vc_true2 ?_ | refine vc_side ?_ ?_ | refine vc_triv | refine vc_later ?_ | refine vc_caseT ?_ | refine vc_caseF ?_ | refine vc_cons ?_ | refine vc_nil ?_ ?_ | refine vc_seq ?_
                | refine vc_region ?_ | refine vc_cond ?_ | refine vc_block ?_ | refine vc_retc ?_ | refine vc_exit ?_ | refine vc_skip ?_ | refine vc_scope ?_ | refine vc_label ?_ | refine vc_goto ?_ | refine vc_wkSl0
                | refine vc_wkHp0 | refine vc_eqAVs0 | refine vc_preG0 | refine vc_wkSl ?_ ?_ | refine vc_wkHp ?_ ?_ | refine vc_eqAVs ?_ ?_ | refine vc_preG ?_ ?_ | refine vc_side0 ?_
                | refine vc_pan [] (count_pan B bs hB 4096 0 hr0 (by omega) (by omega) hl) ?_ | refine vc_panc [] [8] ?_ ?_ | refine vc_weakf [] ?_ ?_ ?_ | refine vc_and ?_ ?_ | refine vc_ret [] [] ?_)
        | ((with_reducible first | refine vc_caseD (fun h => ?_) (fun h => ?_) | refine vc_caseN (fun h => ?_) (fun h => ?_)) <;> try (exfalso; omega))
        | ((with_reducible refine vc_case (fun h => ?_) (fun h => ?_)) <;> (try simp at h) <;> try (exfalso; omega))
        | (conv in Vc _ => arg 1; whnf
           first
            | (with_reducible refine vc_side0 ?_; rfl)
            | (with_reducible first
                | refine vc_true ?_ | refine vc_true2 ?_ | refine vc_side ?_ ?_ | refine vc_triv | refine vc_later ?_ | refine vc_caseT ?_ | refine vc_caseF ?_ | refine vc_cons ?_ | refine vc_nil ?_ ?_ | refine vc_seq ?_
                   | refine vc_region ?_ | refine vc_cond ?_ | refine vc_block ?_ | refine vc_retc ?_ | refine vc_exit ?_ | refine vc_skip ?_ | refine vc_scope ?_ | refine vc_label ?_ | refine vc_goto ?_ | refine vc_wkSl0
                   | refine vc_wkHp0 | refine vc_eqAVs0 | refine vc_preG0 | refine vc_wkSl ?_ ?_ | refine vc_wkHp ?_ ?_ | refine vc_eqAVs ?_ ?_ | refine vc_preG ?_ ?_ | refine vc_side0 ?_
                   | refine vc_pan [] (count_pan B bs hB 4096 0 hr0 (by omega) (by omega) hl) ?_ | refine vc_panc [] [8] ?_ ?_ | refine vc_weakf [] ?_ ?_ ?_ | refine vc_and ?_ ?_ | refine vc_ret [] [] ?_)
            | ((with_reducible first | refine vc_caseD (fun h => ?_) (fun h => ?_) | refine vc_caseN (fun h => ?_) (fun h => ?_)) <;> try (exfalso; omega))
            | ((with_reducible refine vc_case (fun h => ?_) (fun h => ?_)) <;> (try simp at h) <;> try (exfalso; omega))))
    all_goals rfl
  · have hn := (rdC_ok hr0).2.2
    have h0 : RtI bs none ([], n, k) := ⟨by rw [hc n k hr0]; rfl, by simp; omega⟩
    repeat' (first
        | ((with_reducible refine vc_chk ?_); first | decide +kernel | rfl)
        | (with_reducible refine vc_side0 ?_; rfl)
        | (with_reducible first
             | refine vc_true ?_ | refine vc_true2 ?_ | refine vc_side ?_ ?_ | refine vc_triv | refine vc_later ?_ | refine vc_caseT ?_ | refine vc_caseF ?_ | refine vc_cons ?_ | refine vc_nil ?_ ?_ | refine vc_seq ?_
                | refine vc_region ?_ | refine vc_cond ?_ | refine vc_block ?_ | refine vc_retc ?_ | refine vc_exit ?_ | refine vc_skip ?_ | refine vc_scope ?_ | refine vc_label ?_ | refine vc_goto ?_ | refine vc_wkSl0
                | refine vc_wkHp0 | refine vc_eqAVs0 | refine vc_preG0 | refine vc_wkSl ?_ ?_ | refine vc_wkHp ?_ ?_ | refine vc_eqAVs ?_ ?_ | refine vc_preG ?_ ?_ | refine vc_side0 ?_
                | refine vc_call [] (count_ok B bs hB 4096 0 n k hr0 (by omega) hl) ?_
                | refine vc_loopI 15 (fun (x : List (List UInt8) × Nat × Nat) => [(0, .ptr 9 []), (1, .ptr 8 []), (3, .d (.int .i64 (x.2.1 : Int)))]) (fun x => [(9, rd B x.2.2), (8, .var (.sl 7 [] 1 0 (x.1.map tD).length)), (7, .row 1 (x.1.map tD))]) (fun x => x.2.1) (RtI bs none) ([], n, k) [] ?_ ?_ ?_ ?_ ?_ (fun x hI => hI.no (fun hz hv => ?_) (fun v e' hz hle hv hx => ?_))
                | refine vc_call [] (text_read B bs v hB x.2.2 e' hv hl) ?_ | refine vc_pan [] (text_nread B bs hB x.2.2 hv hl) ?_ | refine vc_nextI (x.1 ++ [v], x.2.1 - 1, e') [(7, 4016)] ?_ ?_ ?_ ?_ ?_ ?_
                | refine vc_panc [] [8] ?_ ?_ | refine vc_weakf [] ?_ ?_ ?_ | refine vc_and ?_ ?_ | refine vc_ret [] [] ?_)
        | ((with_reducible first | refine vc_caseD (fun h => ?_) (fun h => ?_) | refine vc_caseN (fun h => ?_) (fun h => ?_)) <;> try (exfalso; omega))
        | ((with_reducible refine vc_case (fun h => ?_) (fun h => ?_)) <;> (try simp at h) <;> try (exfalso; omega))
        | (conv in Vc _ => arg 1; whnf
           first
            | (with_reducible refine vc_side0 ?_; rfl)
            | (with_reducible first
                | refine vc_true ?_ | refine vc_true2 ?_ | refine vc_side ?_ ?_ | refine vc_triv | refine vc_later ?_ | refine vc_caseT ?_ | refine vc_caseF ?_ | refine vc_cons ?_ | refine vc_nil ?_ ?_ | refine vc_seq ?_
                   | refine vc_region ?_ | refine vc_cond ?_ | refine vc_block ?_ | refine vc_retc ?_ | refine vc_exit ?_ | refine vc_skip ?_ | refine vc_scope ?_ | refine vc_label ?_ | refine vc_goto ?_ | refine vc_wkSl0
                   | refine vc_wkHp0 | refine vc_eqAVs0 | refine vc_preG0 | refine vc_wkSl ?_ ?_ | refine vc_wkHp ?_ ?_ | refine vc_eqAVs ?_ ?_ | refine vc_preG ?_ ?_ | refine vc_side0 ?_
                   | refine vc_call [] (count_ok B bs hB 4096 0 n k hr0 (by omega) hl) ?_
                   | refine vc_loopI 15 (fun (x : List (List UInt8) × Nat × Nat) => [(0, .ptr 9 []), (1, .ptr 8 []), (3, .d (.int .i64 (x.2.1 : Int)))]) (fun x => [(9, rd B x.2.2), (8, .var (.sl 7 [] 1 0 (x.1.map tD).length)), (7, .row 1 (x.1.map tD))]) (fun x => x.2.1) (RtI bs none) ([], n, k) [] ?_ ?_ ?_ ?_ ?_ (fun x hI => hI.no (fun hz hv => ?_) (fun v e' hz hle hv hx => ?_))
                   | refine vc_call [] (text_read B bs v hB x.2.2 e' hv hl) ?_ | refine vc_pan [] (text_nread B bs hB x.2.2 hv hl) ?_ | refine vc_nextI (x.1 ++ [v], x.2.1 - 1, e') [(7, 4016)] ?_ ?_ ?_ ?_ ?_ ?_
                   | refine vc_panc [] [8] ?_ ?_ | refine vc_weakf [] ?_ ?_ ?_ | refine vc_and ?_ ?_ | refine vc_ret [] [] ?_)
            | ((with_reducible first | refine vc_caseD (fun h => ?_) (fun h => ?_) | refine vc_caseN (fun h => ?_) (fun h => ?_)) <;> try (exfalso; omega))
            | ((with_reducible refine vc_case (fun h => ?_) (fun h => ?_)) <;> (try simp at h) <;> try (exfalso; omega))))
    all_goals first
      | rfl
      | exact h0
      | exact hx
      | (simp only; omega)
      | (simp only [List.drop_zero, List.take_length]; rw [tD_app]; done)
      | (congr 1; rw [wrap64_id (by omega) (by omega)]; simp only; omega)
      | (refine ⟨⟨by simp, by first | trivial | rfl, room24 rfl ?_⟩, fun y hy => ?_⟩
         · rw [List.length_append, List.length_map]
           show x.1.length + 1 ≤ 4096
           omega
         · simp only [List.drop_zero, List.take_length, List.mem_singleton] at hy; subst hy; rfl)

end Go.Proofs.Ytcdjheiccefcdaa

/-
codec.ReadTexts.
-/
set_option linter.unusedSimpArgs false
set_option linter.unusedVariables false
namespace Go.Proofs.Ytcdjheiccefcdaa
open Go.Sym
set_option maxRecDepth 10000
set_option maxHeartbeats 1000000

/-- Bytes that are texts, to their end. -/
def rdTexts (bs : List UInt8) : Option (List (List UInt8)) := match rdC bs 4096 0 with
  | some (n, k) => match rdTs bs n k with
    | some (vs, e) => bif decide (e = bs.length) then some vs else none
    | none => none
  | none => none

theorem readTexts_in (B : List D) (bs : List UInt8) (hB : B = bs.map byteD) (n k e : Nat) (vs : List (List UInt8)) (hc : rdC bs 4096 0 = some (n, k)) (hr : rdTs bs n k = some (vs, e)) (he : e = bs.length) (hl : bs.length < 2 ^ 63) :
    LocalCall Try.prog 58 [.d (.sl B), .fn (.func 59) [.ptr 8 []]] [(8, .var (.d .nils))] [7] (one [.d (.int .i64 0)]) [(8, .var (.sl 7 [] 1 0 (vs.map tD).length)), (7, .row 1 (vs.map tD))] := by
  have hlen : B.length = bs.length := by rw [hB]; simp
  refine local_recovers mixed (sl2 := [(0, .d (.sl B)), (1, .fn (.func 59) [.ptr 8 []]), (4, .ptr 1000 [])]) (hp2 := [(8, .var (.d .nils)), (1000, .var (.d (.int .i64 0)))]) (N := 1000) Try.func58 rfl rfl rfl rfl rfl rfl rfl rfl rfl rfl [] catch_idle catch_pan rfl (vc_chk rfl) rfl (by decide) (by decide) rfl ?_ ?_
  · skip
    repeat' (first
        | ((with_reducible refine vc_chk ?_); first | decide +kernel | rfl)
        | (with_reducible refine vc_side0 ?_; rfl)
        | (with_reducible first
             | refine vc_true ?_ | refine vc_true2 ?_ | refine vc_side ?_ ?_ | refine vc_triv | refine vc_later ?_ | refine vc_caseT ?_ | refine vc_caseF ?_ | refine vc_cons ?_ | refine vc_nil ?_ ?_ | refine vc_seq ?_
                | refine vc_region ?_ | refine vc_cond ?_ | refine vc_block ?_ | refine vc_retc ?_ | refine vc_exit ?_ | refine vc_skip ?_ | refine vc_scope ?_ | refine vc_label ?_ | refine vc_goto ?_ | refine vc_wkSl0
                | refine vc_wkHp0 | refine vc_eqAVs0 | refine vc_preG0 | refine vc_wkSl ?_ ?_ | refine vc_wkHp ?_ ?_ | refine vc_eqAVs ?_ ?_ | refine vc_preG ?_ ?_ | refine vc_side0 ?_ | refine vc_mid [] ?_ ?_ ?_ ?_
                | refine vc_weakf [] ?_ ?_ ?_ | refine vc_and ?_ ?_ | refine vc_ret [] [] ?_)
        | ((with_reducible first | refine vc_caseD (fun h => ?_) (fun h => ?_) | refine vc_caseN (fun h => ?_) (fun h => ?_)) <;> try (exfalso; omega))
        | ((with_reducible refine vc_case (fun h => ?_) (fun h => ?_)) <;> (try simp at h) <;> try (exfalso; omega))
        | (conv in Vc _ => arg 1; whnf
           first
            | (with_reducible refine vc_side0 ?_; rfl)
            | (with_reducible first
                | refine vc_true ?_ | refine vc_true2 ?_ | refine vc_side ?_ ?_ | refine vc_triv | refine vc_later ?_ | refine vc_caseT ?_ | refine vc_caseF ?_ | refine vc_cons ?_ | refine vc_nil ?_ ?_ | refine vc_seq ?_
                   | refine vc_region ?_ | refine vc_cond ?_ | refine vc_block ?_ | refine vc_retc ?_ | refine vc_exit ?_ | refine vc_skip ?_ | refine vc_scope ?_ | refine vc_label ?_ | refine vc_goto ?_ | refine vc_wkSl0
                   | refine vc_wkHp0 | refine vc_eqAVs0 | refine vc_preG0 | refine vc_wkSl ?_ ?_ | refine vc_wkHp ?_ ?_ | refine vc_eqAVs ?_ ?_ | refine vc_preG ?_ ?_ | refine vc_side0 ?_ | refine vc_mid [] ?_ ?_ ?_ ?_
                   | refine vc_weakf [] ?_ ?_ ?_ | refine vc_and ?_ ?_ | refine vc_ret [] [] ?_)
            | ((with_reducible first | refine vc_caseD (fun h => ?_) (fun h => ?_) | refine vc_caseN (fun h => ?_) (fun h => ?_)) <;> try (exfalso; omega))
            | ((with_reducible refine vc_case (fun h => ?_) (fun h => ?_)) <;> (try simp at h) <;> try (exfalso; omega))))
    all_goals rfl
  · have hcl := local_ren [(9, 3008)] [(3008, 9)] (texts_in B bs hB n k e vs hc hr hl) rfl
    repeat' (first
        | ((with_reducible refine vc_chk ?_); first | decide +kernel | rfl)
        | (with_reducible refine vc_side0 ?_; rfl)
        | (with_reducible first
             | refine vc_true ?_ | refine vc_true2 ?_ | refine vc_side ?_ ?_ | refine vc_triv | refine vc_later ?_ | refine vc_caseT ?_ | refine vc_caseF ?_ | refine vc_cons ?_ | refine vc_nil ?_ ?_ | refine vc_seq ?_
                | refine vc_region ?_ | refine vc_cond ?_ | refine vc_block ?_ | refine vc_retc ?_ | refine vc_exit ?_ | refine vc_skip ?_ | refine vc_scope ?_ | refine vc_label ?_ | refine vc_goto ?_ | refine vc_wkSl0
                | refine vc_wkHp0 | refine vc_eqAVs0 | refine vc_preG0 | refine vc_wkSl ?_ ?_ | refine vc_wkHp ?_ ?_ | refine vc_eqAVs ?_ ?_ | refine vc_preG ?_ ?_ | refine vc_side0 ?_ | refine vc_call [] hcl ?_
                | refine vc_weakf [] ?_ ?_ ?_ | refine vc_and ?_ ?_ | refine vc_ret [] [] ?_)
        | ((with_reducible first | refine vc_caseD (fun h => ?_) (fun h => ?_) | refine vc_caseN (fun h => ?_) (fun h => ?_)) <;> try (exfalso; omega))
        | ((with_reducible refine vc_case (fun h => ?_) (fun h => ?_)) <;> (try simp at h) <;> try (exfalso; omega))
        | (conv in Vc _ => arg 1; whnf
           first
            | (with_reducible refine vc_side0 ?_; rfl)
            | (with_reducible first
                | refine vc_true ?_ | refine vc_true2 ?_ | refine vc_side ?_ ?_ | refine vc_triv | refine vc_later ?_ | refine vc_caseT ?_ | refine vc_caseF ?_ | refine vc_cons ?_ | refine vc_nil ?_ ?_ | refine vc_seq ?_
                   | refine vc_region ?_ | refine vc_cond ?_ | refine vc_block ?_ | refine vc_retc ?_ | refine vc_exit ?_ | refine vc_skip ?_ | refine vc_scope ?_ | refine vc_label ?_ | refine vc_goto ?_ | refine vc_wkSl0
                   | refine vc_wkHp0 | refine vc_eqAVs0 | refine vc_preG0 | refine vc_wkSl ?_ ?_ | refine vc_wkHp ?_ ?_ | refine vc_eqAVs ?_ ?_ | refine vc_preG ?_ ?_ | refine vc_side0 ?_ | refine vc_call [] hcl ?_
                   | refine vc_weakf [] ?_ ?_ ?_ | refine vc_and ?_ ?_ | refine vc_ret [] [] ?_)
            | ((with_reducible first | refine vc_caseD (fun h => ?_) (fun h => ?_) | refine vc_caseN (fun h => ?_) (fun h => ?_)) <;> try (exfalso; omega))
            | ((with_reducible refine vc_case (fun h => ?_) (fun h => ?_)) <;> (try simp at h) <;> try (exfalso; omega))))
    all_goals rfl

theorem readTexts_not (B : List D) (bs : List UInt8) (hB : B = bs.map byteD) (hc : ∀ n k, rdC bs 4096 0 = some (n, k) → rdTs bs n k = none) (hl : bs.length < 2 ^ 63) :
    LocalCall Try.prog 58 [.d (.sl B), .fn (.func 59) [.ptr 8 []]] [(8, .var (.d .nils))] [] (one [.d (.int .i64 3)]) [(8, .dead)] := by
  have hlen : B.length = bs.length := by rw [hB]; simp
  refine local_recovers mixed (sl2 := [(0, .d (.sl B)), (1, .fn (.func 59) [.ptr 8 []]), (4, .ptr 1000 [])]) (hp2 := [(8, .var (.d .nils)), (1000, .var (.d (.int .i64 0)))]) (N := 1000) Try.func58 rfl rfl rfl rfl rfl rfl rfl rfl rfl rfl [] catch_idle catch_pan rfl (vc_chk rfl) rfl (by decide) (by decide) rfl ?_ ?_
  · skip
    repeat' (first
        | ((with_reducible refine vc_chk ?_); first | decide +kernel | rfl)
        | (with_reducible refine vc_side0 ?_; rfl)
        | (with_reducible first
             | refine vc_true ?_ | refine vc_true2 ?_ | refine vc_side ?_ ?_ | refine vc_triv | refine vc_later ?_ | refine vc_caseT ?_ | refine vc_caseF ?_ | refine vc_cons ?_ | refine vc_nil ?_ ?_ | refine vc_seq ?_
                | refine vc_region ?_ | refine vc_cond ?_ | refine vc_block ?_ | refine vc_retc ?_ | refine vc_exit ?_ | refine vc_skip ?_ | refine vc_scope ?_ | refine vc_label ?_ | refine vc_goto ?_ | refine vc_wkSl0
                | refine vc_wkHp0 | refine vc_eqAVs0 | refine vc_preG0 | refine vc_wkSl ?_ ?_ | refine vc_wkHp ?_ ?_ | refine vc_eqAVs ?_ ?_ | refine vc_preG ?_ ?_ | refine vc_side0 ?_ | refine vc_mid [] ?_ ?_ ?_ ?_
                | refine vc_weakf [] ?_ ?_ ?_ | refine vc_and ?_ ?_ | refine vc_ret [] [] ?_)
        | ((with_reducible first | refine vc_caseD (fun h => ?_) (fun h => ?_) | refine vc_caseN (fun h => ?_) (fun h => ?_)) <;> try (exfalso; omega))
        | ((with_reducible refine vc_case (fun h => ?_) (fun h => ?_)) <;> (try simp at h) <;> try (exfalso; omega))
        | (conv in Vc _ => arg 1; whnf
           first
            | (with_reducible refine vc_side0 ?_; rfl)
            | (with_reducible first
                | refine vc_true ?_ | refine vc_true2 ?_ | refine vc_side ?_ ?_ | refine vc_triv | refine vc_later ?_ | refine vc_caseT ?_ | refine vc_caseF ?_ | refine vc_cons ?_ | refine vc_nil ?_ ?_ | refine vc_seq ?_
                   | refine vc_region ?_ | refine vc_cond ?_ | refine vc_block ?_ | refine vc_retc ?_ | refine vc_exit ?_ | refine vc_skip ?_ | refine vc_scope ?_ | refine vc_label ?_ | refine vc_goto ?_ | refine vc_wkSl0
                   | refine vc_wkHp0 | refine vc_eqAVs0 | refine vc_preG0 | refine vc_wkSl ?_ ?_ | refine vc_wkHp ?_ ?_ | refine vc_eqAVs ?_ ?_ | refine vc_preG ?_ ?_ | refine vc_side0 ?_ | refine vc_mid [] ?_ ?_ ?_ ?_
                   | refine vc_weakf [] ?_ ?_ ?_ | refine vc_and ?_ ?_ | refine vc_ret [] [] ?_)
            | ((with_reducible first | refine vc_caseD (fun h => ?_) (fun h => ?_) | refine vc_caseN (fun h => ?_) (fun h => ?_)) <;> try (exfalso; omega))
            | ((with_reducible refine vc_case (fun h => ?_) (fun h => ?_)) <;> (try simp at h) <;> try (exfalso; omega))))
    all_goals rfl
  · have hcl := localPan_ren [(9, 3008)] [(3008, 9)] (texts_not B bs hB hc hl) rfl
    repeat' (first
        | ((with_reducible refine vc_chk ?_); first | decide +kernel | rfl)
        | (with_reducible refine vc_side0 ?_; rfl)
        | (with_reducible first
             | refine vc_true ?_ | refine vc_true2 ?_ | refine vc_side ?_ ?_ | refine vc_triv | refine vc_later ?_ | refine vc_caseT ?_ | refine vc_caseF ?_ | refine vc_cons ?_ | refine vc_nil ?_ ?_ | refine vc_seq ?_
                | refine vc_region ?_ | refine vc_cond ?_ | refine vc_block ?_ | refine vc_retc ?_ | refine vc_exit ?_ | refine vc_skip ?_ | refine vc_scope ?_ | refine vc_label ?_ | refine vc_goto ?_ | refine vc_wkSl0
                | refine vc_wkHp0 | refine vc_eqAVs0 | refine vc_preG0 | refine vc_wkSl ?_ ?_ | refine vc_wkHp ?_ ?_ | refine vc_eqAVs ?_ ?_ | refine vc_preG ?_ ?_ | refine vc_side0 ?_ | refine vc_pan [] hcl ?_
                | refine vc_weakf [] ?_ ?_ ?_ | refine vc_and ?_ ?_ | refine vc_ret [] [] ?_)
        | ((with_reducible first | refine vc_caseD (fun h => ?_) (fun h => ?_) | refine vc_caseN (fun h => ?_) (fun h => ?_)) <;> try (exfalso; omega))
        | ((with_reducible refine vc_case (fun h => ?_) (fun h => ?_)) <;> (try simp at h) <;> try (exfalso; omega))
        | (conv in Vc _ => arg 1; whnf
           first
            | (with_reducible refine vc_side0 ?_; rfl)
            | (with_reducible first
                | refine vc_true ?_ | refine vc_true2 ?_ | refine vc_side ?_ ?_ | refine vc_triv | refine vc_later ?_ | refine vc_caseT ?_ | refine vc_caseF ?_ | refine vc_cons ?_ | refine vc_nil ?_ ?_ | refine vc_seq ?_
                   | refine vc_region ?_ | refine vc_cond ?_ | refine vc_block ?_ | refine vc_retc ?_ | refine vc_exit ?_ | refine vc_skip ?_ | refine vc_scope ?_ | refine vc_label ?_ | refine vc_goto ?_ | refine vc_wkSl0
                   | refine vc_wkHp0 | refine vc_eqAVs0 | refine vc_preG0 | refine vc_wkSl ?_ ?_ | refine vc_wkHp ?_ ?_ | refine vc_eqAVs ?_ ?_ | refine vc_preG ?_ ?_ | refine vc_side0 ?_ | refine vc_pan [] hcl ?_
                   | refine vc_weakf [] ?_ ?_ ?_ | refine vc_and ?_ ?_ | refine vc_ret [] [] ?_)
            | ((with_reducible first | refine vc_caseD (fun h => ?_) (fun h => ?_) | refine vc_caseN (fun h => ?_) (fun h => ?_)) <;> try (exfalso; omega))
            | ((with_reducible refine vc_case (fun h => ?_) (fun h => ?_)) <;> (try simp at h) <;> try (exfalso; omega))))
    all_goals rfl

theorem readTexts_more (B : List D) (bs : List UInt8) (hB : B = bs.map byteD) (n k e : Nat) (vs : List (List UInt8)) (hc : rdC bs 4096 0 = some (n, k)) (hr : rdTs bs n k = some (vs, e)) (he : ¬ e = bs.length) (hl : bs.length < 2 ^ 63) :
    LocalCall Try.prog 58 [.d (.sl B), .fn (.func 59) [.ptr 8 []]] [(8, .var (.d .nils))] [] (one [.d (.int .i64 3)]) [(8, .dead)] := by
  have hlen : B.length = bs.length := by rw [hB]; simp
  refine local_recovers mixed (sl2 := [(0, .d (.sl B)), (1, .fn (.func 59) [.ptr 8 []]), (4, .ptr 1000 [])]) (hp2 := [(8, .var (.d .nils)), (1000, .var (.d (.int .i64 0)))]) (N := 1000) Try.func58 rfl rfl rfl rfl rfl rfl rfl rfl rfl rfl [] catch_idle catch_pan rfl (vc_chk rfl) rfl (by decide) (by decide) rfl ?_ ?_
  · skip
    repeat' (first
        | ((with_reducible refine vc_chk ?_); first | decide +kernel | rfl)
        | (with_reducible refine vc_side0 ?_; rfl)
        | (with_reducible first
             | refine vc_true ?_ | refine vc_true2 ?_ | refine vc_side ?_ ?_ | refine vc_triv | refine vc_later ?_ | refine vc_caseT ?_ | refine vc_caseF ?_ | refine vc_cons ?_ | refine vc_nil ?_ ?_ | refine vc_seq ?_
                | refine vc_region ?_ | refine vc_cond ?_ | refine vc_block ?_ | refine vc_retc ?_ | refine vc_exit ?_ | refine vc_skip ?_ | refine vc_scope ?_ | refine vc_label ?_ | refine vc_goto ?_ | refine vc_wkSl0
                | refine vc_wkHp0 | refine vc_eqAVs0 | refine vc_preG0 | refine vc_wkSl ?_ ?_ | refine vc_wkHp ?_ ?_ | refine vc_eqAVs ?_ ?_ | refine vc_preG ?_ ?_ | refine vc_side0 ?_ | refine vc_mid [] ?_ ?_ ?_ ?_
                | refine vc_weakf [] ?_ ?_ ?_ | refine vc_and ?_ ?_ | refine vc_ret [] [] ?_)
        | ((with_reducible first | refine vc_caseD (fun h => ?_) (fun h => ?_) | refine vc_caseN (fun h => ?_) (fun h => ?_)) <;> try (exfalso; omega))
        | ((with_reducible refine vc_case (fun h => ?_) (fun h => ?_)) <;> (try simp at h) <;> try (exfalso; omega))
        | (conv in Vc _ => arg 1; whnf
           first
            | (with_reducible refine vc_side0 ?_; rfl)
            | (with_reducible first
                | refine vc_true ?_ | refine vc_true2 ?_ | refine vc_side ?_ ?_ | refine vc_triv | refine vc_later ?_ | refine vc_caseT ?_ | refine vc_caseF ?_ | refine vc_cons ?_ | refine vc_nil ?_ ?_ | refine vc_seq ?_
                   | refine vc_region ?_ | refine vc_cond ?_ | refine vc_block ?_ | refine vc_retc ?_ | refine vc_exit ?_ | refine vc_skip ?_ | refine vc_scope ?_ | refine vc_label ?_ | refine vc_goto ?_ | refine vc_wkSl0
                   | refine vc_wkHp0 | refine vc_eqAVs0 | refine vc_preG0 | refine vc_wkSl ?_ ?_ | refine vc_wkHp ?_ ?_ | refine vc_eqAVs ?_ ?_ | refine vc_preG ?_ ?_ | refine vc_side0 ?_ | refine vc_mid [] ?_ ?_ ?_ ?_
                   | refine vc_weakf [] ?_ ?_ ?_ | refine vc_and ?_ ?_ | refine vc_ret [] [] ?_)
            | ((with_reducible first | refine vc_caseD (fun h => ?_) (fun h => ?_) | refine vc_caseN (fun h => ?_) (fun h => ?_)) <;> try (exfalso; omega))
            | ((with_reducible refine vc_case (fun h => ?_) (fun h => ?_)) <;> (try simp at h) <;> try (exfalso; omega))))
    all_goals rfl
  · have hcl := local_ren [(9, 3008)] [(3008, 9)] (texts_in B bs hB n k e vs hc hr hl) rfl
    repeat' (first
        | ((with_reducible refine vc_chk ?_); first | decide +kernel | rfl)
        | (with_reducible refine vc_side0 ?_; rfl)
        | (with_reducible first
             | refine vc_true ?_ | refine vc_true2 ?_ | refine vc_side ?_ ?_ | refine vc_triv | refine vc_later ?_ | refine vc_caseT ?_ | refine vc_caseF ?_ | refine vc_cons ?_ | refine vc_nil ?_ ?_ | refine vc_seq ?_
                | refine vc_region ?_ | refine vc_cond ?_ | refine vc_block ?_ | refine vc_retc ?_ | refine vc_exit ?_ | refine vc_skip ?_ | refine vc_scope ?_ | refine vc_label ?_ | refine vc_goto ?_ | refine vc_wkSl0
                | refine vc_wkHp0 | refine vc_eqAVs0 | refine vc_preG0 | refine vc_wkSl ?_ ?_ | refine vc_wkHp ?_ ?_ | refine vc_eqAVs ?_ ?_ | refine vc_preG ?_ ?_ | refine vc_side0 ?_ | refine vc_call [] hcl ?_
                | refine vc_retK [] [] [8] ?_ | refine vc_weakf [] ?_ ?_ ?_ | refine vc_and ?_ ?_ | refine vc_ret [] [] ?_)
        | ((with_reducible first | refine vc_caseD (fun h => ?_) (fun h => ?_) | refine vc_caseN (fun h => ?_) (fun h => ?_)) <;> try (exfalso; omega))
        | ((with_reducible refine vc_case (fun h => ?_) (fun h => ?_)) <;> (try simp at h) <;> try (exfalso; omega))
        | (conv in Vc _ => arg 1; whnf
           first
            | (with_reducible refine vc_side0 ?_; rfl)
            | (with_reducible first
                | refine vc_true ?_ | refine vc_true2 ?_ | refine vc_side ?_ ?_ | refine vc_triv | refine vc_later ?_ | refine vc_caseT ?_ | refine vc_caseF ?_ | refine vc_cons ?_ | refine vc_nil ?_ ?_ | refine vc_seq ?_
                   | refine vc_region ?_ | refine vc_cond ?_ | refine vc_block ?_ | refine vc_retc ?_ | refine vc_exit ?_ | refine vc_skip ?_ | refine vc_scope ?_ | refine vc_label ?_ | refine vc_goto ?_ | refine vc_wkSl0
                   | refine vc_wkHp0 | refine vc_eqAVs0 | refine vc_preG0 | refine vc_wkSl ?_ ?_ | refine vc_wkHp ?_ ?_ | refine vc_eqAVs ?_ ?_ | refine vc_preG ?_ ?_ | refine vc_side0 ?_ | refine vc_call [] hcl ?_
                   | refine vc_retK [] [] [8] ?_ | refine vc_weakf [] ?_ ?_ ?_ | refine vc_and ?_ ?_ | refine vc_ret [] [] ?_)
            | ((with_reducible first | refine vc_caseD (fun h => ?_) (fun h => ?_) | refine vc_caseN (fun h => ?_) (fun h => ?_)) <;> try (exfalso; omega))
            | ((with_reducible refine vc_case (fun h => ?_) (fun h => ?_)) <;> (try simp at h) <;> try (exfalso; omega))))
    all_goals rfl

theorem readTexts_no (B : List D) (bs : List UInt8) (hB : B = bs.map byteD) (h : rdTexts bs = none) (hl : bs.length < 2 ^ 63) :
    LocalCall Try.prog 58 [.d (.sl B), .fn (.func 59) [.ptr 8 []]] [(8, .var (.d .nils))] [] (one [.d (.int .i64 3)]) [(8, .dead)] := by
  unfold rdTexts at h
  split at h
  · rename_i n k hc
    split at h
    · rename_i vs e hr
      refine readTexts_more B bs hB n k e vs hc hr (fun he => ?_) hl
      rw [decide_eq_true he] at h; cases h
    · rename_i hr
      exact readTexts_not B bs hB (fun n' k' hc' => by rw [hc] at hc'; cases hc'; exact hr) hl
  · rename_i hc
    exact readTexts_not B bs hB (fun n' k' hc' => by rw [hc] at hc'; cases hc') hl

theorem rdTexts_some {bs : List UInt8} {vs : List (List UInt8)} (h : rdTexts bs = some vs) : ∃ n k e, rdC bs 4096 0 = some (n, k) ∧ rdTs bs n k = some (vs, e) ∧ e = bs.length := by
  unfold rdTexts at h
  split at h
  · rename_i n k hc
    split at h
    · rename_i vs' e hr
      cases hb : decide (e = bs.length) with
      | true => rw [hb] at h; cases h; exact ⟨n, k, e, hc, hr, of_decide_eq_true hb⟩
      | false => rw [hb] at h; cases h
    · cases h
  · cases h

theorem rTexts_yes (B : List D) (bs : List UInt8) (hB : B = bs.map byteD) (vs : List (List UInt8)) (h : rdTexts bs = some vs) (hl : bs.length < 2 ^ 63) :
    LocalCall Try.prog 34 [.d (.sl B)] [] [] (one [.d (.sl (vs.map tD)), .d (.int .i64 0)]) [] := by
  obtain ⟨n, k, e, hc, hr, he⟩ := rdTexts_some h
  have hcl := local_ren [(8, 2000)] [(2000, 8)] (readTexts_in B bs hB n k e vs hc hr he hl) rfl
  refine vc_fn mixed Try.func34 rfl rfl [] (vc_chk rfl) ?_
  repeat' (first
      | ((with_reducible refine vc_chk ?_); first | decide +kernel | rfl)
      | (with_reducible refine vc_side0 ?_; rfl)
      | (with_reducible first
           | refine vc_true ?_ | refine vc_true2 ?_ | refine vc_side ?_ ?_ | refine vc_triv | refine vc_later ?_ | refine vc_caseT ?_ | refine vc_caseF ?_ | refine vc_cons ?_ | refine vc_nil ?_ ?_ | refine vc_seq ?_
              | refine vc_region ?_ | refine vc_cond ?_ | refine vc_block ?_ | refine vc_retc ?_ | refine vc_exit ?_ | refine vc_skip ?_ | refine vc_scope ?_ | refine vc_label ?_ | refine vc_goto ?_ | refine vc_wkSl0
              | refine vc_wkHp0 | refine vc_eqAVs0 | refine vc_preG0 | refine vc_wkSl ?_ ?_ | refine vc_wkHp ?_ ?_ | refine vc_eqAVs ?_ ?_ | refine vc_preG ?_ ?_ | refine vc_side0 ?_ | refine vc_call [] hcl ?_
              | refine vc_ret [true] [] ?_ | refine vc_weakf [] ?_ ?_ ?_ | refine vc_and ?_ ?_ | refine vc_ret [] [] ?_)
      | ((with_reducible first | refine vc_caseD (fun h => ?_) (fun h => ?_) | refine vc_caseN (fun h => ?_) (fun h => ?_)) <;> try (exfalso; omega))
      | ((with_reducible refine vc_case (fun h => ?_) (fun h => ?_)) <;> (try simp at h) <;> try (exfalso; omega))
      | (conv in Vc _ => arg 1; whnf
         first
          | (with_reducible refine vc_side0 ?_; rfl)
          | (with_reducible first
              | refine vc_true ?_ | refine vc_true2 ?_ | refine vc_side ?_ ?_ | refine vc_triv | refine vc_later ?_ | refine vc_caseT ?_ | refine vc_caseF ?_ | refine vc_cons ?_ | refine vc_nil ?_ ?_ | refine vc_seq ?_
                 | refine vc_region ?_ | refine vc_cond ?_ | refine vc_block ?_ | refine vc_retc ?_ | refine vc_exit ?_ | refine vc_skip ?_ | refine vc_scope ?_ | refine vc_label ?_ | refine vc_goto ?_ | refine vc_wkSl0
                 | refine vc_wkHp0 | refine vc_eqAVs0 | refine vc_preG0 | refine vc_wkSl ?_ ?_ | refine vc_wkHp ?_ ?_ | refine vc_eqAVs ?_ ?_ | refine vc_preG ?_ ?_ | refine vc_side0 ?_ | refine vc_call [] hcl ?_
                 | refine vc_ret [true] [] ?_ | refine vc_weakf [] ?_ ?_ ?_ | refine vc_and ?_ ?_ | refine vc_ret [] [] ?_)
          | ((with_reducible first | refine vc_caseD (fun h => ?_) (fun h => ?_) | refine vc_caseN (fun h => ?_) (fun h => ?_)) <;> try (exfalso; omega))
          | ((with_reducible refine vc_case (fun h => ?_) (fun h => ?_)) <;> (try simp at h) <;> try (exfalso; omega))))
  all_goals first
    | rfl
    | exact ⟨trivial, trivial, trivial⟩
    | exact ⟨Nat.le_of_eq (Nat.zero_add _), trivial⟩
    | (rw [List.drop_zero, List.take_length]; done)

theorem rTexts_no (B : List D) (bs : List UInt8) (hB : B = bs.map byteD) (h : rdTexts bs = none) (hl : bs.length < 2 ^ 63) :
    LocalCall Try.prog 34 [.d (.sl B)] [] [] (one [.d (.sl []), .d (.int .i64 3)]) [] := by
  have hcl := local_ren [(8, 2000)] [(2000, 8)] (readTexts_no B bs hB h hl) rfl
  refine vc_fn mixed Try.func34 rfl rfl [] (vc_chk rfl) ?_
  repeat' (first
      | ((with_reducible refine vc_chk ?_); first | decide +kernel | rfl)
      | (with_reducible refine vc_side0 ?_; rfl)
      | (with_reducible first
           | refine vc_true ?_ | refine vc_true2 ?_ | refine vc_side ?_ ?_ | refine vc_triv | refine vc_later ?_ | refine vc_caseT ?_ | refine vc_caseF ?_ | refine vc_cons ?_ | refine vc_nil ?_ ?_ | refine vc_seq ?_
              | refine vc_region ?_ | refine vc_cond ?_ | refine vc_block ?_ | refine vc_retc ?_ | refine vc_exit ?_ | refine vc_skip ?_ | refine vc_scope ?_ | refine vc_label ?_ | refine vc_goto ?_ | refine vc_wkSl0
              | refine vc_wkHp0 | refine vc_eqAVs0 | refine vc_preG0 | refine vc_wkSl ?_ ?_ | refine vc_wkHp ?_ ?_ | refine vc_eqAVs ?_ ?_ | refine vc_preG ?_ ?_ | refine vc_side0 ?_ | refine vc_call [] hcl ?_
              | refine vc_ret [true] [] ?_ | refine vc_weakf [] ?_ ?_ ?_ | refine vc_and ?_ ?_ | refine vc_ret [] [] ?_)
      | ((with_reducible first | refine vc_caseD (fun h => ?_) (fun h => ?_) | refine vc_caseN (fun h => ?_) (fun h => ?_)) <;> try (exfalso; omega))
      | ((with_reducible refine vc_case (fun h => ?_) (fun h => ?_)) <;> (try simp at h) <;> try (exfalso; omega))
      | (conv in Vc _ => arg 1; whnf
         first
          | (with_reducible refine vc_side0 ?_; rfl)
          | (with_reducible first
              | refine vc_true ?_ | refine vc_true2 ?_ | refine vc_side ?_ ?_ | refine vc_triv | refine vc_later ?_ | refine vc_caseT ?_ | refine vc_caseF ?_ | refine vc_cons ?_ | refine vc_nil ?_ ?_ | refine vc_seq ?_
                 | refine vc_region ?_ | refine vc_cond ?_ | refine vc_block ?_ | refine vc_retc ?_ | refine vc_exit ?_ | refine vc_skip ?_ | refine vc_scope ?_ | refine vc_label ?_ | refine vc_goto ?_ | refine vc_wkSl0
                 | refine vc_wkHp0 | refine vc_eqAVs0 | refine vc_preG0 | refine vc_wkSl ?_ ?_ | refine vc_wkHp ?_ ?_ | refine vc_eqAVs ?_ ?_ | refine vc_preG ?_ ?_ | refine vc_side0 ?_ | refine vc_call [] hcl ?_
                 | refine vc_ret [true] [] ?_ | refine vc_weakf [] ?_ ?_ ?_ | refine vc_and ?_ ?_ | refine vc_ret [] [] ?_)
          | ((with_reducible first | refine vc_caseD (fun h => ?_) (fun h => ?_) | refine vc_caseN (fun h => ?_) (fun h => ?_)) <;> try (exfalso; omega))
          | ((with_reducible refine vc_case (fun h => ?_) (fun h => ?_)) <;> (try simp at h) <;> try (exfalso; omega))))
  all_goals first
    | rfl
    | exact ⟨trivial, trivial, trivial⟩
    | exact ⟨Nat.le_of_eq (Nat.zero_add _), trivial⟩
    | (rw [List.drop_zero, List.take_length]; done)

end Go.Proofs.Ytcdjheiccefcdaa

/-
codec.Nums.
-/
set_option linter.unusedSimpArgs false
set_option linter.unusedVariables false
namespace Go.Proofs.Ytcdjheiccefcdaa
open Go.Sym
set_option maxRecDepth 10000
set_option maxHeartbeats 1000000

/-- Numbers one behind the other. -/
def numsB (vs : List Nat) : List UInt8 := vs.flatMap numB

end Go.Proofs.Ytcdjheiccefcdaa

/-
What the law CodecWrites returns.
-/
set_option linter.unusedSimpArgs false
set_option linter.unusedVariables false
namespace Go.Proofs.Ytcdjheiccefcdaa
open Go.Sym
set_option maxRecDepth 10000
set_option maxHeartbeats 1000000

end Go.Proofs.Ytcdjheiccefcdaa

/-
codec.Texts.
-/
set_option linter.unusedSimpArgs false
set_option linter.unusedVariables false
namespace Go.Proofs.Ytcdjheiccefcdaa
open Go.Sym
set_option maxRecDepth 10000
set_option maxHeartbeats 1000000

theorem textsB_take (vs : List (List UInt8)) {i : Nat} (h : i < vs.length) : textsB (vs.take i) ++ textB (vs.getD i []) = textsB (vs.take (i + 1)) := by
  unfold textsB
  rw [List.take_succ_eq_append_getElem h, List.flatMap_append, List.getD_eq_getElem?_getD, List.getElem?_eq_getElem h]
  simp

theorem textsB_sub (vs : List (List UInt8)) (i : Nat) : (textsB (vs.take i)).length ≤ (textsB vs).length := by
  have : textsB vs = textsB (vs.take i) ++ textsB (vs.drop i) := by
    unfold textsB
    rw [← List.flatMap_append, List.take_append_drop]
  rw [this]; simp

theorem texts_ok (L : List D) (vs : List (List UInt8)) (hL : L = vs.map tD) (hroom : Room (numB vs.length ++ textsB vs).length 1) :
    LocalCall Try.prog 33 [.d (.sl L)] [] [] (one [.d (.sl ((numB vs.length ++ textsB vs).map byteD))]) [] := by
  have hlen : L.length = vs.length := by rw [hL]; simp
  have hl := room_lt hroom
  have hge : ∀ ws : List (List UInt8), ws.length ≤ (textsB ws).length := fun ws => by
    induction ws with
    | nil => simp
    | cons w ws ih => have := numB_pos w.length; simp only [textsB, textB, List.flatMap_cons, List.length_append, List.length_cons] at ih ⊢; omega
  have := hge vs
  simp only [List.length_append] at hl
  have hget : ∀ i, i < vs.length → L.getD i .nilp = .sl ((vs.getD i []).map byteD) := fun i hi => by
    rw [hL, List.getD_eq_getElem?_getD, List.getElem?_map, List.getD_eq_getElem?_getD, List.getElem?_eq_getElem hi]; rfl
  have hels : ∀ i, i < vs.length → (L.getD ((i : Int)).toNat .nilp).els = (vs.getD i []).map byteD := fun i hi => by
    rw [Int.toNat_natCast, hget i hi]; rfl
  have hR : ∀ i, i < vs.length → Room ((numB vs.length ++ textsB (vs.take i)).map byteD ++ (numB ((vs.getD i []).map byteD).length).map byteD ++ (vs.getD i []).map byteD).length 1 := fun i hi => by
    refine room_le hroom rfl ?_
    have h2 := congrArg List.length (textsB_take vs hi)
    have h3 := textsB_sub vs (i + 1)
    simp only [textB, List.length_append, List.length_map] at h2 ⊢
    omega
  have hS : ∀ i, i < vs.length → ∀ y, y ∈ (L.getD ((i : Int)).toNat .nilp).els → y.size = 1 := fun i hi => by rw [hels i hi]; exact size_bytes _
  have hR2 : ∀ i, i < vs.length → Room ((numB vs.length ++ textsB (vs.take i)).map byteD ++ (numB ((L.getD ((i : Int)).toNat .nilp).els).length).map byteD ++ (L.getD ((i : Int)).toNat .nilp).els).length 1 := fun i hi => by rw [hels i hi]; exact hR i hi
  refine vc_fn mixed Try.func33 rfl rfl [] (vc_chk rfl) ?_
  repeat' (first
      | ((with_reducible refine vc_chk ?_); first | decide +kernel | rfl)
      | (with_reducible refine vc_side0 ?_; rfl)
      | (with_reducible first
           | refine vc_true ?_ | refine vc_true2 ?_ | refine vc_side ?_ ?_ | refine vc_triv | refine vc_later ?_ | refine vc_caseT ?_ | refine vc_caseF ?_ | refine vc_cons ?_ | refine vc_nil ?_ ?_ | refine vc_seq ?_
              | refine vc_region ?_ | refine vc_cond ?_ | refine vc_block ?_ | refine vc_retc ?_ | refine vc_exit ?_ | refine vc_skip ?_ | refine vc_scope ?_ | refine vc_label ?_ | refine vc_goto ?_ | refine vc_wkSl0
              | refine vc_wkHp0 | refine vc_eqAVs0 | refine vc_preG0 | refine vc_wkSl ?_ ?_ | refine vc_wkHp ?_ ?_ | refine vc_eqAVs ?_ ?_ | refine vc_preG ?_ ?_ | refine vc_side0 ?_
              | refine vc_callU (num_nil (A := 3) (B := 7) (by decide) _ vs.length (by rw [hlen, wrapU64_id (by omega) (by omega)]) (by omega)) ?_ ?_
              | refine vc_loopI 21 (fun (i : Nat) => [(0, .d (.sl L)), (3, .sl 7 [] 1 0 ((numB vs.length ++ textsB (vs.take i)).map byteD).length), (10, .d (.sl L)), (11, .d (.int .i64 (L.length : Int))), (12, .d (.int .i64 (i : Int)))]) (fun i => [(7, .row 1 ((numB vs.length ++ textsB (vs.take i)).map byteD))]) (fun i => vs.length - i) (fun i => i ≤ vs.length) 0 [] ?_ ?_ ?_ ?_ ?_ (fun i hI => ?_)
              | refine vc_callU (text_at (A := 7) (B := 8) (by decide) ((numB vs.length ++ textsB (vs.take i)).map byteD) _ (hS i (by omega)) (hR2 i (by omega))) ?_ ?_ | refine vc_nextI (i + 1) [(7, 8)] ?_ ?_ ?_ ?_ ?_ ?_
              | refine vc_ret [true] [] ?_ | refine vc_weakf [] ?_ ?_ ?_ | refine vc_and ?_ ?_ | refine vc_ret [] [] ?_)
      | ((with_reducible first | refine vc_caseD (fun h => ?_) (fun h => ?_) | refine vc_caseN (fun h => ?_) (fun h => ?_)) <;> try (exfalso; omega))
      | ((with_reducible refine vc_case (fun h => ?_) (fun h => ?_)) <;> (try simp at h) <;> try (exfalso; omega))
      | (conv in Vc _ => arg 1; whnf
         first
          | (with_reducible refine vc_side0 ?_; rfl)
          | (with_reducible first
              | refine vc_true ?_ | refine vc_true2 ?_ | refine vc_side ?_ ?_ | refine vc_triv | refine vc_later ?_ | refine vc_caseT ?_ | refine vc_caseF ?_ | refine vc_cons ?_ | refine vc_nil ?_ ?_ | refine vc_seq ?_
                 | refine vc_region ?_ | refine vc_cond ?_ | refine vc_block ?_ | refine vc_retc ?_ | refine vc_exit ?_ | refine vc_skip ?_ | refine vc_scope ?_ | refine vc_label ?_ | refine vc_goto ?_ | refine vc_wkSl0
                 | refine vc_wkHp0 | refine vc_eqAVs0 | refine vc_preG0 | refine vc_wkSl ?_ ?_ | refine vc_wkHp ?_ ?_ | refine vc_eqAVs ?_ ?_ | refine vc_preG ?_ ?_ | refine vc_side0 ?_
                 | refine vc_callU (num_nil (A := 3) (B := 7) (by decide) _ vs.length (by rw [hlen, wrapU64_id (by omega) (by omega)]) (by omega)) ?_ ?_
                 | refine vc_loopI 21 (fun (i : Nat) => [(0, .d (.sl L)), (3, .sl 7 [] 1 0 ((numB vs.length ++ textsB (vs.take i)).map byteD).length), (10, .d (.sl L)), (11, .d (.int .i64 (L.length : Int))), (12, .d (.int .i64 (i : Int)))]) (fun i => [(7, .row 1 ((numB vs.length ++ textsB (vs.take i)).map byteD))]) (fun i => vs.length - i) (fun i => i ≤ vs.length) 0 [] ?_ ?_ ?_ ?_ ?_ (fun i hI => ?_)
                 | refine vc_callU (text_at (A := 7) (B := 8) (by decide) ((numB vs.length ++ textsB (vs.take i)).map byteD) _ (hS i (by omega)) (hR2 i (by omega))) ?_ ?_ | refine vc_nextI (i + 1) [(7, 8)] ?_ ?_ ?_ ?_ ?_ ?_
                 | refine vc_ret [true] [] ?_ | refine vc_weakf [] ?_ ?_ ?_ | refine vc_and ?_ ?_ | refine vc_ret [] [] ?_)
          | ((with_reducible first | refine vc_caseD (fun h => ?_) (fun h => ?_) | refine vc_caseN (fun h => ?_) (fun h => ?_)) <;> try (exfalso; omega))
          | ((with_reducible refine vc_case (fun h => ?_) (fun h => ?_)) <;> (try simp at h) <;> try (exfalso; omega))))
  all_goals first
    | rfl
    | omega
    | (rw [hels i (by omega), ← textsB_take vs (by omega)]; simp [textB]; done)
    | (congr 1; rw [wrap64_id (by omega) (by omega)]; omega)
    | (refine ⟨⟨by omega, by omega⟩, ?_⟩
       rw [Int.toNat_natCast, hget i (by omega)]; rfl)
    | (obtain rfl : i = vs.length := by omega
       exact ⟨Nat.le_of_eq (Nat.zero_add _), trivial⟩)
    | (obtain rfl : i = vs.length := by omega
       rw [List.drop_zero, List.take_length, List.take_length]; done)
    | (simp [textsB]; done)

end Go.Proofs.Ytcdjheiccefcdaa

/-
What is written is what is read: numbers, texts, and lists of them; no program in sight.
-/
set_option linter.unusedSimpArgs false
set_option linter.unusedVariables false
namespace Go.Proofs.Ytcdjheiccefcdaa
open Go.Sym
set_option maxRecDepth 10000
set_option maxHeartbeats 1000000

theorem rdTs_iff {bs : List UInt8} : ∀ {n k e : Nat} {vs : List (List UInt8)}, rdTs bs n k = some (vs, e) → vs.length = n ∧ (∀ v, v ∈ vs → v.length ≤ 1048576) ∧ bs.drop k = textsB vs ++ bs.drop e
  | 0, k, e, vs, h => by cases h; exact ⟨rfl, nofun, rfl⟩
  | n + 1, k, e, vs, h => by
    rw [rdTs] at h
    split at h
    · rename_i v e' hr
      cases hq : rdTs bs n e' with
      | none => rw [hq] at h; cases h
      | some p =>
        obtain ⟨ws, e2⟩ := p
        rw [hq] at h
        simp only [Option.map_some, Option.some.injEq, Prod.mk.injEq] at h
        obtain ⟨rfl, rfl⟩ := h
        obtain ⟨h1, h2, h3⟩ := rdTs_iff hq
        obtain ⟨h4, h5⟩ := rdT_iff hr
        refine ⟨by simp [h1], fun v' hv' => ?_, ?_⟩
        · rcases List.mem_cons.1 hv' with rfl | hv'
          · exact h4
          · exact h2 v' hv'
        · rw [h5, h3]; simp [textsB]
    · cases h

theorem iff_rdTs {bs rest : List UInt8} : ∀ {vs : List (List UInt8)} {k : Nat}, (∀ v, v ∈ vs → v.length ≤ 1048576) → bs.drop k = textsB vs ++ rest → rdTs bs vs.length k = some (vs, k + (textsB vs).length) ∧ bs.drop (k + (textsB vs).length) = rest
  | [], k, _, h => ⟨rfl, h⟩
  | v :: vs, k, hv, h => by
    have e : textsB (v :: vs) = textB v ++ textsB vs := by simp [textsB]
    rw [e, List.append_assoc] at h
    obtain ⟨h1, h2⟩ := iff_rdT (hv v (by simp)) h
    obtain ⟨h3, h4⟩ := iff_rdTs (vs := vs) (fun w hw => hv w (by simp [hw])) h2
    rw [e, List.length_append, ← Nat.add_assoc]
    refine ⟨?_, h4⟩
    rw [List.length_cons, rdTs, h1]
    simp only [h3, Option.map_some]

/-- The bytes of numbers, of texts. -/
def encN (vs : List Nat) : List UInt8 := numB vs.length ++ numsB vs
def encT (vs : List (List UInt8)) : List UInt8 := numB vs.length ++ textsB vs

theorem rdTexts_iff {bs : List UInt8} {vs : List (List UInt8)} : rdTexts bs = some vs ↔ bs = encT vs ∧ vs.length ≤ 4096 ∧ ∀ v, v ∈ vs → v.length ≤ 1048576 := by
  constructor
  · intro h
    obtain ⟨n, k, e, h1, h2, h3⟩ := rdTexts_some h
    obtain ⟨h4, _, h6⟩ := rdC_ok h1
    obtain ⟨h7, h8⟩ := rdN_iff h4
    obtain ⟨h9, h10, h11⟩ := rdTs_iff h2
    subst h3
    rw [h11, List.drop_zero, List.drop_length, List.append_nil] at h8
    exact ⟨by rw [h8, encT, h9], by omega, h10⟩
  · intro ⟨h1, h2, h3⟩
    have hd : bs.drop 0 = numB vs.length ++ (textsB vs ++ []) := by rw [h1]; simp [encT]
    obtain ⟨h4, h5⟩ := iff_rdC (most := 4096) (by omega) (by omega) (by omega) hd
    obtain ⟨h6, h7⟩ := iff_rdTs h3 h5
    unfold rdTexts
    rw [h4]
    simp only [h6]
    have : 0 + (numB vs.length).length + (textsB vs).length = bs.length := by rw [h1, encT, List.length_append]; omega
    rw [decide_eq_true this, cond_true]

end Go.Proofs.Ytcdjheiccefcdaa

/-
The reference's reader: numbers, counts, texts, digests.
-/
set_option linter.unusedSimpArgs false
set_option linter.unusedVariables false
namespace Go.Proofs.Ytcdjheiccefcdaa
open Go.Sym
set_option maxRecDepth 10000
set_option maxHeartbeats 1000000

end Go.Proofs.Ytcdjheiccefcdaa

/-
The reference's reader: counts, pieces, texts, digests; whether it is done.
-/
set_option linter.unusedSimpArgs false
set_option linter.unusedVariables false
namespace Go.Proofs.Ytcdjheiccefcdaa
open Go.Sym
set_option maxRecDepth 10000
set_option maxHeartbeats 1000000

end Go.Proofs.Ytcdjheiccefcdaa

/-
The reader's digests; lists compared one by one.
-/
set_option linter.unusedSimpArgs false
set_option linter.unusedVariables false
namespace Go.Proofs.Ytcdjheiccefcdaa
open Go.Sym
set_option maxRecDepth 10000
set_option maxHeartbeats 1000000

end Go.Proofs.Ytcdjheiccefcdaa

/-
The reference's reader, bad or not; the reference's numbers and texts, read.
-/
set_option linter.unusedSimpArgs false
set_option linter.unusedVariables false
namespace Go.Proofs.Ytcdjheiccefcdaa
open Go.Sym
set_option maxRecDepth 10000
set_option maxHeartbeats 1000000

/-- What is known of numbers (or texts) being read one behind the other. -/
structure RfI {α : Type} (rd : Nat → Nat → Option (List α × Nat)) (len n : Nat) (R : Option (List α × Nat)) (x : List α × Nat × Bool × Nat) : Prop where
  h : (bif x.2.2.1 then none else (rd (n - x.2.2.2) x.2.1).map fun p => (x.1 ++ p.1, p.2)) = R
  hi : x.2.2.2 ≤ n
  hl : x.1.length = x.2.2.2
  hk : x.2.1 ≤ len

theorem RfI.bad {α : Type} {rd : Nat → Nat → Option (List α × Nat)} {len n : Nat} {R : Option (List α × Nat)} {x : List α × Nat × Bool × Nat} (hI : RfI rd len n R x) (h : x.2.2.1 = true) : R = none := by
  rw [← hI.h, h]; rfl

theorem RfI.stop {α : Type} {rd : Nat → Nat → Option (List α × Nat)} {len n : Nat} {R : Option (List α × Nat)} {x : List α × Nat × Bool × Nat} (h0 : ∀ k, rd 0 k = some ([], k)) (hI : RfI rd len n R x) (h : x.2.2.1 = false) (hn : n ≤ x.2.2.2) : R = some (x.1, x.2.1) := by
  rw [← hI.h, h, Nat.sub_eq_zero_of_le hn, h0]
  simp

theorem RfN.next {bs : List UInt8} {len n : Nat} {R : Option (List Nat × Nat)} {x : List Nat × Nat × Bool × Nat} (hlen : len = bs.length) (hI : RfI (rdNs bs) len n R x) (h : x.2.2.1 = false) (hn : x.2.2.2 < n) :
    RfI (rdNs bs) len n R (x.1 ++ [(inNs bs x.2.2.1 x.2.1).1], (inNs bs x.2.2.1 x.2.1).2.1, (inNs bs x.2.2.1 x.2.1).2.2, x.2.2.2 + 1) := by
  obtain ⟨acc, k, b, i⟩ := x
  obtain ⟨e, hi, hl, hk⟩ := hI
  simp only at e hi hl hk h hn ⊢
  subst h
  refine ⟨?_, by simp only; omega, by simp [hl], by subst hlen; exact inNs_le bs false k hk⟩
  rw [← e]
  obtain ⟨m, hm⟩ : ∃ m, n - i = m + 1 := ⟨n - i - 1, by omega⟩
  simp only [cond_false]
  rw [hm, show n - (i + 1) = m by omega, rdNs, inN_rdN]
  show (bif (inN bs 10 k 0 0).2.2 then none else (rdNs bs m (inN bs 10 k 0 0).2.1).map fun p => (acc ++ [(inN bs 10 k 0 0).1] ++ p.1, p.2)) = _
  rcases inN bs 10 k 0 0 with ⟨v, e', b'⟩
  cases b' with
  | true => rfl
  | false =>
    simp only [optN, cond_false]
    cases rdNs bs m e' with
    | none => rfl
    | some p => simp

theorem RfT.next {bs : List UInt8} {len n : Nat} {R : Option (List (List UInt8) × Nat)} {x : List (List UInt8) × Nat × Bool × Nat} (hlen : len = bs.length) (hI : RfI (rdTs bs) len n R x) (h : x.2.2.1 = false) (hn : x.2.2.2 < n) :
    RfI (rdTs bs) len n R (x.1 ++ [(inTs bs x.2.2.1 x.2.1).1], (inTs bs x.2.2.1 x.2.1).2.1, (inTs bs x.2.2.1 x.2.1).2.2, x.2.2.2 + 1) := by
  obtain ⟨acc, k, b, i⟩ := x
  obtain ⟨e, hi, hl, hk⟩ := hI
  simp only at e hi hl hk h hn ⊢
  subst h
  refine ⟨?_, by simp only; omega, by simp [hl], by subst hlen; exact inTs_le bs false k hk⟩
  rw [← e]
  obtain ⟨m, hm⟩ : ∃ m, n - i = m + 1 := ⟨n - i - 1, by omega⟩
  simp only [cond_false]
  rw [hm, show n - (i + 1) = m by omega, rdTs, inT_rdT]
  show (bif (inT bs k).2.2 then none else (rdTs bs m (inT bs k).2.1).map fun p => (acc ++ [(inT bs k).1] ++ p.1, p.2)) = _
  rcases inT bs k with ⟨v, e', b'⟩
  cases b' with
  | true => rfl
  | false =>
    simp only [optT, cond_false]
    cases rdTs bs m e' with
    | none => rfl
    | some p => simp

/-- What a reader to the bytes' end comes to. -/
def toEnd {α : Type} (len : Nat) : Option (List α × Nat) → Option (List α)
  | some (vs, e) => bif decide (e = len) then some vs else none
  | none => none

theorem RfI.no {α : Type} {rd : Nat → Nat → Option (List α × Nat)} {len n : Nat} {R : Option (List α × Nat)} {x : List α × Nat × Bool × Nat} {O : Option (List α)} (h0 : ∀ k, rd 0 k = some ([], k)) (hI : RfI rd len n R x) (hO : O = toEnd len R) (hn : x.2.2.1 = false → n ≤ x.2.2.2) (hk : x.2.2.1 = false → ¬ x.2.1 = len) : O = none := by
  cases hb : x.2.2.1 with
  | true => rw [hO, hI.bad hb]; rfl
  | false => rw [hO, hI.stop h0 hb (hn hb), toEnd, decide_eq_false (hk hb)]; rfl

end Go.Proofs.Ytcdjheiccefcdaa

/-
Numbers and texts, read: whatever the bytes are. The references' numbers and texts, written.
-/
set_option linter.unusedSimpArgs false
set_option linter.unusedVariables false
namespace Go.Proofs.Ytcdjheiccefcdaa
open Go.Sym
set_option maxRecDepth 10000
set_option maxHeartbeats 1000000

theorem rTexts_any (bs : List UInt8) (hl : bs.length < 2 ^ 63) :
    LocalCall Try.prog 34 [.d (.sl (bs.map byteD))] [] [] (one [.d (.sl (((rdTexts bs).getD []).map tD)), .d (.int .i64 (errI (rdTexts bs)))]) [] := by
  cases h : rdTexts bs with
  | none => exact rTexts_no _ bs rfl h hl
  | some vs => exact rTexts_yes _ bs rfl vs h hl

theorem textsB_len (vs : List (List UInt8)) (h : ∀ v, v ∈ vs → v.length < 2 ^ 64) : (textsB vs).length ≤ 10 * vs.length + vs.flatten.length := by
  induction vs with
  | nil => simp [textsB]
  | cons v vs ih =>
    have := ih (fun w hw => h w (by simp [hw]))
    have h1 := numB_le10 (h v (by simp))
    simp only [textsB, textB, List.flatMap_cons, List.length_append, List.length_cons, List.flatten_cons] at this ⊢
    omega

theorem encT_len {vs : List (List UInt8)} (h : ∀ v, v ∈ vs → v.length < 2 ^ 64) (hl : vs.length < 2 ^ 64) : (encT vs).length ≤ 10 * vs.length + 10 + vs.flatten.length := by
  have := textsB_len vs h
  have h1 := numB_le10 hl
  unfold encT
  rw [List.length_append]; omega

theorem texts_any (vs : List (List UInt8)) (hroom : Room (encT vs).length 1) :
    LocalCall Try.prog 33 [.d (.sl (vs.map tD))] [] [] (one [.d (.sl ((encT vs).map byteD))]) [] := texts_ok _ vs rfl hroom

end Go.Proofs.Ytcdjheiccefcdaa

/-
What the laws CodecBack, CodecApart, CodecCuts return.
-/
set_option linter.unusedSimpArgs false
set_option linter.unusedVariables false
namespace Go.Proofs.Ytcdjheiccefcdaa
open Go.Sym
set_option maxRecDepth 10000
set_option maxHeartbeats 8000000

end Go.Proofs.Ytcdjheiccefcdaa
