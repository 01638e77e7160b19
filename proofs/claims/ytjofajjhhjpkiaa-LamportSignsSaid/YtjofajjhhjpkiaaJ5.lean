import Derived.Test.YtjofajjhhjpkiaaJ1
import Derived.Test.YtjofajjhhjpkiaaJ2
import Derived.Test.YtjofajjhhjpkiaaJ3
import Derived.Test.YtjofajjhhjpkiaaJ4
set_option linter.unusedSimpArgs false
set_option linter.unusedVariables false
/-
What signs bytes, and to what a signature leads.
-/
set_option linter.unusedSimpArgs false
set_option linter.unusedVariables false
namespace Go.Proofs.Ytjofajjhhjpkiaa
open Go.Sym
set_option maxRecDepth 10000
set_option maxHeartbeats 1000000

theorem public_ok (seed : List UInt8) (hs : seed.length = 32) (key : Nat) (hk : key < 2 ^ 64) :
    LocalCall Try.prog 22 [.d (.arr 32 1 (seed.map byteD)), .d (.int .u64 (key : Int))] [] [] (one [.d (.arr 32 1 ((shaB (textP (keyH seed key))).map byteD))]) [] := by
  have c1 := text_ok seed hs key hk
  have c2 := of_ok (textP (keyH seed key)) (by rw [textP_length]; decide)
  refine vc_fn mixed Try.func22 rfl rfl [] (vc_chk rfl) ?_
  repeat' (first
      | ((with_reducible refine vc_chk ?_); first | decide +kernel | rfl)
      | (with_reducible refine vc_side0 ?_; rfl)
      | (with_reducible first
           | refine vc_true ?_ | refine vc_true2 ?_ | refine vc_side ?_ ?_ | refine vc_triv | refine vc_later ?_ | refine vc_caseT ?_ | refine vc_caseF ?_ | refine vc_cons ?_ | refine vc_nil ?_ ?_ | refine vc_seq ?_
              | refine vc_region ?_ | refine vc_cond ?_ | refine vc_block ?_ | refine vc_retc ?_ | refine vc_exit ?_ | refine vc_skip ?_ | refine vc_scope ?_ | refine vc_label ?_ | refine vc_goto ?_ | refine vc_wkSl0
              | refine vc_wkHp0 | refine vc_eqAVs0 | refine vc_preG0 | refine vc_wkSl ?_ ?_ | refine vc_wkHp ?_ ?_ | refine vc_eqAVs ?_ ?_ | refine vc_preG ?_ ?_ | refine vc_side0 ?_ | refine vc_pure c1 ?_ ?_ ?_
              | refine vc_pure c2 ?_ ?_ ?_ | refine vc_weakf [] ?_ ?_ ?_ | refine vc_and ?_ ?_ | refine vc_ret [] [] ?_)
      | ((with_reducible first | refine vc_caseD (fun h => ?_) (fun h => ?_) | refine vc_caseN (fun h => ?_) (fun h => ?_)) <;> try (exfalso; omega))
      | ((with_reducible refine vc_case (fun h => ?_) (fun h => ?_)) <;> (try simp only [Bool.cond_true_left, Bool.cond_false_right, Bool.cond_true_right, Bool.cond_false_left, Bool.and_eq_true, Bool.or_eq_true, Bool.and_eq_false_iff, Bool.or_eq_false_iff, Bool.not_eq_true', Bool.not_eq_false', Bool.not_eq_true, Bool.not_eq_false, Bool.not_not, decide_eq_true_eq, decide_eq_false_iff_not, beq_iff_eq, beq_eq_false_iff_ne, bne_iff_ne, bne_eq_false_iff_eq, ne_eq, Classical.not_not, reduceCtorEq, false_or, or_false, true_and, and_true, Bool.false_eq_true, Bool.true_eq_false] at h) <;> try (exfalso; first | omega | (simp at h; done)))
      | (conv in Vc _ => arg 1; whnf
         first
          | (with_reducible refine vc_side0 ?_; rfl)
          | (with_reducible first
              | refine vc_true ?_ | refine vc_true2 ?_ | refine vc_side ?_ ?_ | refine vc_triv | refine vc_later ?_ | refine vc_caseT ?_ | refine vc_caseF ?_ | refine vc_cons ?_ | refine vc_nil ?_ ?_ | refine vc_seq ?_
                 | refine vc_region ?_ | refine vc_cond ?_ | refine vc_block ?_ | refine vc_retc ?_ | refine vc_exit ?_ | refine vc_skip ?_ | refine vc_scope ?_ | refine vc_label ?_ | refine vc_goto ?_ | refine vc_wkSl0
                 | refine vc_wkHp0 | refine vc_eqAVs0 | refine vc_preG0 | refine vc_wkSl ?_ ?_ | refine vc_wkHp ?_ ?_ | refine vc_eqAVs ?_ ?_ | refine vc_preG ?_ ?_ | refine vc_side0 ?_ | refine vc_pure c1 ?_ ?_ ?_
                 | refine vc_pure c2 ?_ ?_ ?_ | refine vc_weakf [] ?_ ?_ ?_ | refine vc_and ?_ ?_ | refine vc_ret [] [] ?_)
          | ((with_reducible first | refine vc_caseD (fun h => ?_) (fun h => ?_) | refine vc_caseN (fun h => ?_) (fun h => ?_)) <;> try (exfalso; omega))
          | ((with_reducible refine vc_case (fun h => ?_) (fun h => ?_)) <;> (try simp only [Bool.cond_true_left, Bool.cond_false_right, Bool.cond_true_right, Bool.cond_false_left, Bool.and_eq_true, Bool.or_eq_true, Bool.and_eq_false_iff, Bool.or_eq_false_iff, Bool.not_eq_true', Bool.not_eq_false', Bool.not_eq_true, Bool.not_eq_false, Bool.not_not, decide_eq_true_eq, decide_eq_false_iff_not, beq_iff_eq, beq_eq_false_iff_ne, bne_iff_ne, bne_eq_false_iff_eq, ne_eq, Classical.not_not, reduceCtorEq, false_or, or_false, true_and, and_true, Bool.false_eq_true, Bool.true_eq_false] at h) <;> try (exfalso; first | omega | (simp at h; done)))))
  all_goals first
    | rfl
    | skip

/-- What signs, after so many bits. -/
def signN (P : Nat → Bool → List UInt8) (d : List UInt8) (i : Nat) : List UInt8 := rounds (signF P d) i
theorem signN_length {P : Nat → Bool → List UInt8} (hP : ∀ i on, (P i on).length = 32) (d : List UInt8) (i : Nat) : (signN P d i).length = 64 * i :=
  rounds_length i fun i _ => signF_length hP d i

theorem signN_succ (seed : List UInt8) (key : Nat) (d : List UInt8) (i : Nat) : (signN (keyH seed key) d i).map byteD ++ (keyH seed key i (bitB d i)).map byteD ++ (shaB (keyH seed key i (!bitB d i))).map byteD = (signN (keyH seed key) d (i + 1)).map byteD := by
  unfold signN
  rw [rounds_succ, ← List.map_append, ← List.map_append]
  simp [signF]

theorem signN_all (P : Nat → Bool → List UInt8) (d : List UInt8) : signN P d 256 = signP P d := by unfold signN signP; rfl

theorem lsign_ok (seed : List UInt8) (hs : seed.length = 32) (key : Nat) (hk : key < 2 ^ 64) (b : List UInt8) (hb : b.length < 2 ^ 58) :
    LocalCall Try.prog 23 [.d (.arr 32 1 (seed.map byteD)), .d (.int .u64 (key : Int)), .d (.sl (b.map byteD))] [] [] (one [.d (.sl ((signP (keyH seed key) (shaB b)).map byteD))]) [] := by
  have c1 := of_ok b hb
  generalize hd : shaB b = d at c1
  have ld : d.length = 32 := by rw [← hd]; exact shaB_length b
  have p1 : ∀ i : Nat, i < 256 → bitB d i = true → LocalCall Try.prog 32 [.d (.arr 32 1 (seed.map byteD)), .d (.int .u64 (key : Int)), .d (.int .i64 (i : Int)), .d (.int .i64 1)] [] [] (one [.d (.arr 32 1 ((keyH seed key i (bitB d i)).map byteD))]) [] := fun i hi h => by
    rw [h]; exact keyOf_ok seed hs key hk i hi 1 (.inr rfl)
  have q1 : ∀ i : Nat, i < 256 → bitB d i = true → LocalCall Try.prog 32 [.d (.arr 32 1 (seed.map byteD)), .d (.int .u64 (key : Int)), .d (.int .i64 (i : Int)), .d (.int .i64 (IntKind.i64.wrap (1 - 1)))] [] [] (one [.d (.arr 32 1 ((keyH seed key i (!bitB d i)).map byteD))]) [] := fun i hi h => by
    rw [h]; exact keyOf_ok seed hs key hk i hi 0 (.inl rfl)
  have p0 : ∀ i : Nat, i < 256 → bitB d i = false → LocalCall Try.prog 32 [.d (.arr 32 1 (seed.map byteD)), .d (.int .u64 (key : Int)), .d (.int .i64 (i : Int)), .d (.int .i64 0)] [] [] (one [.d (.arr 32 1 ((keyH seed key i (bitB d i)).map byteD))]) [] := fun i hi h => by
    rw [h]; exact keyOf_ok seed hs key hk i hi 0 (.inl rfl)
  have q0 : ∀ i : Nat, i < 256 → bitB d i = false → LocalCall Try.prog 32 [.d (.arr 32 1 (seed.map byteD)), .d (.int .u64 (key : Int)), .d (.int .i64 (i : Int)), .d (.int .i64 (IntKind.i64.wrap (1 - 0)))] [] [] (one [.d (.arr 32 1 ((keyH seed key i (!bitB d i)).map byteD))]) [] := fun i hi h => by
    rw [h]; exact keyOf_ok seed hs key hk i hi 1 (.inr rfl)
  have co : ∀ i : Nat, _ := fun i => of_ok (keyH seed key i (!bitB d i)) (by rw [keyH_length]; decide)
  refine vc_fn mixed Try.func23 rfl rfl [(500001, [1000000009000002000])] (vc_chk rfl) ?_
  repeat' (first
      | ((with_reducible refine vc_chk ?_); first | decide +kernel | rfl)
      | (with_reducible refine vc_side0 ?_; rfl)
      | (with_reducible first
           | refine vc_true ?_ | refine vc_true2 ?_ | refine vc_side ?_ ?_ | refine vc_triv | refine vc_later ?_ | refine vc_caseT ?_ | refine vc_caseF ?_ | refine vc_cons ?_ | refine vc_nil ?_ ?_ | refine vc_seq ?_
              | refine vc_region ?_ | refine vc_cond ?_ | refine vc_block ?_ | refine vc_retc ?_ | refine vc_exit ?_ | refine vc_skip ?_ | refine vc_scope ?_ | refine vc_label ?_ | refine vc_goto ?_ | refine vc_wkSl0
              | refine vc_wkHp0 | refine vc_eqAVs0 | refine vc_preG0 | refine vc_wkSl ?_ ?_ | refine vc_wkHp ?_ ?_ | refine vc_eqAVs ?_ ?_ | refine vc_preG ?_ ?_ | refine vc_side0 ?_ | refine vc_pure c1 ?_ ?_ ?_
              | refine vc_callU (bits_ok _) ?_ ?_ | refine vc_pure (p1 i hi h) ?_ ?_ ?_ | refine vc_pure (q1 i hi h) ?_ ?_ ?_ | refine vc_pure (p0 i hi h) ?_ ?_ ?_ | refine vc_pure (q0 i hi h) ?_ ?_ ?_
              | refine vc_call [true] (co i) ?_
              | refine vc_range 39 33 7 (.arr 32 1 (d.map byteD)) 256 (fun i => [.int .i64 (i : Int), .bool (bitB d i)]) [(3, .ptr 1000 []), (4, .ptr 1004 []), (7, .ptr 2000 [])] (fun i => [(1000, .var (.d (.arr 32 1 (seed.map byteD)))), (1004, .var (.d (.int .u64 (key : Int)))), (2000, .var (.sl 9 [] 1 0 ((signN (keyH seed key) d i).map byteD).length)), (9, .row 1 ((signN (keyH seed key) d i).map byteD))]) (fun _ => True) [] ?_ ?_ ?_ ?_ (bits_seq d ld) (fun _ => ⟨rfl, rfl⟩) ?_ ?_ ?_ ?_ ?_ (fun i hi hI => ?_) (fun hI => ?_)
              | refine vc_endc [(9, 11016)] trivial ?_ ?_ ?_ | refine vc_ret [true] [] ?_ | refine vc_weakf [] ?_ ?_ ?_ | refine vc_and ?_ ?_ | refine vc_ret [] [] ?_)
      | ((with_reducible first | refine vc_caseD (fun h => ?_) (fun h => ?_) | refine vc_caseN (fun h => ?_) (fun h => ?_)) <;> try (exfalso; omega))
      | ((with_reducible refine vc_case (fun h => ?_) (fun h => ?_)) <;> (try simp only [Bool.cond_true_left, Bool.cond_false_right, Bool.cond_true_right, Bool.cond_false_left, Bool.and_eq_true, Bool.or_eq_true, Bool.and_eq_false_iff, Bool.or_eq_false_iff, Bool.not_eq_true', Bool.not_eq_false', Bool.not_eq_true, Bool.not_eq_false, Bool.not_not, decide_eq_true_eq, decide_eq_false_iff_not, beq_iff_eq, beq_eq_false_iff_ne, bne_iff_ne, bne_eq_false_iff_eq, ne_eq, Classical.not_not, reduceCtorEq, false_or, or_false, true_and, and_true, Bool.false_eq_true, Bool.true_eq_false] at h) <;> try (exfalso; first | omega | (simp at h; done)))
      | (conv in Vc _ => arg 1; whnf
         first
          | (with_reducible refine vc_side0 ?_; rfl)
          | (with_reducible first
              | refine vc_true ?_ | refine vc_true2 ?_ | refine vc_side ?_ ?_ | refine vc_triv | refine vc_later ?_ | refine vc_caseT ?_ | refine vc_caseF ?_ | refine vc_cons ?_ | refine vc_nil ?_ ?_ | refine vc_seq ?_
                 | refine vc_region ?_ | refine vc_cond ?_ | refine vc_block ?_ | refine vc_retc ?_ | refine vc_exit ?_ | refine vc_skip ?_ | refine vc_scope ?_ | refine vc_label ?_ | refine vc_goto ?_ | refine vc_wkSl0
                 | refine vc_wkHp0 | refine vc_eqAVs0 | refine vc_preG0 | refine vc_wkSl ?_ ?_ | refine vc_wkHp ?_ ?_ | refine vc_eqAVs ?_ ?_ | refine vc_preG ?_ ?_ | refine vc_side0 ?_ | refine vc_pure c1 ?_ ?_ ?_
                 | refine vc_callU (bits_ok _) ?_ ?_ | refine vc_pure (p1 i hi h) ?_ ?_ ?_ | refine vc_pure (q1 i hi h) ?_ ?_ ?_ | refine vc_pure (p0 i hi h) ?_ ?_ ?_ | refine vc_pure (q0 i hi h) ?_ ?_ ?_
                 | refine vc_call [true] (co i) ?_
                 | refine vc_range 39 33 7 (.arr 32 1 (d.map byteD)) 256 (fun i => [.int .i64 (i : Int), .bool (bitB d i)]) [(3, .ptr 1000 []), (4, .ptr 1004 []), (7, .ptr 2000 [])] (fun i => [(1000, .var (.d (.arr 32 1 (seed.map byteD)))), (1004, .var (.d (.int .u64 (key : Int)))), (2000, .var (.sl 9 [] 1 0 ((signN (keyH seed key) d i).map byteD).length)), (9, .row 1 ((signN (keyH seed key) d i).map byteD))]) (fun _ => True) [] ?_ ?_ ?_ ?_ (bits_seq d ld) (fun _ => ⟨rfl, rfl⟩) ?_ ?_ ?_ ?_ ?_ (fun i hi hI => ?_) (fun hI => ?_)
                 | refine vc_endc [(9, 11016)] trivial ?_ ?_ ?_ | refine vc_ret [true] [] ?_ | refine vc_weakf [] ?_ ?_ ?_ | refine vc_and ?_ ?_ | refine vc_ret [] [] ?_)
          | ((with_reducible first | refine vc_caseD (fun h => ?_) (fun h => ?_) | refine vc_caseN (fun h => ?_) (fun h => ?_)) <;> try (exfalso; omega))
          | ((with_reducible refine vc_case (fun h => ?_) (fun h => ?_)) <;> (try simp only [Bool.cond_true_left, Bool.cond_false_right, Bool.cond_true_right, Bool.cond_false_left, Bool.and_eq_true, Bool.or_eq_true, Bool.and_eq_false_iff, Bool.or_eq_false_iff, Bool.not_eq_true', Bool.not_eq_false', Bool.not_eq_true, Bool.not_eq_false, Bool.not_not, decide_eq_true_eq, decide_eq_false_iff_not, beq_iff_eq, beq_eq_false_iff_ne, bne_iff_ne, bne_eq_false_iff_eq, ne_eq, Classical.not_not, reduceCtorEq, false_or, or_false, true_and, and_true, Bool.false_eq_true, Bool.true_eq_false] at h) <;> try (exfalso; first | omega | (simp at h; done)))))
  all_goals (try simp only [Int.toNat_natCast, t32k, t32s])
  all_goals first
    | with_reducible rfl
    | omega
    | exact ⟨⟨by decide, by decide, by decide⟩, trivial⟩
    | exact ⟨trivial, trivial, trivial⟩
    | exact ⟨Nat.le_of_eq (Nat.zero_add _), trivial⟩
    | exact ⟨⟨trivial, len32 (keyH_length _ _ _ _)⟩, trivial⟩
    | exact ⟨⟨⟨trivial, len32 (shaB_length _)⟩, trivial, roomJ (by simp only [List.length_append, List.length_map, signN_length (keyH_length _ _), shaB_length, keyH_length]; omega)⟩, fun y hy => size_bytes _ y hy⟩
    | exact ⟨⟨⟨trivial, len32 (keyH_length _ _ _ _)⟩, trivial, roomJ (by simp only [List.length_append, List.length_map, signN_length (keyH_length _ _), shaB_length, keyH_length]; omega)⟩, fun y hy => size_bytes _ y hy⟩
    | (rw [← signN_succ]; done)
    | (rw [List.drop_zero, List.take_length]; exact congrArg (fun l => D.sl (List.map byteD l)) (signN_all _ _))
    | rfl
    | skip

end Go.Proofs.Ytjofajjhhjpkiaa

/-
To what a signature leads, and whether it is taken.
-/
set_option linter.unusedSimpArgs false
set_option linter.unusedVariables false
namespace Go.Proofs.Ytjofajjhhjpkiaa
open Go.Sym
set_option maxRecDepth 10000
set_option maxHeartbeats 1000000

/-- To what a signature leads, after so many bits. -/
def openN (d s : List UInt8) (i : Nat) : List UInt8 := 80 :: rounds (openF d s) i
theorem openN_length (d : List UInt8) {s : List UInt8} (hs : s.length = 16384) {i : Nat} (hi : i ≤ 256) : (openN d s i).length = 64 * i + 1 := by
  unfold openN
  rw [List.length_cons, rounds_length i fun i h => openF_length d hs (by omega)]
theorem openN_all (d s : List UInt8) : openN d s 256 = openP d s := by unfold openN openP; rfl
def openT (b sig : List UInt8) : List UInt8 := bif decide (sig.length = 16384) then openP (shaB b) sig else []
def openE (sig : List UInt8) : Int := bif decide (sig.length = 16384) then 0 else 15
def checkE (pub b sig : List UInt8) : Int := bif decide (sig.length = 16384) && decide (shaB (openP (shaB b) sig) = pub) then 0 else 15

theorem sig_x (s : List UInt8) (i : Nat) : cutD ((s.drop (64 * i)).map byteD) 0 32 = (sigX s i).map byteD := by
  show List.drop 0 (List.take 32 _) = _
  rw [List.drop_zero, ← List.map_take]; rfl
theorem sig_y (s : List UInt8) (i : Nat) : cutD ((s.drop (64 * i)).map byteD) 32 64 = (sigY s i).map byteD := by
  show List.drop 32 (List.take 64 _) = _
  rw [List.drop_take, ← List.map_drop, List.drop_drop, ← List.map_take]; rfl
theorem sig_n (s : List UInt8) (i : Nat) : cutD ((s.drop (64 * i)).map byteD) 64 (((s.drop (64 * i)).map byteD).length : Nat) = (s.drop (64 * (i + 1))).map byteD := by
  show List.drop 64 (List.take ((s.drop (64 * i)).map byteD).length _) = _
  rw [List.take_length, ← List.map_drop, List.drop_drop]
  rfl
theorem openN_succ {d s : List UInt8} (i : Nat) (h : bitB d i = true) : (openN d s i).map byteD ++ (sigY s i).map byteD ++ (shaB (sigX s i)).map byteD = (openN d s (i + 1)).map byteD := by
  unfold openN
  rw [rounds_succ, ← List.map_append, ← List.map_append]
  simp [openF, h]
theorem openN_succ0 {d s : List UInt8} (i : Nat) (h : bitB d i = false) : (openN d s i).map byteD ++ (shaB (sigX s i)).map byteD ++ (sigY s i).map byteD = (openN d s (i + 1)).map byteD := by
  unfold openN
  rw [rounds_succ, ← List.map_append, ← List.map_append]
  simp [openF, h]

theorem opened_ok (b sig : List UInt8) (hb : b.length < 2 ^ 58) :
    LocalCall Try.prog 10 [.d (.sl (b.map byteD)), .d (.sl (sig.map byteD))] [] [] (one [.d (.sl ((openT b sig).map byteD)), .d (.int .i64 (openE sig))]) [] := by
  by_cases hs : sig.length = 16384
  · have c1 := of_ok b hb
    unfold openT openE
    rw [decide_eq_true hs, cond_true, cond_true]
    generalize hd : shaB b = d at c1
    have ld : d.length = 32 := by rw [← hd]; exact shaB_length b
    have ls : ((sig.map byteD).length : Int) = 16384 := by rw [List.length_map, hs]; rfl
    have lo : ∀ i : Nat, i < 256 → (openN d sig i).length = 64 * i + 1 := fun i hi => openN_length d hs (by omega)
    have co : ∀ i : Nat, i < 256 → LocalCall Try.prog 25 [.d (.sl (cutD ((sig.drop (64 * i)).map byteD) 0 32))] [] [] (one [.d (.arr 32 1 ((shaB (sigX sig i)).map byteD))]) [] := fun i hi => by
      rw [sig_x]; exact of_ok _ (by rw [sigX_length hs hi]; decide)
    refine vc_fn mixed Try.func10 rfl rfl [] (vc_chk rfl) ?_
    repeat' (first
        | ((with_reducible refine vc_chk ?_); first | decide +kernel | rfl)
        | (with_reducible refine vc_side0 ?_; rfl)
        | (with_reducible first
             | refine vc_true ?_ | refine vc_true2 ?_ | refine vc_side ?_ ?_ | refine vc_triv | refine vc_later ?_ | refine vc_caseT ?_ | refine vc_caseF ?_ | refine vc_cons ?_ | refine vc_nil ?_ ?_ | refine vc_seq ?_
                | refine vc_region ?_ | refine vc_cond ?_ | refine vc_block ?_ | refine vc_retc ?_ | refine vc_exit ?_ | refine vc_skip ?_ | refine vc_scope ?_ | refine vc_label ?_ | refine vc_goto ?_ | refine vc_wkSl0
                | refine vc_wkHp0 | refine vc_eqAVs0 | refine vc_preG0 | refine vc_wkSl ?_ ?_ | refine vc_wkHp ?_ ?_ | refine vc_eqAVs ?_ ?_ | refine vc_preG ?_ ?_ | refine vc_side0 ?_ | refine vc_pure c1 ?_ ?_ ?_
                | refine vc_callU (bits_ok _) ?_ ?_ | refine vc_pure (co i hi) ?_ ?_ ?_
                | refine vc_range 39 33 7 (.arr 32 1 (d.map byteD)) 256 (fun i => [.int .i64 (i : Int), .bool (bitB d i)]) [(3, .ptr 1000 []), (6, .ptr 4004 [])] (fun i => [(1000, .var (.d (.sl ((sig.drop (64 * i)).map byteD)))), (4004, .var (.sl 9 [] 1 0 ((openN d sig i).map byteD).length)), (9, .row 1 ((openN d sig i).map byteD))]) (fun _ => True) [(9, 4000)] ?_ ?_ ?_ ?_ (bits_seq d ld) (fun _ => ⟨rfl, rfl⟩) ?_ ?_ ?_ ?_ ?_ (fun i hi hI => ?_) (fun hI => ?_)
                | refine vc_endAt [(9, 10016)] 10016 (by with_unfolding_all rfl) trivial ?_ ?_ ?_ | refine vc_endAt [(9, 11016)] 11016 (by with_unfolding_all rfl) trivial ?_ ?_ ?_ | refine vc_ret [true] [] ?_
                | refine vc_weakf [] ?_ ?_ ?_ | refine vc_and ?_ ?_ | refine vc_ret [] [] ?_)
        | ((with_reducible first | refine vc_caseD (fun h => ?_) (fun h => ?_) | refine vc_caseN (fun h => ?_) (fun h => ?_)) <;> try (exfalso; omega))
        | ((with_reducible refine vc_case (fun h => ?_) (fun h => ?_)) <;> (try simp only [Bool.cond_true_left, Bool.cond_false_right, Bool.cond_true_right, Bool.cond_false_left, Bool.and_eq_true, Bool.or_eq_true, Bool.and_eq_false_iff, Bool.or_eq_false_iff, Bool.not_eq_true', Bool.not_eq_false', Bool.not_eq_true, Bool.not_eq_false, Bool.not_not, decide_eq_true_eq, decide_eq_false_iff_not, beq_iff_eq, beq_eq_false_iff_ne, bne_iff_ne, bne_eq_false_iff_eq, ne_eq, Classical.not_not, reduceCtorEq, false_or, or_false, true_and, and_true, Bool.false_eq_true, Bool.true_eq_false] at h) <;> try (exfalso; first | omega | (simp at h; done)))
        | (conv in Vc _ => arg 1; whnf
           first
            | (with_reducible refine vc_side0 ?_; rfl)
            | (with_reducible first
                | refine vc_true ?_ | refine vc_true2 ?_ | refine vc_side ?_ ?_ | refine vc_triv | refine vc_later ?_ | refine vc_caseT ?_ | refine vc_caseF ?_ | refine vc_cons ?_ | refine vc_nil ?_ ?_ | refine vc_seq ?_
                   | refine vc_region ?_ | refine vc_cond ?_ | refine vc_block ?_ | refine vc_retc ?_ | refine vc_exit ?_ | refine vc_skip ?_ | refine vc_scope ?_ | refine vc_label ?_ | refine vc_goto ?_ | refine vc_wkSl0
                   | refine vc_wkHp0 | refine vc_eqAVs0 | refine vc_preG0 | refine vc_wkSl ?_ ?_ | refine vc_wkHp ?_ ?_ | refine vc_eqAVs ?_ ?_ | refine vc_preG ?_ ?_ | refine vc_side0 ?_ | refine vc_pure c1 ?_ ?_ ?_
                   | refine vc_callU (bits_ok _) ?_ ?_ | refine vc_pure (co i hi) ?_ ?_ ?_
                   | refine vc_range 39 33 7 (.arr 32 1 (d.map byteD)) 256 (fun i => [.int .i64 (i : Int), .bool (bitB d i)]) [(3, .ptr 1000 []), (6, .ptr 4004 [])] (fun i => [(1000, .var (.d (.sl ((sig.drop (64 * i)).map byteD)))), (4004, .var (.sl 9 [] 1 0 ((openN d sig i).map byteD).length)), (9, .row 1 ((openN d sig i).map byteD))]) (fun _ => True) [(9, 4000)] ?_ ?_ ?_ ?_ (bits_seq d ld) (fun _ => ⟨rfl, rfl⟩) ?_ ?_ ?_ ?_ ?_ (fun i hi hI => ?_) (fun hI => ?_)
                   | refine vc_endAt [(9, 10016)] 10016 (by with_unfolding_all rfl) trivial ?_ ?_ ?_ | refine vc_endAt [(9, 11016)] 11016 (by with_unfolding_all rfl) trivial ?_ ?_ ?_ | refine vc_ret [true] [] ?_
                   | refine vc_weakf [] ?_ ?_ ?_ | refine vc_and ?_ ?_ | refine vc_ret [] [] ?_)
            | ((with_reducible first | refine vc_caseD (fun h => ?_) (fun h => ?_) | refine vc_caseN (fun h => ?_) (fun h => ?_)) <;> try (exfalso; omega))
            | ((with_reducible refine vc_case (fun h => ?_) (fun h => ?_)) <;> (try simp only [Bool.cond_true_left, Bool.cond_false_right, Bool.cond_true_right, Bool.cond_false_left, Bool.and_eq_true, Bool.or_eq_true, Bool.and_eq_false_iff, Bool.or_eq_false_iff, Bool.not_eq_true', Bool.not_eq_false', Bool.not_eq_true, Bool.not_eq_false, Bool.not_not, decide_eq_true_eq, decide_eq_false_iff_not, beq_iff_eq, beq_eq_false_iff_ne, bne_iff_ne, bne_eq_false_iff_eq, ne_eq, Classical.not_not, reduceCtorEq, false_or, or_false, true_and, and_true, Bool.false_eq_true, Bool.true_eq_false] at h) <;> try (exfalso; first | omega | (simp at h; done)))))
    all_goals (try simp only [Int.toNat_natCast, t32s, sig_y])
    all_goals first
      | with_reducible rfl
      | omega
      | trivial
      | (rw [sig_n sig i]; done)
      | (rw [← openN_succ i h]; done)
      | (rw [← openN_succ0 i h]; done)
      | exact ⟨Nat.le_of_eq (Nat.zero_add _), trivial⟩
      | (refine ⟨?_, size_bytes _⟩; rw [List.length_map, List.length_drop]; omega)
      | exact ⟨⟨trivial, trivial, roomJ (by simp only [List.length_append, List.length_map, lo i hi, shaB_length, sigY_length hs hi]; omega)⟩, fun y hy => size_bytes _ y hy⟩
      | exact ⟨⟨⟨trivial, len32 (shaB_length _)⟩, trivial, roomJ (by simp only [List.length_append, List.length_map, lo i hi, shaB_length, sigY_length hs hi]; omega)⟩, fun y hy => size_bytes _ y hy⟩
      | (rw [List.drop_zero, List.take_length]; exact congrArg (fun l => D.sl (List.map byteD l)) (openN_all _ _))
      | rfl
  · have hn : ¬ ((sig.map byteD).length : Int) = 16384 := by rw [List.length_map]; omega
    unfold openT openE
    rw [decide_eq_false hs, cond_false, cond_false]
    have key : LocalCall Try.prog 10 [.d (.sl (b.map byteD)), .d (.sl (sig.map byteD))] [] [] (one [.d .nils, .d (.int .i64 15)]) [] := by
      refine vc_fn mixed Try.func10 rfl rfl [] (vc_chk rfl) ?_
      repeat' (first
          | ((with_reducible refine vc_chk ?_); first | decide +kernel | rfl)
          | (with_reducible refine vc_side0 ?_; rfl)
          | (with_reducible first
               | refine vc_true ?_ | refine vc_true2 ?_ | refine vc_side ?_ ?_ | refine vc_triv | refine vc_later ?_ | refine vc_caseT ?_ | refine vc_caseF ?_ | refine vc_cons ?_ | refine vc_nil ?_ ?_ | refine vc_seq ?_
                  | refine vc_region ?_ | refine vc_cond ?_ | refine vc_block ?_ | refine vc_retc ?_ | refine vc_exit ?_ | refine vc_skip ?_ | refine vc_scope ?_ | refine vc_label ?_ | refine vc_goto ?_ | refine vc_wkSl0
                  | refine vc_wkHp0 | refine vc_eqAVs0 | refine vc_preG0 | refine vc_wkSl ?_ ?_ | refine vc_wkHp ?_ ?_ | refine vc_eqAVs ?_ ?_ | refine vc_preG ?_ ?_ | refine vc_side0 ?_ | refine vc_weakf [] ?_ ?_ ?_
                  | refine vc_and ?_ ?_ | refine vc_ret [] [] ?_)
          | ((with_reducible first | refine vc_caseD (fun h => ?_) (fun h => ?_) | refine vc_caseN (fun h => ?_) (fun h => ?_)) <;> try (exfalso; omega))
          | ((with_reducible refine vc_case (fun h => ?_) (fun h => ?_)) <;> (try simp only [Bool.cond_true_left, Bool.cond_false_right, Bool.cond_true_right, Bool.cond_false_left, Bool.and_eq_true, Bool.or_eq_true, Bool.and_eq_false_iff, Bool.or_eq_false_iff, Bool.not_eq_true', Bool.not_eq_false', Bool.not_eq_true, Bool.not_eq_false, Bool.not_not, decide_eq_true_eq, decide_eq_false_iff_not, beq_iff_eq, beq_eq_false_iff_ne, bne_iff_ne, bne_eq_false_iff_eq, ne_eq, Classical.not_not, reduceCtorEq, false_or, or_false, true_and, and_true, Bool.false_eq_true, Bool.true_eq_false] at h) <;> try (exfalso; first | omega | (simp at h; done)))
          | (conv in Vc _ => arg 1; whnf
             first
              | (with_reducible refine vc_side0 ?_; rfl)
              | (with_reducible first
                  | refine vc_true ?_ | refine vc_true2 ?_ | refine vc_side ?_ ?_ | refine vc_triv | refine vc_later ?_ | refine vc_caseT ?_ | refine vc_caseF ?_ | refine vc_cons ?_ | refine vc_nil ?_ ?_ | refine vc_seq ?_
                     | refine vc_region ?_ | refine vc_cond ?_ | refine vc_block ?_ | refine vc_retc ?_ | refine vc_exit ?_ | refine vc_skip ?_ | refine vc_scope ?_ | refine vc_label ?_ | refine vc_goto ?_ | refine vc_wkSl0
                     | refine vc_wkHp0 | refine vc_eqAVs0 | refine vc_preG0 | refine vc_wkSl ?_ ?_ | refine vc_wkHp ?_ ?_ | refine vc_eqAVs ?_ ?_ | refine vc_preG ?_ ?_ | refine vc_side0 ?_ | refine vc_weakf [] ?_ ?_ ?_
                     | refine vc_and ?_ ?_ | refine vc_ret [] [] ?_)
              | ((with_reducible first | refine vc_caseD (fun h => ?_) (fun h => ?_) | refine vc_caseN (fun h => ?_) (fun h => ?_)) <;> try (exfalso; omega))
              | ((with_reducible refine vc_case (fun h => ?_) (fun h => ?_)) <;> (try simp only [Bool.cond_true_left, Bool.cond_false_right, Bool.cond_true_right, Bool.cond_false_left, Bool.and_eq_true, Bool.or_eq_true, Bool.and_eq_false_iff, Bool.or_eq_false_iff, Bool.not_eq_true', Bool.not_eq_false', Bool.not_eq_true, Bool.not_eq_false, Bool.not_not, decide_eq_true_eq, decide_eq_false_iff_not, beq_iff_eq, beq_eq_false_iff_ne, bne_iff_ne, bne_eq_false_iff_eq, ne_eq, Classical.not_not, reduceCtorEq, false_or, or_false, true_and, and_true, Bool.false_eq_true, Bool.true_eq_false] at h) <;> try (exfalso; first | omega | (simp at h; done)))))
      all_goals first | rfl | exact ⟨trivial, trivial, trivial⟩
    exact local_dn key

theorem openT_length (b sig : List UInt8) : (openT b sig).length ≤ 16385 := by
  unfold openT
  by_cases hs : sig.length = 16384
  · rw [decide_eq_true hs, cond_true, openP_length _ hs]; omega
  · rw [decide_eq_false hs, cond_false]; simp

theorem checkE_yes {b sig : List UInt8} (pub : List UInt8) (h : openE sig = 0) : checkE pub b sig = bif decide (shaB (openT b sig) = pub) then 0 else 15 := by
  unfold openE at h
  unfold checkE openT
  by_cases hs : sig.length = 16384
  · rw [decide_eq_true hs, cond_true, Bool.true_and]
  · rw [decide_eq_false hs, cond_false] at h; cases h
theorem checkE_no {b sig : List UInt8} (pub : List UInt8) (h : ¬ openE sig = 0) : checkE pub b sig = 15 ∧ openE sig = 15 := by
  unfold openE at h ⊢
  unfold checkE
  by_cases hs : sig.length = 16384
  · rw [decide_eq_true hs, cond_true] at h; exact absurd rfl h
  · rw [decide_eq_false hs, Bool.false_and]; exact ⟨rfl, rfl⟩

theorem lcheck_ok (pub b sig : List UInt8) (hp : pub.length = 32) (hb : b.length < 2 ^ 58) :
    LocalCall Try.prog 13 [.d (.arr 32 1 (pub.map byteD)), .d (.sl (b.map byteD)), .d (.sl (sig.map byteD))] [] [] (one [.d (.int .i64 (checkE pub b sig))]) [] := by
  have c1 := opened_ok b sig hb
  have c2 := of_ok (openT b sig) (Nat.lt_of_le_of_lt (openT_length _ _) (by decide))
  refine vc_fn mixed Try.func13 rfl rfl [] (vc_chk rfl) ?_
  repeat' (first
      | ((with_reducible refine vc_chk ?_); first | decide +kernel | rfl)
      | (with_reducible refine vc_side0 ?_; rfl)
      | (with_reducible first
           | refine vc_true ?_ | refine vc_true2 ?_ | refine vc_side ?_ ?_ | refine vc_triv | refine vc_later ?_ | refine vc_caseT ?_ | refine vc_caseF ?_ | refine vc_cons ?_ | refine vc_nil ?_ ?_ | refine vc_seq ?_
              | refine vc_region ?_ | refine vc_cond ?_ | refine vc_block ?_ | refine vc_retc ?_ | refine vc_exit ?_ | refine vc_skip ?_ | refine vc_scope ?_ | refine vc_label ?_ | refine vc_goto ?_ | refine vc_wkSl0
              | refine vc_wkHp0 | refine vc_eqAVs0 | refine vc_preG0 | refine vc_wkSl ?_ ?_ | refine vc_wkHp ?_ ?_ | refine vc_eqAVs ?_ ?_ | refine vc_preG ?_ ?_ | refine vc_side0 ?_ | refine vc_pure c1 ?_ ?_ ?_
              | refine vc_pure c2 ?_ ?_ ?_ | refine vc_weakf [] ?_ ?_ ?_ | refine vc_and ?_ ?_ | refine vc_ret [] [] ?_)
      | ((with_reducible first | refine vc_caseD (fun h => ?_) (fun h => ?_) | refine vc_caseN (fun h => ?_) (fun h => ?_)) <;> try (exfalso; omega))
      | ((with_reducible refine vc_case (fun h => ?_) (fun h => ?_)) <;> (try simp only [Bool.cond_true_left, Bool.cond_false_right, Bool.cond_true_right, Bool.cond_false_left, Bool.and_eq_true, Bool.or_eq_true, Bool.and_eq_false_iff, Bool.or_eq_false_iff, Bool.not_eq_true', Bool.not_eq_false', Bool.not_eq_true, Bool.not_eq_false, Bool.not_not, decide_eq_true_eq, decide_eq_false_iff_not, beq_iff_eq, beq_eq_false_iff_ne, bne_iff_ne, bne_eq_false_iff_eq, ne_eq, Classical.not_not, reduceCtorEq, false_or, or_false, true_and, and_true, Bool.false_eq_true, Bool.true_eq_false] at h) <;> try (exfalso; first | omega | (simp at h; done)))
      | (conv in Vc _ => arg 1; whnf
         first
          | (with_reducible refine vc_side0 ?_; rfl)
          | (with_reducible first
              | refine vc_true ?_ | refine vc_true2 ?_ | refine vc_side ?_ ?_ | refine vc_triv | refine vc_later ?_ | refine vc_caseT ?_ | refine vc_caseF ?_ | refine vc_cons ?_ | refine vc_nil ?_ ?_ | refine vc_seq ?_
                 | refine vc_region ?_ | refine vc_cond ?_ | refine vc_block ?_ | refine vc_retc ?_ | refine vc_exit ?_ | refine vc_skip ?_ | refine vc_scope ?_ | refine vc_label ?_ | refine vc_goto ?_ | refine vc_wkSl0
                 | refine vc_wkHp0 | refine vc_eqAVs0 | refine vc_preG0 | refine vc_wkSl ?_ ?_ | refine vc_wkHp ?_ ?_ | refine vc_eqAVs ?_ ?_ | refine vc_preG ?_ ?_ | refine vc_side0 ?_ | refine vc_pure c1 ?_ ?_ ?_
                 | refine vc_pure c2 ?_ ?_ ?_ | refine vc_weakf [] ?_ ?_ ?_ | refine vc_and ?_ ?_ | refine vc_ret [] [] ?_)
          | ((with_reducible first | refine vc_caseD (fun h => ?_) (fun h => ?_) | refine vc_caseN (fun h => ?_) (fun h => ?_)) <;> try (exfalso; omega))
          | ((with_reducible refine vc_case (fun h => ?_) (fun h => ?_)) <;> (try simp only [Bool.cond_true_left, Bool.cond_false_right, Bool.cond_true_right, Bool.cond_false_left, Bool.and_eq_true, Bool.or_eq_true, Bool.and_eq_false_iff, Bool.or_eq_false_iff, Bool.not_eq_true', Bool.not_eq_false', Bool.not_eq_true, Bool.not_eq_false, Bool.not_not, decide_eq_true_eq, decide_eq_false_iff_not, beq_iff_eq, beq_eq_false_iff_ne, bne_iff_ne, bne_eq_false_iff_eq, ne_eq, Classical.not_not, reduceCtorEq, false_or, or_false, true_and, and_true, Bool.false_eq_true, Bool.true_eq_false] at h) <;> try (exfalso; first | omega | (simp at h; done)))))
  all_goals (try simp only [beq_dig, cond_true, cond_false, Bool.not_eq_true', Bool.not_eq_false', decide_eq_true_eq, decide_eq_false_iff_not] at *)
  all_goals first
    | exact ⟨fits_dig 6 _, fits_dig 6 _⟩
    | (rw [(checkE_no (b := b) pub h).1, (checkE_no (b := b) pub h).2]; done)
    | (rw [checkE_yes pub (by assumption)]; simp_all; done)

end Go.Proofs.Ytjofajjhhjpkiaa

/-
What path.Common, path.Cut, path.Under and path.Less do.
-/
set_option linter.unusedSimpArgs false
set_option linter.unusedVariables false
namespace Go.Proofs.Ytjofajjhhjpkiaa
open Go.Sym
set_option maxRecDepth 10000

end Go.Proofs.Ytjofajjhhjpkiaa

/-
What the references of the path layer do.
-/
set_option linter.unusedSimpArgs false
set_option linter.unusedVariables false
namespace Go.Proofs.Ytjofajjhhjpkiaa
open Go.Sym
set_option maxRecDepth 10000
set_option maxHeartbeats 1000000

theorem shr_half (c : UInt8) (j : Nat) : IntKind.i64.wrap (((c.toNat >>> j : Nat) : Int).tdiv 2) = ((c.toNat >>> (j + 1) : Nat) : Int) := by
  have h1 : c.toNat >>> (j + 1) = (c.toNat >>> j) / 2 := Nat.shiftRight_succ _ _
  have h2 : c.toNat >>> j ≤ c.toNat := by rw [Nat.shiftRight_eq_div_pow]; exact Nat.div_le_self _ _
  have h3 := c.toNat_lt
  rw [h1]
  generalize c.toNat >>> j = q at h2
  rw [Int.tdiv_eq_ediv_of_nonneg (by omega), wrap64_id (by omega) (by omega)]; omega

theorem shr_bit (c m : Nat) : (((c >>> m : Nat) : Int).tmod 2 == 1) = c.testBit m := by
  rw [Nat.testBit_eq_decide_div_mod_eq, ← Nat.shiftRight_eq_div_pow]
  generalize c >>> m = q
  rw [Int.tmod_eq_emod_of_nonneg (by omega)]
  rw [Bool.eq_iff_iff]
  simp
  omega

theorem setB_same {bs : List UInt8} (hb : bs.length = 32) {n : Nat} {on : Bool} (h : bitB bs n = on) : setB bs n on = bs := by
  refine dig_ext (ofBits_length _) hb fun m hm => ?_
  unfold setB
  rw [bitB_ofBits _ _ hm, beq_dec]
  by_cases h1 : m = n
  · subst h1; simp [h]
  · simp [h1]

theorem pow_two (j : Nat) : ((2 ^ j : Nat) : Int) * 2 = ((2 ^ (j + 1) : Nat) : Int) := by
  rw [Nat.pow_succ]; omega

theorem add_byte (c : UInt8) (m : Nat) (h : m < 8) (hb : c.toNat.testBit (7 - m) = false) : IntKind.u8.wrap ((c.toNat : Int) + IntKind.u8.wrap ((2 ^ (7 - m) : Nat) : Int)) = ((c.toNat + 2 ^ (7 - m) : Nat) : Int) ∧ c.toNat + 2 ^ (7 - m) < 256 := by
  have key : ∀ n : Fin 256, ∀ m : Fin 8, n.val.testBit (7 - m.val) = false → IntKind.u8.wrap ((n.val : Int) + IntKind.u8.wrap ((2 ^ (7 - m.val) : Nat) : Int)) = ((n.val + 2 ^ (7 - m.val) : Nat) : Int) ∧ n.val + 2 ^ (7 - m.val) < 256 := by decide +kernel
  exact key ⟨c.toNat, c.toNat_lt⟩ ⟨m, h⟩ hb
theorem add_bits (c : UInt8) (m : Nat) (h : m < 8) (hb : c.toNat.testBit (7 - m) = false) (j : Nat) (hj : j < 8) : (c.toNat + 2 ^ (7 - m)).testBit (7 - j) = bif j.beq m then true else c.toNat.testBit (7 - j) := by
  have key : ∀ n : Fin 256, ∀ m : Fin 8, n.val.testBit (7 - m.val) = false → ∀ j : Fin 8, (n.val + 2 ^ (7 - m.val)).testBit (7 - j.val) = bif j.val.beq m.val then true else n.val.testBit (7 - j.val) := by decide +kernel
  exact key ⟨c.toNat, c.toNat_lt⟩ ⟨m, h⟩ hb ⟨j, hj⟩
theorem sub_byte (c : UInt8) (m : Nat) (h : m < 8) (hb : c.toNat.testBit (7 - m) = true) : IntKind.u8.wrap ((c.toNat : Int) - IntKind.u8.wrap ((2 ^ (7 - m) : Nat) : Int)) = ((c.toNat - 2 ^ (7 - m) : Nat) : Int) ∧ c.toNat - 2 ^ (7 - m) < 256 := by
  have key : ∀ n : Fin 256, ∀ m : Fin 8, n.val.testBit (7 - m.val) = true → IntKind.u8.wrap ((n.val : Int) - IntKind.u8.wrap ((2 ^ (7 - m.val) : Nat) : Int)) = ((n.val - 2 ^ (7 - m.val) : Nat) : Int) ∧ n.val - 2 ^ (7 - m.val) < 256 := by decide +kernel
  exact key ⟨c.toNat, c.toNat_lt⟩ ⟨m, h⟩ hb
theorem sub_bits (c : UInt8) (m : Nat) (h : m < 8) (hb : c.toNat.testBit (7 - m) = true) (j : Nat) (hj : j < 8) : (c.toNat - 2 ^ (7 - m)).testBit (7 - j) = bif j.beq m then false else c.toNat.testBit (7 - j) := by
  have key : ∀ n : Fin 256, ∀ m : Fin 8, n.val.testBit (7 - m.val) = true → ∀ j : Fin 8, (n.val - 2 ^ (7 - m.val)).testBit (7 - j.val) = bif j.val.beq m.val then false else n.val.testBit (7 - j.val) := by decide +kernel
  exact key ⟨c.toNat, c.toNat_lt⟩ ⟨m, h⟩ hb ⟨j, hj⟩

theorem rBit_ok (xs : List D) (bs : List UInt8) (hx : xs = bs.map byteD) (hb : bs.length = 32) (i : Int) : LocalCall Try.prog 19 [.d (.arr 32 1 xs), .d (.int .i64 i)] [] [] (one [.d (.bool (bitI bs i))]) [] := by
  subst hx
  refine vc_fn mixed Try.func19 rfl rfl [] (vc_chk rfl) ?_
  repeat' (first
      | ((with_reducible refine vc_chk ?_); first | decide +kernel | rfl)
      | (with_reducible refine vc_side0 ?_; rfl)
      | (with_reducible first
           | refine vc_true ?_ | refine vc_true2 ?_ | refine vc_side ?_ ?_ | refine vc_triv | refine vc_later ?_ | refine vc_caseT ?_ | refine vc_caseF ?_ | refine vc_cons ?_ | refine vc_nil ?_ ?_ | refine vc_seq ?_
              | refine vc_region ?_ | refine vc_cond ?_ | refine vc_block ?_ | refine vc_retc ?_ | refine vc_exit ?_ | refine vc_skip ?_ | refine vc_scope ?_ | refine vc_label ?_ | refine vc_goto ?_ | refine vc_wkSl0
              | refine vc_wkHp0 | refine vc_eqAVs0 | refine vc_preG0 | refine vc_wkSl ?_ ?_ | refine vc_wkHp ?_ ?_ | refine vc_eqAVs ?_ ?_ | refine vc_preG ?_ ?_ | refine vc_side0 ?_
              | refine vc_loopI 29 (fun (j : Nat) => [(1, .d (.int .i64 i)), (5, .d (.int .i64 (((bs.getD (i.toNat / 8) 0).toNat >>> j : Nat) : Int))), (6, .d (.int .i64 ((7 - j : Nat) : Int)))]) (fun _ => []) (fun j => 7 - j) (fun j => j ≤ 7 - i.toNat % 8) 0 [] ?_ ?_ ?_ ?_ ?_ (fun j hj => ?_)
              | refine vc_nextI (j + 1) [] ?_ ?_ ?_ ?_ ?_ ?_ | refine vc_weakf [] ?_ ?_ ?_ | refine vc_and ?_ ?_ | refine vc_ret [] [] ?_)
      | ((with_reducible first | refine vc_caseD (fun h => ?_) (fun h => ?_) | refine vc_caseN (fun h => ?_) (fun h => ?_)) <;> try (exfalso; omega))
      | ((with_reducible refine vc_case (fun h => ?_) (fun h => ?_)) <;> (try simp at h) <;> try (exfalso; omega))
      | (conv in Vc _ => arg 1; whnf
         first
          | (with_reducible refine vc_side0 ?_; rfl)
          | (with_reducible first
              | refine vc_true ?_ | refine vc_true2 ?_ | refine vc_side ?_ ?_ | refine vc_triv | refine vc_later ?_ | refine vc_caseT ?_ | refine vc_caseF ?_ | refine vc_cons ?_ | refine vc_nil ?_ ?_ | refine vc_seq ?_
                 | refine vc_region ?_ | refine vc_cond ?_ | refine vc_block ?_ | refine vc_retc ?_ | refine vc_exit ?_ | refine vc_skip ?_ | refine vc_scope ?_ | refine vc_label ?_ | refine vc_goto ?_ | refine vc_wkSl0
                 | refine vc_wkHp0 | refine vc_eqAVs0 | refine vc_preG0 | refine vc_wkSl ?_ ?_ | refine vc_wkHp ?_ ?_ | refine vc_eqAVs ?_ ?_ | refine vc_preG ?_ ?_ | refine vc_side0 ?_
                 | refine vc_loopI 29 (fun (j : Nat) => [(1, .d (.int .i64 i)), (5, .d (.int .i64 (((bs.getD (i.toNat / 8) 0).toNat >>> j : Nat) : Int))), (6, .d (.int .i64 ((7 - j : Nat) : Int)))]) (fun _ => []) (fun j => 7 - j) (fun j => j ≤ 7 - i.toNat % 8) 0 [] ?_ ?_ ?_ ?_ ?_ (fun j hj => ?_)
                 | refine vc_nextI (j + 1) [] ?_ ?_ ?_ ?_ ?_ ?_ | refine vc_weakf [] ?_ ?_ ?_ | refine vc_and ?_ ?_ | refine vc_ret [] [] ?_)
          | ((with_reducible first | refine vc_caseD (fun h => ?_) (fun h => ?_) | refine vc_caseN (fun h => ?_) (fun h => ?_)) <;> try (exfalso; omega))
          | ((with_reducible refine vc_case (fun h => ?_) (fun h => ?_)) <;> (try simp at h) <;> try (exfalso; omega))))
  all_goals first | rw [bitI_neg bs (by omega)] | rw [bitI_big bs (by omega)] | skip
  all_goals
    obtain ⟨n, rfl⟩ : ∃ n : Nat, i = n := ⟨i.toNat, by omega⟩
    have hn : n < 256 := by omega
    have hc := (bs.getD (n / 8) 0).toNat_lt
    try simp only [div8 hn, mod8, Int.toNat_natCast, getD_byte (show n / 8 < bs.length by omega)] at *
  all_goals first
    | rfl
    | omega
    | exact ⟨⟨by omega, trivial⟩, rfl⟩
    | (simp only [byteD, D.toInt]; rw [wrap64_id (by omega) (by omega)]; rfl)
    | (rw [shr_half])
    | (rw [wrap64_id (by omega) (by omega)]; congr 1; omega)
    | (obtain rfl : j = 7 - n % 8 := by omega
       rw [bitI_nat bs hn]; exact congrArg D.bool (shr_bit _ _))

theorem set_add {bs : List UInt8} (hb : bs.length = 32) {n : Nat} (hn : n < 256) (h : bitB bs n = false) :
    (bs.map byteD).set (n / 8) (.int .u8 (IntKind.u8.wrap ((byteD (bs.getD (n / 8) 0)).toInt + IntKind.u8.wrap ((2 ^ (7 - n % 8) : Nat) : Int)))) = (setB bs n true).map byteD := by
  have hbf : (bs.getD (n / 8) 0).toNat.testBit (7 - n % 8) = false := h
  have := (add_byte _ _ (show n % 8 < 8 by omega) hbf).1
  simp only [byteD, D.toInt]
  rw [this]
  exact setByte hb hn (add_byte _ _ (by omega) hbf).2 fun j hj => add_bits _ _ (by omega) hbf j hj
theorem set_sub {bs : List UInt8} (hb : bs.length = 32) {n : Nat} (hn : n < 256) (h : bitB bs n = true) :
    (bs.map byteD).set (n / 8) (.int .u8 (IntKind.u8.wrap ((byteD (bs.getD (n / 8) 0)).toInt - IntKind.u8.wrap ((2 ^ (7 - n % 8) : Nat) : Int)))) = (setB bs n false).map byteD := by
  have hbf : (bs.getD (n / 8) 0).toNat.testBit (7 - n % 8) = true := h
  have := (sub_byte _ _ (show n % 8 < 8 by omega) hbf).1
  simp only [byteD, D.toInt]
  rw [this]
  exact setByte hb hn (sub_byte _ _ (by omega) hbf).2 fun j hj => sub_bits _ _ (by omega) hbf j hj

end Go.Proofs.Ytjofajjhhjpkiaa
