import Derived.Test.YtpeglanfbmpoeaaJ1
import Derived.Test.YtpeglanfbmpoeaaJ2
import Derived.Test.YtpeglanfbmpoeaaJ3
import Derived.Test.YtpeglanfbmpoeaaJ4
import Derived.Test.YtpeglanfbmpoeaaJ5
import Derived.Test.YtpeglanfbmpoeaaJ6
import Derived.Test.YtpeglanfbmpoeaaJ7
import Derived.Test.YtpeglanfbmpoeaaJ8
import Derived.Test.YtpeglanfbmpoeaaJ9
import Derived.Test.YtpeglanfbmpoeaaJ10
import Derived.Test.YtpeglanfbmpoeaaJ11
import Derived.Test.YtpeglanfbmpoeaaJ12
import Derived.Test.YtpeglanfbmpoeaaJ13
import Derived.Test.YtpeglanfbmpoeaaJ14
import Derived.Test.YtpeglanfbmpoeaaJ15
import Derived.Test.YtpeglanfbmpoeaaJ16
set_option linter.unusedSimpArgs false
set_option linter.unusedVariables false
/-
What the law of turned ways returns.
-/
set_option linter.unusedSimpArgs false
set_option linter.unusedVariables false
namespace Go.Proofs.Ytpeglanfbmpoeaa
open Go.Sym
set_option maxRecDepth 10000
set_option maxHeartbeats 4000000

/-- One operation, told by hand. -/
theorem vc_opAt {P : Program} {ops : List Oper} {rid : Nat} {V : Bool → Nat → Nat → St → Foots → (St → Prop) → (Value → St → Prop) → Prop} {o : Oper} {i m : Nat} {S : St} {acc : Foots} {K : St → Prop} {Kp : Value → St → Prop} {res : Res}
    (ha : aOp P (nmOf rid i) o.op S.ev (rst S.hp (opNames S o.op)) = some res) (hg : o.guard = none) (hm : m.testBit i = false) (hc : calleeOf S o.op = none) (hp : panOf S o.op = none) (hn : (S.hp (nmOf rid i)).isNone = true) (hs : res.side)
    (h : Vc (V false (i + 1) m (S.upd o.dst res.r res.ws) ((i, ⟨nmOf rid i :: opNames S o.op, (res.ws.map (·.1)).filter (fun n => !n.beq (nmOf rid i)), (res.ws.map (·.1)).filter (fun n => n.beq (nmOf rid i))⟩) :: acc) K Kp)) : Vc (stepOp P ops rid V o false i m S acc K Kp) := by
  constructor
  have h := h.h
  unfold stepOp
  rw [fN_eq, hm, cond_false, hg]
  show vcOp P rid i o S _ _
  unfold vcOp
  rw [hc, hp, ha]
  simp only [hn, cond_true, fAV_eq, fWs_eq, fFoot_eq, Side_eq, quiet, Bool.not_false, Bool.true_or]
  exact ⟨hs, h⟩
theorem load_row2 {P : Program} {T : TypeId} {hp : Nat → Option AObj} {n e k j : Nat} {xs ys : List D} {y : D} (hh : hp n = some (.row e xs)) (hk : xs.getD k .nilp = .arr e 1 ys) (hy : D.ty P 8 T (ys.getD j .nilp) = y) (ht : tyOK P T y.size y.isAgg = true) :
    aLoad P T hp (.ptr n [.ix k e, .ix j 1]) = some ⟨(k < xs.length ∧ (j < e ∧ True)) ∧ ys.getD j .nilp = y, .d y, []⟩ := by
  subst hy
  have h1 : D.nav (xs.getD k .nilp) [.ix j 1] = some (j < e ∧ True, ys.getD j .nilp) := by rw [hk]; rfl
  have h2 : Nat.beq e e = true := Nat.beq_refl e
  simp only [aLoad, hh, objNav, h1, h2, cond_true]
  rw [show (AV.d (D.ty P 8 T (ys.getD j .nilp))).size = (D.ty P 8 T (ys.getD j .nilp)).size from rfl, show (AV.d (D.ty P 8 T (ys.getD j .nilp))).isAgg = (D.ty P 8 T (ys.getD j .nilp)).isAgg from rfl, ht]; rfl
theorem store_row2 {P : Program} {T : TypeId} {hp : Nat → Option AObj} {n e k j : Nat} {xs ys : List D} {y : D} (hh : hp n = some (.row e xs)) (hk : xs.getD k .nilp = .arr e 1 ys) (h1 : y.size = 1) (ht : tyOK P T y.size y.isAgg = true) :
    aStore P T hp (.ptr n [.ix k e, .ix j 1]) (.d y) = some ⟨k < xs.length ∧ j < e, .top, [(n, .row e (xs.set k (.arr e 1 (ys.set j y))))]⟩ := by
  have h3 : D.set (xs.getD k .nilp) [.ix j 1] y = some (j < e, .arr e 1 (ys.set j y)) := by rw [hk]; simp only [D.set, h1]; rfl
  have h2 : Nat.beq e e = true := Nat.beq_refl e
  simp only [aStore, hh, h3, h2, cond_true]
  rw [show (AV.d y).size = y.size from rfl, show (AV.d y).isAgg = y.isAgg from rfl, ht]; rfl

section
variable {P : Program} {ops : List Oper} {rid : Nat} {V : Bool → Nat → Nat → St → Foots → (St → Prop) → (Value → St → Prop) → Prop} {o : Oper} {i m : Nat} {S : St} {acc : Foots} {K : St → Prop} {Kp : Value → St → Prop}
theorem vc_load2 {T : TypeId} {x : Operand} (nm : Nat) (nms : List Nat) (n e k j : Nat) (xs ys : List D) (y : D) (ho : o.op = .load T x) (hx : S.ev x = .ptr n [.ix k e, .ix j 1]) (hh : rst S.hp (opNames S o.op) n = some (.row e xs)) (hk : xs.getD k .nilp = .arr e 1 ys) (hy : D.ty P 8 T (ys.getD j .nilp) = y) (ht : tyOK P T y.size y.isAgg = true)
    (hg : o.guard = none) (hm : m.testBit i = false) (hc : calleeOf S o.op = none) (hp : panOf S o.op = none) (hn : (S.hp (nmOf rid i)).isNone = true) (hnm : nmOf rid i = nm) (hf : opNames S o.op = nms) (hs : (k < xs.length ∧ (j < e ∧ True)) ∧ ys.getD j .nilp = y)
    (h : Vc (V false (i + 1) m (S.upd o.dst (.d y) []) ((i, ⟨nm :: nms, [], []⟩) :: acc) K Kp)) : Vc (stepOp P ops rid V o false i m S acc K Kp) := by
  refine vc_opAt (res := ⟨(k < xs.length ∧ (j < e ∧ True)) ∧ ys.getD j .nilp = y, .d y, []⟩) ?_ hg hm hc hp hn hs (by rw [hnm, hf]; exact h)
  have key := load_row2 (P := P) (T := T) (j := j) hh hk hy ht
  rw [ho] at key ⊢
  rw [← hx] at key
  exact key
theorem vc_store2 {T : TypeId} {x z : Operand} (nm : Nat) (nms : List Nat) (n e k j : Nat) (xs ys : List D) (y : D) (ho : o.op = .store T x z) (hx : S.ev x = .ptr n [.ix k e, .ix j 1]) (hz : S.ev z = .d y) (hh : rst S.hp (opNames S o.op) n = some (.row e xs)) (hk : xs.getD k .nilp = .arr e 1 ys) (h1 : y.size = 1) (ht : tyOK P T y.size y.isAgg = true)
    (hg : o.guard = none) (hm : m.testBit i = false) (hc : calleeOf S o.op = none) (hp : panOf S o.op = none) (hn : (S.hp (nmOf rid i)).isNone = true) (hnm : nmOf rid i = nm) (hf : opNames S o.op = nms) (hb : n.beq nm = false) (hs : k < xs.length ∧ j < e)
    (h : Vc (V false (i + 1) m (S.upd o.dst .top [(n, .row e (xs.set k (.arr e 1 (ys.set j y))))]) ((i, ⟨nm :: nms, [n], []⟩) :: acc) K Kp)) : Vc (stepOp P ops rid V o false i m S acc K Kp) := by
  have e1 : ([n]).filter (fun n => !n.beq nm) = [n] := by simp [hb]
  have e2 : ([n]).filter (fun n => n.beq nm) = [] := by simp [hb]
  refine vc_opAt (res := ⟨k < xs.length ∧ j < e, .top, [(n, .row e (xs.set k (.arr e 1 (ys.set j y))))]⟩) ?_ hg hm hc hp hn hs (by rw [hnm, hf]; show Vc (V _ _ _ _ ((i, ⟨_, ([n]).filter _, ([n]).filter _⟩) :: acc) K Kp); rw [e1, e2]; exact h)
  have key := store_row2 (P := P) (T := T) (j := j) hh hk h1 ht
  rw [ho] at key ⊢
  rw [← hx, ← hz] at key
  exact key
end

abbrev kT (n : Nat) (at' : Int) : Int := IntKind.i64.wrap ((IntKind.u64.wrap at').tmod (IntKind.u64.wrap (IntKind.i64.wrap ((n : Int) + 2))))
theorem kT_eq (n : Nat) (at' : Int) (hn : n ≤ 300) : ∃ k : Nat, k ≤ n + 1 ∧ kT n at' = k := by
  unfold kT
  have uw : IntKind.u64.wrap at' = at' % 18446744073709551616 := by simp [IntKind.wrap, IntKind.signed, IntKind.bits]
  rw [wrap64_id (n := (n : Int) + 2) (by omega) (by omega), wrapU64_id (n := (n : Int) + 2) (by omega) (by omega), uw, Int.tmod_eq_emod_of_nonneg (by omega)]
  have h1 := Int.emod_nonneg (at' % 18446744073709551616) (show (n : Int) + 2 ≠ 0 by omega)
  have h2 := Int.emod_lt_of_pos (at' % 18446744073709551616) (show (0 : Int) < (n : Int) + 2 by omega)
  rw [wrap64_id (by omega) (by omega)]
  exact ⟨((at' % 18446744073709551616) % ((n : Int) + 2)).toNat, by omega, by omega⟩

theorem kT_two (p : Prf) (at' : Int) (hn : p.sides.length ≤ 300) : ∃ k : Nat, (p.fin = 1 → kT p.sides.length at' = k) ∧ (¬ p.fin = 1 → ¬ p.sides.length = 0 → (kT p.sides.length at').tmod (p.sides.length : Int) = k) ∧ k ≤ p.sides.length + 1 ∧ (p.fin = 1 ∨ p.sides.length = 0 ∨ k < p.sides.length) := by
  obtain ⟨k, hk, ek⟩ := kT_eq p.sides.length at' hn
  by_cases hf : p.fin = 1
  · exact ⟨k, fun _ => ek, fun h => absurd hf h, hk, .inl hf⟩
  · by_cases hz : p.sides.length = 0
    · exact ⟨0, fun h => absurd h hf, fun _ h => absurd hz h, Nat.zero_le _, .inr (.inl hz)⟩
    · refine ⟨k % p.sides.length, fun h => absurd h hf, fun _ _ => by rw [ek]; exact (Int.ofNat_tmod k p.sides.length).symm, ?_, .inr (.inr (Nat.mod_lt _ (by omega)))⟩
      have := Nat.mod_lt k (show 0 < p.sides.length by omega)
      omega

theorem row_at {p : Prf} {b : List UInt8} {k : Nat} (h : k < p.sides.length) (j : Nat) : ((turnP p b k j).sides.map digD).getD (0 + ((k : Int)).toNat) .nilp = .arr 32 1 ((xorN (p.sides.getD k []) b j).map byteD) := by
  rw [Nat.zero_add, Int.toNat_natCast, turnP_a h, (map_at (f := digD) (d := []) (by rw [List.length_set]; exact h)).1]
  show digD ((p.sides.set k (xorN (p.sides.getD k []) b j)).getD k []) = _
  rw [List.getD_eq_getElem?_getD, List.getElem?_set_self h]; rfl

abbrev qA (p : Prf) (b : List UInt8) (k j : Nat) : AV := .st [.sl 5016 [] 32 0 ((turnP p b k j).sides.map digD).length, .d (.int .i64 p.fin), .d (digD (turnP p b k j).index), .d (digD (turnP p b k j).value)]
theorem end32 {p : Prf} {b : List UInt8} {k j : Nat} (h : j = 32) : D.st [.sl ((turnP p b k j).sides.map digD), .int .i64 p.fin, digD (turnP p b k j).index, digD (turnP p b k j).value] = pD (turnP p b k 32) := by
  subst h
  show _ = D.st [_, .int .i64 (turnP p b k 32).fin, _, _]
  rw [turnP_fin]
theorem st_a {p : Prf} {b : List UInt8} {k j : Nat} (h : k < p.sides.length) : qA p b k j = qA p b k (j + 1) := by
  unfold qA
  rw [List.length_map, List.length_map, turnP_len, turnP_len, turnP_a h, turnP_a h]
theorem st_b {p : Prf} {b : List UInt8} (hb : b.length = 32) {k j : Nat} (h : k = p.sides.length) (hj : j < 32) :
    AV.st [.sl 5016 [] 32 0 ((turnP p b k j).sides.map digD).length, .d (.int .i64 p.fin), .d (digD (turnP p b k j).index), .d (.arr 32 1 (((turnP p b k j).value.map byteD).set j (.int .u8 (aBits .xor .u8 (((turnP p b k j).value.map byteD).getD j .nilp).toInt ((b.map byteD).getD j .nilp).toInt))))] = qA p b k (j + 1) := by
  unfold qA
  rw [List.length_map, List.length_map, turnP_len, turnP_len, turnP_b h, turnP_b h]
  show AV.st [_, _, _, .d (.arr 32 1 (((xorN p.value b j).map byteD).set j _))] = _
  rw [xorN_data _ hb hj]
theorem st_c {p : Prf} {b : List UInt8} (hb : b.length = 32) {k j : Nat} (h : ¬ k < p.sides.length) (h2 : ¬ k = p.sides.length) (hj : j < 32) :
    AV.st [.sl 5016 [] 32 0 ((turnP p b k j).sides.map digD).length, .d (.int .i64 p.fin), .d (.arr 32 1 (((turnP p b k j).index.map byteD).set j (.int .u8 (aBits .xor .u8 (((turnP p b k j).index.map byteD).getD j .nilp).toInt ((b.map byteD).getD j .nilp).toInt)))), .d (digD (turnP p b k j).value)] = qA p b k (j + 1) := by
  unfold qA
  rw [List.length_map, List.length_map, turnP_len, turnP_len, turnP_c h h2, turnP_c h h2]
  show AV.st [_, _, .d (.arr 32 1 (((xorN p.index b j).map byteD).set j _)), _] = _
  rw [xorN_data _ hb hj]
theorem row_a {p : Prf} {b : List UInt8} (hb : b.length = 32) {k j : Nat} (h : k < p.sides.length) (hj : j < 32) :
    ((turnP p b k j).sides.map digD).set k (.arr 32 1 (((xorN (p.sides.getD k []) b j).map byteD).set j (.int .u8 (aBits .xor .u8 (((xorN (p.sides.getD k []) b j).map byteD).getD j .nilp).toInt ((b.map byteD).getD j .nilp).toInt)))) = (turnP p b k (j + 1)).sides.map digD := by
  rw [xorN_data _ hb hj, turnP_a h, turnP_a h]
  show ((p.sides.set k _).map digD).set k (digD _) = (p.sides.set k _).map digD
  rw [← List.map_set, List.set_set]
theorem row_b {p : Prf} {b : List UInt8} {k j : Nat} (h : ¬ k < p.sides.length) : (turnP p b k j).sides.map digD = (turnP p b k (j + 1)).sides.map digD := by
  by_cases h2 : k = p.sides.length
  · rw [turnP_b h2, turnP_b h2]
  · rw [turnP_c h h2, turnP_c h h2]

theorem proofTurned_main (i : List UInt8) (hi : i.length = 32) (p : Prf) (hp : wfP p) (at' : Int) (b : List UInt8) (hb : b.length = 32) :
    LocalCall Try.prog 6 [.d (digD i), .d (pD p), .d (.int .i64 at'), .d (digD b)] [] [] (one [.d (.bool true)]) [] := by
  have lp : (p.sides.map digD).length = p.sides.length := List.length_map _
  have f1 := few8_ok p
  have f2 := rRight_ok p
  by_cases h3 : (p.sides.length : Int) ≤ 300
  · by_cases hz : b = zero32
    · subst hz
      refine vc_fn mixed Try.func6 rfl rfl [] (vc_chk rfl) ?_
      repeat' (first
          | ((with_reducible refine vc_chk ?_); first | decide +kernel | rfl)
          | (with_reducible refine vc_side0 ?_; rfl)
          | (with_reducible first
               | refine vc_true ?_ | refine vc_true2 ?_ | refine vc_side ?_ ?_ | refine vc_triv | refine vc_later ?_ | refine vc_caseT ?_ | refine vc_caseF ?_ | refine vc_cons ?_ | refine vc_nil ?_ ?_ | refine vc_seq ?_
                  | refine vc_region ?_ | refine vc_cond ?_ | refine vc_block ?_ | refine vc_retc ?_ | refine vc_exit ?_ | refine vc_skip ?_ | refine vc_scope ?_ | refine vc_label ?_ | refine vc_goto ?_ | refine vc_wkSl0
                  | refine vc_wkHp0 | refine vc_eqAVs0 | refine vc_preG0 | refine vc_wkSl ?_ ?_ | refine vc_wkHp ?_ ?_ | refine vc_eqAVs ?_ ?_ | refine vc_preG ?_ ?_ | refine vc_side0 ?_ | refine vc_pure f1 ?_ ?_ ?_
                  | refine vc_pure f2 ?_ ?_ ?_ | refine vc_pure works8_ok ?_ ?_ ?_ | refine vc_weakf [] ?_ ?_ ?_ | refine vc_and ?_ ?_ | refine vc_ret [] [] ?_)
          | ((with_reducible first | refine vc_caseD (fun h => ?_) (fun h => ?_) | refine vc_caseN (fun h => ?_) (fun h => ?_)) <;> try (exfalso; omega))
          | ((with_reducible refine vc_case (fun h => ?_) (fun h => ?_)) <;> (try simp only [Bool.cond_true_left, Bool.cond_false_right, Bool.cond_true_right, Bool.cond_false_left, Bool.and_eq_true, Bool.or_eq_true, Bool.and_eq_false_iff, Bool.or_eq_false_iff, Bool.not_eq_true', Bool.not_eq_false', Bool.not_eq_true, Bool.not_eq_false, Bool.not_not, decide_eq_true_eq, decide_eq_false_iff_not, beq_iff_eq, beq_eq_false_iff_ne, bne_iff_ne, bne_eq_false_iff_eq, ne_eq, Classical.not_not, reduceCtorEq, false_or, or_false, true_and, and_true, Bool.false_eq_true, Bool.true_eq_false] at h) <;> try (exfalso; first | omega | (simp at h; done)))
          | (conv in Vc _ => arg 1; whnf
             first
              | (with_reducible refine vc_side0 ?_; rfl)
              | (with_reducible first
                  | refine vc_true ?_ | refine vc_true2 ?_ | refine vc_side ?_ ?_ | refine vc_triv | refine vc_later ?_ | refine vc_caseT ?_ | refine vc_caseF ?_ | refine vc_cons ?_ | refine vc_nil ?_ ?_ | refine vc_seq ?_
                     | refine vc_region ?_ | refine vc_cond ?_ | refine vc_block ?_ | refine vc_retc ?_ | refine vc_exit ?_ | refine vc_skip ?_ | refine vc_scope ?_ | refine vc_label ?_ | refine vc_goto ?_ | refine vc_wkSl0
                     | refine vc_wkHp0 | refine vc_eqAVs0 | refine vc_preG0 | refine vc_wkSl ?_ ?_ | refine vc_wkHp ?_ ?_ | refine vc_eqAVs ?_ ?_ | refine vc_preG ?_ ?_ | refine vc_side0 ?_ | refine vc_pure f1 ?_ ?_ ?_
                     | refine vc_pure f2 ?_ ?_ ?_ | refine vc_pure works8_ok ?_ ?_ ?_ | refine vc_weakf [] ?_ ?_ ?_ | refine vc_and ?_ ?_ | refine vc_ret [] [] ?_)
              | ((with_reducible first | refine vc_caseD (fun h => ?_) (fun h => ?_) | refine vc_caseN (fun h => ?_) (fun h => ?_)) <;> try (exfalso; omega))
              | ((with_reducible refine vc_case (fun h => ?_) (fun h => ?_)) <;> (try simp only [Bool.cond_true_left, Bool.cond_false_right, Bool.cond_true_right, Bool.cond_false_left, Bool.and_eq_true, Bool.or_eq_true, Bool.and_eq_false_iff, Bool.or_eq_false_iff, Bool.not_eq_true', Bool.not_eq_false', Bool.not_eq_true, Bool.not_eq_false, Bool.not_not, decide_eq_true_eq, decide_eq_false_iff_not, beq_iff_eq, beq_eq_false_iff_ne, bne_iff_ne, bne_eq_false_iff_eq, ne_eq, Classical.not_not, reduceCtorEq, false_or, or_false, true_and, and_true, Bool.false_eq_true, Bool.true_eq_false] at h) <;> try (exfalso; first | omega | (simp at h; done)))))
      all_goals (try (exfalso; exact absurd rfl (digNo8 (a := zero32) (b := zero32) (by assumption))))
      all_goals first
        | with_reducible rfl
        | exact ⟨fits_dig 6 _, fits_dig 6 zero32⟩
        | rfl
        | trace_state
    obtain ⟨k, k1, k2, hk, kf⟩ := kT_two p at' (by omega)
    have c1 := proot_ok i hi p hp (by omega)
    have c2 := phashed_ok i hi p hp (by omega)
    have q1 := proot_ok i hi (turnP p b k 32) (turnP_wf hp 32) (by rw [turnP_len]; omega)
    have q2 := phashed_ok i hi (turnP p b k 32) (turnP_wf hp 32) (by rw [turnP_len]; omega)
    have lq : ∀ j, ((turnP p b k j).sides.map digD).length = p.sides.length := fun j => by rw [List.length_map, turnP_len]
    have ll : (hashedP i p).length < 2 ^ 62 := by unfold hashedP; rw [wayL_length]; omega
    have tw : (k < p.sides.length ∨ p.fin = 1) → rootP i p = rootP i (turnP p b k 32) → LocalCall Try.prog 22 [.d (.sl ((hashedP i p).map tD)), .d (.sl ((hashedP i (turnP p b k 32)).map tD))] [] [] (one [.d (.bool true)]) [] := fun h1 h2 => by
      have t := two_ok (hashedP i p) (hashedP i (turnP p b k 32)) (hashedP_le hp) (hashedP_le (turnP_wf hp 32)) ll
      rwa [turn_pair hp hb hz h1 h2] at t
    refine vc_fn mixed Try.func6 rfl rfl [(500003, [1000000032000000009000004028]), (19, [500009])] (vc_chk rfl) ?_
    repeat' (first
        | ((with_reducible refine vc_chk ?_); first | decide +kernel | rfl)
        | (with_reducible refine vc_side0 ?_; rfl)
        | (with_reducible first
             | refine vc_true ?_ | refine vc_true2 ?_ | refine vc_side ?_ ?_ | refine vc_triv | refine vc_later ?_ | refine vc_caseT ?_ | refine vc_caseF ?_ | refine vc_cons ?_ | refine vc_nil ?_ ?_ | refine vc_seq ?_
                | refine vc_region ?_ | refine vc_cond ?_ | refine vc_block ?_ | refine vc_retc ?_ | refine vc_exit ?_ | refine vc_skip ?_ | refine vc_scope ?_ | refine vc_label ?_ | refine vc_goto ?_ | refine vc_wkSl0
                | refine vc_wkHp0 | refine vc_eqAVs0 | refine vc_preG0 | refine vc_wkSl ?_ ?_ | refine vc_wkHp ?_ ?_ | refine vc_eqAVs ?_ ?_ | refine vc_preG ?_ ?_ | refine vc_side0 ?_ | refine vc_pure f1 ?_ ?_ ?_
                | refine vc_pure f2 ?_ ?_ ?_ | refine vc_pure works8_ok ?_ ?_ ?_ | refine vc_pure c1 ?_ ?_ ?_ | refine vc_pure c2 ?_ ?_ ?_ | refine vc_pure (tw (by omega) (dgSame h)) ?_ ?_ ?_ | refine vc_call [] q1 ?_
                | refine vc_call [] q2 ?_
                | refine vc_loopI 128 (fun (j : Nat) => [(4, .ptr 1000 []), (5, .ptr 1004 []), (7, .ptr 1008 []), (9, .ptr 4028 []), (10, .d (.int .i64 ((p.sides.map digD).length : Nat))), (11, .d (.int .i64 (k : Int))), (12, .d (.int .i64 (j : Int)))]) (fun j => [(1000, .var (.d (digD i))), (1004, .var (.d (pD p))), (1008, .var (.d (digD b))), (4028, .var (.st [.sl 5016 [] 32 0 ((turnP p b k j).sides.map digD).length, .d (.int .i64 p.fin), .d (digD (turnP p b k j).index), .d (digD (turnP p b k j).value)])), (5016, .row 32 ((turnP p b k j).sides.map digD))]) (fun j => 32 - j) (fun j => j ≤ 32) 0 [] ?_ ?_ ?_ ?_ ?_ (fun j hI => ?_)
                | refine vc_nextI (j + 1) [] ?_ ?_ ?_ ?_ ?_ ?_ | refine vc_weakf [] ?_ ?_ ?_ | refine vc_and ?_ ?_ | refine vc_ret [] [] ?_)
        | ((with_reducible first | refine vc_caseD (fun h => ?_) (fun h => ?_) | refine vc_caseN (fun h => ?_) (fun h => ?_)) <;> try (exfalso; omega))
        | ((with_reducible refine vc_case (fun h => ?_) (fun h => ?_)) <;> (try simp only [Bool.cond_true_left, Bool.cond_false_right, Bool.cond_true_right, Bool.cond_false_left, Bool.and_eq_true, Bool.or_eq_true, Bool.and_eq_false_iff, Bool.or_eq_false_iff, Bool.not_eq_true', Bool.not_eq_false', Bool.not_eq_true, Bool.not_eq_false, Bool.not_not, decide_eq_true_eq, decide_eq_false_iff_not, beq_iff_eq, beq_eq_false_iff_ne, bne_iff_ne, bne_eq_false_iff_eq, ne_eq, Classical.not_not, reduceCtorEq, false_or, or_false, true_and, and_true, Bool.false_eq_true, Bool.true_eq_false] at h) <;> try (exfalso; first | omega | (simp at h; done)))
        | (conv in Vc _ => arg 1; whnf
           first
            | (with_reducible refine vc_side0 ?_; rfl)
            | (with_reducible first
                | refine vc_true ?_ | refine vc_true2 ?_ | refine vc_side ?_ ?_ | refine vc_triv | refine vc_later ?_ | refine vc_caseT ?_ | refine vc_caseF ?_ | refine vc_cons ?_ | refine vc_nil ?_ ?_ | refine vc_seq ?_
                   | refine vc_region ?_ | refine vc_cond ?_ | refine vc_block ?_ | refine vc_retc ?_ | refine vc_exit ?_ | refine vc_skip ?_ | refine vc_scope ?_ | refine vc_label ?_ | refine vc_goto ?_ | refine vc_wkSl0
                   | refine vc_wkHp0 | refine vc_eqAVs0 | refine vc_preG0 | refine vc_wkSl ?_ ?_ | refine vc_wkHp ?_ ?_ | refine vc_eqAVs ?_ ?_ | refine vc_preG ?_ ?_ | refine vc_side0 ?_ | refine vc_pure f1 ?_ ?_ ?_
                   | refine vc_pure f2 ?_ ?_ ?_ | refine vc_pure works8_ok ?_ ?_ ?_ | refine vc_pure c1 ?_ ?_ ?_ | refine vc_pure c2 ?_ ?_ ?_ | refine vc_pure (tw (by omega) (dgSame h)) ?_ ?_ ?_ | refine vc_call [] q1 ?_
                   | refine vc_call [] q2 ?_
                   | refine vc_loopI 128 (fun (j : Nat) => [(4, .ptr 1000 []), (5, .ptr 1004 []), (7, .ptr 1008 []), (9, .ptr 4028 []), (10, .d (.int .i64 ((p.sides.map digD).length : Nat))), (11, .d (.int .i64 (k : Int))), (12, .d (.int .i64 (j : Int)))]) (fun j => [(1000, .var (.d (digD i))), (1004, .var (.d (pD p))), (1008, .var (.d (digD b))), (4028, .var (.st [.sl 5016 [] 32 0 ((turnP p b k j).sides.map digD).length, .d (.int .i64 p.fin), .d (digD (turnP p b k j).index), .d (digD (turnP p b k j).value)])), (5016, .row 32 ((turnP p b k j).sides.map digD))]) (fun j => 32 - j) (fun j => j ≤ 32) 0 [] ?_ ?_ ?_ ?_ ?_ (fun j hI => ?_)
                   | refine vc_nextI (j + 1) [] ?_ ?_ ?_ ?_ ?_ ?_ | refine vc_weakf [] ?_ ?_ ?_ | refine vc_and ?_ ?_ | refine vc_ret [] [] ?_)
            | ((with_reducible first | refine vc_caseD (fun h => ?_) (fun h => ?_) | refine vc_caseN (fun h => ?_) (fun h => ?_)) <;> try (exfalso; omega))
            | ((with_reducible refine vc_case (fun h => ?_) (fun h => ?_)) <;> (try simp only [Bool.cond_true_left, Bool.cond_false_right, Bool.cond_true_right, Bool.cond_false_left, Bool.and_eq_true, Bool.or_eq_true, Bool.and_eq_false_iff, Bool.or_eq_false_iff, Bool.not_eq_true', Bool.not_eq_false', Bool.not_eq_true, Bool.not_eq_false, Bool.not_not, decide_eq_true_eq, decide_eq_false_iff_not, beq_iff_eq, beq_eq_false_iff_ne, bne_iff_ne, bne_eq_false_iff_eq, ne_eq, Classical.not_not, reduceCtorEq, false_or, or_false, true_and, and_true, Bool.false_eq_true, Bool.true_eq_false] at h) <;> try (exfalso; first | omega | (simp at h; done)))))
    all_goals (try refine vc_load2 17040 [5016] 5016 32 (0 + ((k : Int)).toNat) ((j : Int)).toNat ((turnP p b k j).sides.map digD) ((xorN (p.sides.getD k []) b j).map byteD) (.int .u8 (((xorN (p.sides.getD k []) b j).map byteD).getD ((j : Int)).toNat .nilp).toInt) rfl rfl rfl (row_at (by omega) j) rfl rfl rfl rfl rfl rfl rfl rfl rfl ?_ ?_)
    repeat' (first
        | ((with_reducible refine vc_chk ?_); first | decide +kernel | rfl)
        | (with_reducible refine vc_side0 ?_; rfl)
        | (with_reducible first
             | refine vc_true ?_ | refine vc_true2 ?_ | refine vc_side ?_ ?_ | refine vc_triv | refine vc_later ?_ | refine vc_caseT ?_ | refine vc_caseF ?_ | refine vc_cons ?_ | refine vc_nil ?_ ?_ | refine vc_seq ?_
                | refine vc_region ?_ | refine vc_cond ?_ | refine vc_block ?_ | refine vc_retc ?_ | refine vc_exit ?_ | refine vc_skip ?_ | refine vc_scope ?_ | refine vc_label ?_ | refine vc_goto ?_ | refine vc_wkSl0
                | refine vc_wkHp0 | refine vc_eqAVs0 | refine vc_preG0 | refine vc_wkSl ?_ ?_ | refine vc_wkHp ?_ ?_ | refine vc_eqAVs ?_ ?_ | refine vc_preG ?_ ?_ | refine vc_side0 ?_
                | refine vc_pure (tw (by omega) (dgSame h)) ?_ ?_ ?_ | refine vc_call [] q1 ?_ | refine vc_call [] q2 ?_ | refine vc_pure c1 ?_ ?_ ?_ | refine vc_pure c2 ?_ ?_ ?_ | refine vc_pure works8_ok ?_ ?_ ?_
                | refine vc_nextI (j + 1) [] ?_ ?_ ?_ ?_ ?_ ?_ | refine vc_weakf [] ?_ ?_ ?_ | refine vc_and ?_ ?_ | refine vc_ret [] [] ?_)
        | ((with_reducible first | refine vc_caseD (fun h => ?_) (fun h => ?_) | refine vc_caseN (fun h => ?_) (fun h => ?_)) <;> try (exfalso; omega))
        | ((with_reducible refine vc_case (fun h => ?_) (fun h => ?_)) <;> (try simp only [Bool.cond_true_left, Bool.cond_false_right, Bool.cond_true_right, Bool.cond_false_left, Bool.and_eq_true, Bool.or_eq_true, Bool.and_eq_false_iff, Bool.or_eq_false_iff, Bool.not_eq_true', Bool.not_eq_false', Bool.not_eq_true, Bool.not_eq_false, Bool.not_not, decide_eq_true_eq, decide_eq_false_iff_not, beq_iff_eq, beq_eq_false_iff_ne, bne_iff_ne, bne_eq_false_iff_eq, ne_eq, Classical.not_not, reduceCtorEq, false_or, or_false, true_and, and_true, Bool.false_eq_true, Bool.true_eq_false] at h) <;> try (exfalso; first | omega | (simp at h; done)))
        | (conv in Vc _ => arg 1; whnf
           first
            | (with_reducible refine vc_side0 ?_; rfl)
            | (with_reducible first
                | refine vc_true ?_ | refine vc_true2 ?_ | refine vc_side ?_ ?_ | refine vc_triv | refine vc_later ?_ | refine vc_caseT ?_ | refine vc_caseF ?_ | refine vc_cons ?_ | refine vc_nil ?_ ?_ | refine vc_seq ?_
                   | refine vc_region ?_ | refine vc_cond ?_ | refine vc_block ?_ | refine vc_retc ?_ | refine vc_exit ?_ | refine vc_skip ?_ | refine vc_scope ?_ | refine vc_label ?_ | refine vc_goto ?_ | refine vc_wkSl0
                   | refine vc_wkHp0 | refine vc_eqAVs0 | refine vc_preG0 | refine vc_wkSl ?_ ?_ | refine vc_wkHp ?_ ?_ | refine vc_eqAVs ?_ ?_ | refine vc_preG ?_ ?_ | refine vc_side0 ?_
                   | refine vc_pure (tw (by omega) (dgSame h)) ?_ ?_ ?_ | refine vc_call [] q1 ?_ | refine vc_call [] q2 ?_ | refine vc_pure c1 ?_ ?_ ?_ | refine vc_pure c2 ?_ ?_ ?_ | refine vc_pure works8_ok ?_ ?_ ?_
                   | refine vc_nextI (j + 1) [] ?_ ?_ ?_ ?_ ?_ ?_ | refine vc_weakf [] ?_ ?_ ?_ | refine vc_and ?_ ?_ | refine vc_ret [] [] ?_)
            | ((with_reducible first | refine vc_caseD (fun h => ?_) (fun h => ?_) | refine vc_caseN (fun h => ?_) (fun h => ?_)) <;> try (exfalso; omega))
            | ((with_reducible refine vc_case (fun h => ?_) (fun h => ?_)) <;> (try simp only [Bool.cond_true_left, Bool.cond_false_right, Bool.cond_true_right, Bool.cond_false_left, Bool.and_eq_true, Bool.or_eq_true, Bool.and_eq_false_iff, Bool.or_eq_false_iff, Bool.not_eq_true', Bool.not_eq_false', Bool.not_eq_true, Bool.not_eq_false, Bool.not_not, decide_eq_true_eq, decide_eq_false_iff_not, beq_iff_eq, beq_eq_false_iff_ne, bne_iff_ne, bne_eq_false_iff_eq, ne_eq, Classical.not_not, reduceCtorEq, false_or, or_false, true_and, and_true, Bool.false_eq_true, Bool.true_eq_false] at h) <;> try (exfalso; first | omega | (simp at h; done)))))
    all_goals (try refine vc_store2 17068 [5016] 5016 32 (0 + ((k : Int)).toNat) ((j : Int)).toNat ((turnP p b k j).sides.map digD) ((xorN (p.sides.getD k []) b j).map byteD) _ rfl rfl rfl rfl (row_at (by omega) j) rfl rfl rfl rfl rfl rfl rfl rfl rfl rfl ?_ ?_)
    repeat' (first
        | ((with_reducible refine vc_chk ?_); first | decide +kernel | rfl)
        | (with_reducible refine vc_side0 ?_; rfl)
        | (with_reducible first
             | refine vc_true ?_ | refine vc_true2 ?_ | refine vc_side ?_ ?_ | refine vc_triv | refine vc_later ?_ | refine vc_caseT ?_ | refine vc_caseF ?_ | refine vc_cons ?_ | refine vc_nil ?_ ?_ | refine vc_seq ?_
                | refine vc_region ?_ | refine vc_cond ?_ | refine vc_block ?_ | refine vc_retc ?_ | refine vc_exit ?_ | refine vc_skip ?_ | refine vc_scope ?_ | refine vc_label ?_ | refine vc_goto ?_ | refine vc_wkSl0
                | refine vc_wkHp0 | refine vc_eqAVs0 | refine vc_preG0 | refine vc_wkSl ?_ ?_ | refine vc_wkHp ?_ ?_ | refine vc_eqAVs ?_ ?_ | refine vc_preG ?_ ?_ | refine vc_side0 ?_
                | refine vc_pure (tw (by omega) (dgSame h)) ?_ ?_ ?_ | refine vc_call [] q1 ?_ | refine vc_call [] q2 ?_ | refine vc_pure c1 ?_ ?_ ?_ | refine vc_pure c2 ?_ ?_ ?_ | refine vc_pure works8_ok ?_ ?_ ?_
                | refine vc_nextI (j + 1) [] ?_ ?_ ?_ ?_ ?_ ?_ | refine vc_weakf [] ?_ ?_ ?_ | refine vc_and ?_ ?_ | refine vc_ret [] [] ?_)
        | ((with_reducible first | refine vc_caseD (fun h => ?_) (fun h => ?_) | refine vc_caseN (fun h => ?_) (fun h => ?_)) <;> try (exfalso; omega))
        | ((with_reducible refine vc_case (fun h => ?_) (fun h => ?_)) <;> (try simp only [Bool.cond_true_left, Bool.cond_false_right, Bool.cond_true_right, Bool.cond_false_left, Bool.and_eq_true, Bool.or_eq_true, Bool.and_eq_false_iff, Bool.or_eq_false_iff, Bool.not_eq_true', Bool.not_eq_false', Bool.not_eq_true, Bool.not_eq_false, Bool.not_not, decide_eq_true_eq, decide_eq_false_iff_not, beq_iff_eq, beq_eq_false_iff_ne, bne_iff_ne, bne_eq_false_iff_eq, ne_eq, Classical.not_not, reduceCtorEq, false_or, or_false, true_and, and_true, Bool.false_eq_true, Bool.true_eq_false] at h) <;> try (exfalso; first | omega | (simp at h; done)))
        | (conv in Vc _ => arg 1; whnf
           first
            | (with_reducible refine vc_side0 ?_; rfl)
            | (with_reducible first
                | refine vc_true ?_ | refine vc_true2 ?_ | refine vc_side ?_ ?_ | refine vc_triv | refine vc_later ?_ | refine vc_caseT ?_ | refine vc_caseF ?_ | refine vc_cons ?_ | refine vc_nil ?_ ?_ | refine vc_seq ?_
                   | refine vc_region ?_ | refine vc_cond ?_ | refine vc_block ?_ | refine vc_retc ?_ | refine vc_exit ?_ | refine vc_skip ?_ | refine vc_scope ?_ | refine vc_label ?_ | refine vc_goto ?_ | refine vc_wkSl0
                   | refine vc_wkHp0 | refine vc_eqAVs0 | refine vc_preG0 | refine vc_wkSl ?_ ?_ | refine vc_wkHp ?_ ?_ | refine vc_eqAVs ?_ ?_ | refine vc_preG ?_ ?_ | refine vc_side0 ?_
                   | refine vc_pure (tw (by omega) (dgSame h)) ?_ ?_ ?_ | refine vc_call [] q1 ?_ | refine vc_call [] q2 ?_ | refine vc_pure c1 ?_ ?_ ?_ | refine vc_pure c2 ?_ ?_ ?_ | refine vc_pure works8_ok ?_ ?_ ?_
                   | refine vc_nextI (j + 1) [] ?_ ?_ ?_ ?_ ?_ ?_ | refine vc_weakf [] ?_ ?_ ?_ | refine vc_and ?_ ?_ | refine vc_ret [] [] ?_)
            | ((with_reducible first | refine vc_caseD (fun h => ?_) (fun h => ?_) | refine vc_caseN (fun h => ?_) (fun h => ?_)) <;> try (exfalso; omega))
            | ((with_reducible refine vc_case (fun h => ?_) (fun h => ?_)) <;> (try simp only [Bool.cond_true_left, Bool.cond_false_right, Bool.cond_true_right, Bool.cond_false_left, Bool.and_eq_true, Bool.or_eq_true, Bool.and_eq_false_iff, Bool.or_eq_false_iff, Bool.not_eq_true', Bool.not_eq_false', Bool.not_eq_true, Bool.not_eq_false, Bool.not_not, decide_eq_true_eq, decide_eq_false_iff_not, beq_iff_eq, beq_eq_false_iff_ne, bne_iff_ne, bne_eq_false_iff_eq, ne_eq, Classical.not_not, reduceCtorEq, false_or, or_false, true_and, and_true, Bool.false_eq_true, Bool.true_eq_false] at h) <;> try (exfalso; first | omega | (simp at h; done)))))
    all_goals (try simp only [Int.toNat_natCast, Nat.zero_add, List.nil_append, List.drop_zero, List.take_length])
    all_goals first
      | with_reducible rfl
      | omega
      | exact ⟨fits_dig 6 _, fits_dig 6 _⟩
      | exact ⟨fits_dig 6 _, fits_dig 6 zero32⟩
      | exact ⟨trivial, trivial, trivial, trivial⟩
      | exact ⟨⟨trivial, rfl, room32' (by rw [lp]; omega)⟩, digs_size _⟩
      | exact ⟨Nat.le_refl _, trivial, trivial, trivial, trivial⟩
      | (show IntKind.u64.wrap (IntKind.i64.wrap (((p.sides.map digD).length : Int) + 2)) ≠ 0; rw [wrap64_id (by omega) (by omega), wrapU64_id (by omega) (by omega)]; omega)
      | exact congrArg (D.int .i64) (by rw [lp]; exact k1 (by assumption))
      | exact congrArg (D.int .i64) (by rw [lp]; exact k2 (by assumption) (by omega))
      | (rw [turnP_zero hp]; first | done | rfl)
      | exact end32 (by omega)
      | exact st_a (by omega)
      | exact st_b hb (by omega) (by omega)
      | exact st_c hb (by omega) (by omega) (by omega)
      | exact row_a hb (by omega) (by omega)
      | exact row_b (by omega)
      | exact ⟨by omega, by omega⟩
      | exact ⟨by omega, by rw [lq]; omega⟩
      | exact ⟨by rw [lq]; omega, by omega⟩
      | exact ⟨⟨by rw [lq]; omega, by omega, trivial⟩, by rw [getD_byte (by rw [xorN_length]; omega)]; rfl⟩
      | exact ⟨⟨by omega, trivial⟩, by rw [getD_byte (by omega)]; rfl⟩
      | exact ⟨⟨by omega, trivial⟩, by rw [getD_byte (by rw [(turnP_wf hp _).3]; omega)]; rfl⟩
      | exact ⟨⟨by omega, trivial⟩, by rw [getD_byte (by rw [(turnP_wf hp _).2]; omega)]; rfl⟩
      | (rw [wrap64_id (by omega) (by omega)]; rfl)
      | rfl
      | trace_state
  · refine vc_fn mixed Try.func6 rfl rfl [] (vc_chk rfl) ?_
    repeat' (first
        | ((with_reducible refine vc_chk ?_); first | decide +kernel | rfl)
        | (with_reducible refine vc_side0 ?_; rfl)
        | (with_reducible first
             | refine vc_true ?_ | refine vc_true2 ?_ | refine vc_side ?_ ?_ | refine vc_triv | refine vc_later ?_ | refine vc_caseT ?_ | refine vc_caseF ?_ | refine vc_cons ?_ | refine vc_nil ?_ ?_ | refine vc_seq ?_
                | refine vc_region ?_ | refine vc_cond ?_ | refine vc_block ?_ | refine vc_retc ?_ | refine vc_exit ?_ | refine vc_skip ?_ | refine vc_scope ?_ | refine vc_label ?_ | refine vc_goto ?_ | refine vc_wkSl0
                | refine vc_wkHp0 | refine vc_eqAVs0 | refine vc_preG0 | refine vc_wkSl ?_ ?_ | refine vc_wkHp ?_ ?_ | refine vc_eqAVs ?_ ?_ | refine vc_preG ?_ ?_ | refine vc_side0 ?_ | refine vc_pure f1 ?_ ?_ ?_
                | refine vc_pure works8_ok ?_ ?_ ?_ | refine vc_weakf [] ?_ ?_ ?_ | refine vc_and ?_ ?_ | refine vc_ret [] [] ?_)
        | ((with_reducible first | refine vc_caseD (fun h => ?_) (fun h => ?_) | refine vc_caseN (fun h => ?_) (fun h => ?_)) <;> try (exfalso; omega))
        | ((with_reducible refine vc_case (fun h => ?_) (fun h => ?_)) <;> (try simp only [Bool.cond_true_left, Bool.cond_false_right, Bool.cond_true_right, Bool.cond_false_left, Bool.and_eq_true, Bool.or_eq_true, Bool.and_eq_false_iff, Bool.or_eq_false_iff, Bool.not_eq_true', Bool.not_eq_false', Bool.not_eq_true, Bool.not_eq_false, Bool.not_not, decide_eq_true_eq, decide_eq_false_iff_not, beq_iff_eq, beq_eq_false_iff_ne, bne_iff_ne, bne_eq_false_iff_eq, ne_eq, Classical.not_not, reduceCtorEq, false_or, or_false, true_and, and_true, Bool.false_eq_true, Bool.true_eq_false] at h) <;> try (exfalso; first | omega | (simp at h; done)))
        | (conv in Vc _ => arg 1; whnf
           first
            | (with_reducible refine vc_side0 ?_; rfl)
            | (with_reducible first
                | refine vc_true ?_ | refine vc_true2 ?_ | refine vc_side ?_ ?_ | refine vc_triv | refine vc_later ?_ | refine vc_caseT ?_ | refine vc_caseF ?_ | refine vc_cons ?_ | refine vc_nil ?_ ?_ | refine vc_seq ?_
                   | refine vc_region ?_ | refine vc_cond ?_ | refine vc_block ?_ | refine vc_retc ?_ | refine vc_exit ?_ | refine vc_skip ?_ | refine vc_scope ?_ | refine vc_label ?_ | refine vc_goto ?_ | refine vc_wkSl0
                   | refine vc_wkHp0 | refine vc_eqAVs0 | refine vc_preG0 | refine vc_wkSl ?_ ?_ | refine vc_wkHp ?_ ?_ | refine vc_eqAVs ?_ ?_ | refine vc_preG ?_ ?_ | refine vc_side0 ?_ | refine vc_pure f1 ?_ ?_ ?_
                   | refine vc_pure works8_ok ?_ ?_ ?_ | refine vc_weakf [] ?_ ?_ ?_ | refine vc_and ?_ ?_ | refine vc_ret [] [] ?_)
            | ((with_reducible first | refine vc_caseD (fun h => ?_) (fun h => ?_) | refine vc_caseN (fun h => ?_) (fun h => ?_)) <;> try (exfalso; omega))
            | ((with_reducible refine vc_case (fun h => ?_) (fun h => ?_)) <;> (try simp only [Bool.cond_true_left, Bool.cond_false_right, Bool.cond_true_right, Bool.cond_false_left, Bool.and_eq_true, Bool.or_eq_true, Bool.and_eq_false_iff, Bool.or_eq_false_iff, Bool.not_eq_true', Bool.not_eq_false', Bool.not_eq_true, Bool.not_eq_false, Bool.not_not, decide_eq_true_eq, decide_eq_false_iff_not, beq_iff_eq, beq_eq_false_iff_ne, bne_iff_ne, bne_eq_false_iff_eq, ne_eq, Classical.not_not, reduceCtorEq, false_or, or_false, true_and, and_true, Bool.false_eq_true, Bool.true_eq_false] at h) <;> try (exfalso; first | omega | (simp at h; done)))))
    all_goals first
      | with_reducible rfl
      | omega
      | exact ⟨trivial, trivial⟩
      | exact ⟨trivial, trivial, trivial⟩
      | exact ⟨trivial, trivial, trivial, trivial⟩
      | exact ⟨⟨by decide, by decide, by decide⟩, trivial⟩
      | exact ⟨Nat.le_of_eq (Nat.zero_add _), trivial⟩
      | exact ⟨Nat.le_refl _, trivial, trivial⟩
      | (rw [wrap64_id (by omega) (by omega)]; rfl)
      | rfl
      | (exfalso; simp at h; done)
      | skip
    all_goals trace_state

end Go.Proofs.Ytpeglanfbmpoeaa
