import Derived.Test.YtcdjheiccefcdaaJ8
import Derived.Test.YtcdjheiccefcdaaJ10
set_option linter.unusedSimpArgs false
set_option linter.unusedVariables false
/-
What a seed signs, epoch by epoch; signatures that break something.
-/
set_option linter.unusedSimpArgs false
set_option linter.unusedVariables false
namespace Go.Proofs.Ytcdjheiccefcdaa
open Go.Sym
set_option maxRecDepth 10000
set_option maxHeartbeats 4000000

/-- What a seed signs over trees. -/
def honH (seed : List UInt8) (ts : List (List UInt8)) : Nat → Hd
  | 0 => hdP (pubH seed 1)
  | i + 1 => folY (sealS seed (honH seed ts i) (ts.getD i []))
def honN (seed : List UInt8) (ts : List (List UInt8)) : Nat → List Sgn
  | 0 => []
  | i + 1 => honN seed ts i ++ [sealS seed (honH seed ts i) (ts.getD i [])]
theorem honN_length (seed : List UInt8) (ts : List (List UInt8)) : ∀ i, (honN seed ts i).length = i
  | 0 => rfl
  | i + 1 => by simp [honN, honN_length seed ts i]
theorem honH_epoch (seed : List UInt8) (ts : List (List UInt8)) : ∀ i, (honH seed ts i).epoch = i
  | 0 => rfl
  | i + 1 => by show (honH seed ts i).epoch + 1 = i + 1; rw [honH_epoch seed ts i]
theorem honH_wf (seed : List UInt8) {ts : List (List UInt8)} (ht : ∀ t, t ∈ ts → t.length = 32) : ∀ i, i ≤ ts.length → i ≤ 60 → wfH (honH seed ts i)
  | 0, _, _ => wf_hdP (pubH_length _ _)
  | i + 1, h, h2 => wf_folY (wf_seal seed (honH_wf seed ht i (by omega) (by omega)) (by rw [honH_epoch]; omega) (ht _ (by rw [List.getD_eq_getElem?_getD, List.getElem?_eq_getElem (by omega)]; simp)))
theorem honN_at (seed : List UInt8) (ts : List (List UInt8)) : ∀ n i, i < n → (honN seed ts n).getD i s0 = sealS seed (honH seed ts i) (ts.getD i [])
  | 0, i, h => absurd h (Nat.not_lt_zero i)
  | n + 1, i, h => by
    have hl := honN_length seed ts n
    by_cases e : i = n
    · subst e
      simp [honN, List.getD_eq_getElem?_getD, hl]
    · have := honN_at seed ts n i (by omega)
      rw [List.getD_eq_getElem?_getD] at this ⊢
      show ((honN seed ts n ++ [_])[i]?).getD s0 = _
      rw [List.getElem?_append_left (by omega)]; exact this
theorem honN_wf (seed : List UInt8) {ts : List (List UInt8)} (ht : ∀ t, t ∈ ts → t.length = 32) {n : Nat} (hn : n ≤ ts.length) (h60 : n ≤ 60) : ∀ s, s ∈ honN seed ts n → wfS s := fun s hs => by
  obtain ⟨i, hi, rfl⟩ := List.getElem_of_mem hs
  rw [honN_length] at hi
  have e := honN_at seed ts n i hi
  rw [List.getD_eq_getElem?_getD, List.getElem?_eq_getElem (by rw [honN_length]; exact hi)] at e
  show wfS ((honN seed ts n)[i])
  rw [show (honN seed ts n)[i] = _ from e]
  exact wf_seal seed (honH_wf seed ht i (by omega) (by omega)) (by rw [honH_epoch]; omega) (ht _ (by rw [List.getD_eq_getElem?_getD, List.getElem?_eq_getElem (by omega)]; simp))

theorem rPin_ok (seed : List UInt8) (hs : seed.length = 32) : LocalCall Try.prog 18 [.d (.arr 32 1 (seed.map byteD))] [] [] (one [.d (.arr 32 1 ((pubH seed 1).map byteD))]) [] := by
  have c1 := rPublic_ok seed hs 1 (by decide)
  refine vc_fn mixed Try.func18 rfl rfl [] (vc_chk rfl) ?_
  repeat' (first
      | ((with_reducible refine vc_chk ?_); first | decide +kernel | rfl)
      | (with_reducible refine vc_side0 ?_; rfl)
      | (with_reducible first
           | refine vc_true ?_ | refine vc_true2 ?_ | refine vc_side ?_ ?_ | refine vc_triv | refine vc_later ?_ | refine vc_caseT ?_ | refine vc_caseF ?_ | refine vc_cons ?_ | refine vc_nil ?_ ?_ | refine vc_seq ?_
              | refine vc_region ?_ | refine vc_cond ?_ | refine vc_block ?_ | refine vc_retc ?_ | refine vc_exit ?_ | refine vc_skip ?_ | refine vc_scope ?_ | refine vc_label ?_ | refine vc_goto ?_ | refine vc_wkSl0
              | refine vc_wkHp0 | refine vc_eqAVs0 | refine vc_preG0 | refine vc_wkSl ?_ ?_ | refine vc_wkHp ?_ ?_ | refine vc_eqAVs ?_ ?_ | refine vc_preG ?_ ?_ | refine vc_side0 ?_ | refine vc_pure c1 ?_ ?_ ?_
              | refine vc_weakf [] ?_ ?_ ?_ | refine vc_and ?_ ?_ | refine vc_ret [] [] ?_)
      | ((with_reducible first | refine vc_caseD (fun h => ?_) (fun h => ?_) | refine vc_caseN (fun h => ?_) (fun h => ?_)) <;> try (exfalso; omega))
      | ((with_reducible refine vc_case (fun h => ?_) (fun h => ?_)) <;> (try simp only [Go.Sym.vs1, reduceCtorEq] at h) <;> try (exfalso; first | omega | (simp at h; done)))
      | (conv in Vc _ => arg 1; whnf
         first
          | (with_reducible refine vc_side0 ?_; rfl)
          | (with_reducible first
              | refine vc_true ?_ | refine vc_true2 ?_ | refine vc_side ?_ ?_ | refine vc_triv | refine vc_later ?_ | refine vc_caseT ?_ | refine vc_caseF ?_ | refine vc_cons ?_ | refine vc_nil ?_ ?_ | refine vc_seq ?_
                 | refine vc_region ?_ | refine vc_cond ?_ | refine vc_block ?_ | refine vc_retc ?_ | refine vc_exit ?_ | refine vc_skip ?_ | refine vc_scope ?_ | refine vc_label ?_ | refine vc_goto ?_ | refine vc_wkSl0
                 | refine vc_wkHp0 | refine vc_eqAVs0 | refine vc_preG0 | refine vc_wkSl ?_ ?_ | refine vc_wkHp ?_ ?_ | refine vc_eqAVs ?_ ?_ | refine vc_preG ?_ ?_ | refine vc_side0 ?_ | refine vc_pure c1 ?_ ?_ ?_
                 | refine vc_weakf [] ?_ ?_ ?_ | refine vc_and ?_ ?_ | refine vc_ret [] [] ?_)
          | ((with_reducible first | refine vc_caseD (fun h => ?_) (fun h => ?_) | refine vc_caseN (fun h => ?_) (fun h => ?_)) <;> try (exfalso; omega))
          | ((with_reducible refine vc_case (fun h => ?_) (fun h => ?_)) <;> (try simp only [Go.Sym.vs1, reduceCtorEq] at h) <;> try (exfalso; first | omega | (simp at h; done)))))
  all_goals first
    | with_reducible rfl
    | omega
    | exact ⟨trivial, trivial⟩
    | exact ⟨trivial, trivial, trivial⟩
    | exact ⟨trivial, trivial, trivial, trivial⟩
    | exact ⟨⟨by decide, by decide, by decide⟩, trivial⟩
    | exact ⟨Nat.le_of_eq (Nat.zero_add _), trivial⟩
    | exact ⟨Nat.le_refl _, trivial, trivial⟩
    | (rw [wrap64_id (by omega) (by omega)]; rfl)
    | rfl
    | (exfalso; simp at h; done)
    | skip

theorem rHonest_ok (seed : List UInt8) (hs : seed.length = 32) (ts : List (List UInt8)) (ht : ∀ t, t ∈ ts → t.length = 32) (hm : ts.length ≤ 60) :
    LocalCall Try.prog 19 [.d (.arr 32 1 (seed.map byteD)), .d (.sl (ts.map digD))] [] [] (one [.d (.sl ((honN seed ts ts.length).map sD))]) [] := by
  have lt : (ts.map digD).length = ts.length := List.length_map _
  have tl : ∀ i, i < ts.length → (ts.getD i []).length = 32 := fun i hi => ht _ (by rw [List.getD_eq_getElem?_getD, List.getElem?_eq_getElem hi]; simp)
  have c1 := rPin_ok seed hs
  have sl : ∀ i : Nat, i < ts.length → LocalCall Try.prog 40 [.d (.arr 32 1 (seed.map byteD)), .d (hdD (honH seed ts i)), .d (.arr 32 1 ((ts.getD i []).map byteD))] [] [] (one [.d (sD (sealS seed (honH seed ts i) (ts.getD i []))), .d (.int .i64 0)]) [] := fun i hi => by
    have c := rSeal_ok seed hs (honH seed ts i) (honH_wf seed ht i (by omega) (by omega)) _ (tl i hi)
    unfold sealR sealE at c
    rwa [decide_eq_false (show ¬ 64 ≤ (honH seed ts i).epoch by rw [honH_epoch]; omega), cond_false, cond_false] at c
  have rt : ∀ i : Nat, i < ts.length → _ := fun i hi => rRoot_ok (sealRt seed (honH seed ts i) (ts.getD i [])) (wf_seal seed (honH_wf seed ht i (by omega) (by omega)) (by rw [honH_epoch]; omega) (tl i hi)).wfR
  refine vc_fn mixed Try.func19 rfl rfl [(500001, [9098005])] (vc_chk rfl) ?_
  repeat' (first
      | ((with_reducible refine vc_chk ?_); first | decide +kernel | rfl)
      | (with_reducible refine vc_side0 ?_; rfl)
      | (with_reducible first
           | refine vc_true ?_ | refine vc_true2 ?_ | refine vc_side ?_ ?_ | refine vc_triv | refine vc_later ?_ | refine vc_caseT ?_ | refine vc_caseF ?_ | refine vc_cons ?_ | refine vc_nil ?_ ?_ | refine vc_seq ?_
              | refine vc_region ?_ | refine vc_cond ?_ | refine vc_block ?_ | refine vc_retc ?_ | refine vc_exit ?_ | refine vc_skip ?_ | refine vc_scope ?_ | refine vc_label ?_ | refine vc_goto ?_ | refine vc_wkSl0
              | refine vc_wkHp0 | refine vc_eqAVs0 | refine vc_preG0 | refine vc_wkSl ?_ ?_ | refine vc_wkHp ?_ ?_ | refine vc_eqAVs ?_ ?_ | refine vc_preG ?_ ?_ | refine vc_side0 ?_ | refine vc_call [] c1 ?_
              | refine vc_call [] (sl i (by omega)) ?_ | refine vc_call [] (rt i (by omega)) ?_
              | refine vc_loopI 47 (fun (i : Nat) => [(1, .d (.sl (ts.map digD))), (2, .ptr 1000 []), (5, .sl 9 [] 98 0 ((honN seed ts i).map sD).length), (6, .ptr 3012 []), (7, .d (.int .i64 (i : Int)))]) (fun i => [(1000, .var (.d (.arr 32 1 (seed.map byteD)))), (3012, .var (.d (hdD (honH seed ts i)))), (9, .row 98 ((honN seed ts i).map sD))]) (fun i => ts.length - i) (fun i => i ≤ ts.length) 0 [] ?_ ?_ ?_ ?_ ?_ (fun i hI => ?_)
              | refine vc_nextI (i + 1) [(9, 10012)] ?_ ?_ ?_ ?_ ?_ ?_ | refine vc_ret [true] [] ?_ | refine vc_weakf [] ?_ ?_ ?_ | refine vc_and ?_ ?_ | refine vc_ret [] [] ?_)
      | ((with_reducible first | refine vc_caseD (fun h => ?_) (fun h => ?_) | refine vc_caseN (fun h => ?_) (fun h => ?_)) <;> try (exfalso; omega))
      | ((with_reducible refine vc_case (fun h => ?_) (fun h => ?_)) <;> (try simp only [Go.Sym.vs1, reduceCtorEq] at h) <;> try (exfalso; first | omega | (simp at h; done)))
      | (conv in Vc _ => arg 1; whnf
         first
          | (with_reducible refine vc_side0 ?_; rfl)
          | (with_reducible first
              | refine vc_true ?_ | refine vc_true2 ?_ | refine vc_side ?_ ?_ | refine vc_triv | refine vc_later ?_ | refine vc_caseT ?_ | refine vc_caseF ?_ | refine vc_cons ?_ | refine vc_nil ?_ ?_ | refine vc_seq ?_
                 | refine vc_region ?_ | refine vc_cond ?_ | refine vc_block ?_ | refine vc_retc ?_ | refine vc_exit ?_ | refine vc_skip ?_ | refine vc_scope ?_ | refine vc_label ?_ | refine vc_goto ?_ | refine vc_wkSl0
                 | refine vc_wkHp0 | refine vc_eqAVs0 | refine vc_preG0 | refine vc_wkSl ?_ ?_ | refine vc_wkHp ?_ ?_ | refine vc_eqAVs ?_ ?_ | refine vc_preG ?_ ?_ | refine vc_side0 ?_ | refine vc_call [] c1 ?_
                 | refine vc_call [] (sl i (by omega)) ?_ | refine vc_call [] (rt i (by omega)) ?_
                 | refine vc_loopI 47 (fun (i : Nat) => [(1, .d (.sl (ts.map digD))), (2, .ptr 1000 []), (5, .sl 9 [] 98 0 ((honN seed ts i).map sD).length), (6, .ptr 3012 []), (7, .d (.int .i64 (i : Int)))]) (fun i => [(1000, .var (.d (.arr 32 1 (seed.map byteD)))), (3012, .var (.d (hdD (honH seed ts i)))), (9, .row 98 ((honN seed ts i).map sD))]) (fun i => ts.length - i) (fun i => i ≤ ts.length) 0 [] ?_ ?_ ?_ ?_ ?_ (fun i hI => ?_)
                 | refine vc_nextI (i + 1) [(9, 10012)] ?_ ?_ ?_ ?_ ?_ ?_ | refine vc_ret [true] [] ?_ | refine vc_weakf [] ?_ ?_ ?_ | refine vc_and ?_ ?_ | refine vc_ret [] [] ?_)
          | ((with_reducible first | refine vc_caseD (fun h => ?_) (fun h => ?_) | refine vc_caseN (fun h => ?_) (fun h => ?_)) <;> try (exfalso; omega))
          | ((with_reducible refine vc_case (fun h => ?_) (fun h => ?_)) <;> (try simp only [Go.Sym.vs1, reduceCtorEq] at h) <;> try (exfalso; first | omega | (simp at h; done)))))
  all_goals (try have hi : i < ts.length := by omega)
  all_goals (try simp only [Int.toNat_natCast, dig_at hi])
  all_goals first
    | with_reducible rfl
    | omega
    | exact ⟨⟨by omega, by omega⟩, rfl⟩
    | exact ⟨⟨Nat.le_refl _, by first | trivial | rfl, room128 (by rw [List.length_append, List.length_map, honN_length]; show _ + 1 ≤ _; omega)⟩, fun y hy => (by rw [List.mem_singleton.1 hy]; rfl)⟩
    | exact ⟨trivial, trivial, trivial, trivial⟩
    | (show _ = _ ; rw [honN, List.map_append, List.length_append, List.length_append]; rfl)
    | (show _ = _ ; rw [honN, List.map_append]; rfl)
    | (rw [wrap64_id (by omega) (by omega)]; rfl)
    | exact ⟨Nat.le_of_eq (Nat.zero_add _), trivial⟩
    | (rw [List.drop_zero, List.take_length, show i = ts.length by omega])
    | rfl
    | trace_state

theorem bstr {a b : List UInt8} (h : (⟨(bytesOf (a.map byteD)).toArray⟩ : ByteArray).toList = (⟨(bytesOf (b.map byteD)).toArray⟩ : ByteArray).toList) : a = b := by
  rwa [ByteArray.toList_eq, ByteArray.toList_eq, bytesOf_map, bytesOf_map] at h
theorem bstrNe {a b : List UInt8} (h : ¬ a = b) : (D.bool !(⟨(bytesOf (a.map byteD)).toArray⟩ : ByteArray).toList == (⟨(bytesOf (b.map byteD)).toArray⟩ : ByteArray).toList) = D.bool true := by
  rw [ByteArray.toList_eq, ByteArray.toList_eq, bytesOf_map, bytesOf_map]
  show D.bool (!(a == b)) = _
  rw [beq_eq_false_iff_ne.2 h]; rfl
theorem digY {a b : List UInt8} (h : a = b) : D.bool (bif false then !(D.arr (31 + 1) (0 + 1) (a.map byteD)).beq (D.arr (31 + 1) (0 + 1) (b.map byteD)) else (D.arr (31 + 1) (0 + 1) (a.map byteD)).beq (D.arr (31 + 1) (0 + 1) (b.map byteD))) = D.bool true := by
  rw [beq_dig, h, decide_eq_true rfl]; rfl
theorem brk_step {w b : List UInt8} {i n : Nat} (_h0 : i ≤ 256) (hi : i < 256) (h : ∀ j, j < i → bitB w j = bitB b j) (e : bitB w i = bitB b i) (hn : 0 < n) : i + 1 ≤ 256 ∧ (n = 0 → i + 1 = 0) ∧ ∀ j, j < i + 1 → bitB w j = bitB b j :=
  ⟨hi, fun h0 => absurd hn (by omega), fun j hj => by
    by_cases hj2 : j = i
    · rw [hj2]; exact e
    · exact h j (by omega)⟩

/-- A signature that a key takes, of bytes that the key's seed did not sign. -/
theorem breaks_ok (seed : List UInt8) (hs : seed.length = 32) (key : Nat) (hk : key < 2 ^ 64) (was : List UInt8) (hwl : was.length < 2 ^ 28) (s : Sgn) (hw : wfS s) (hc : checkE (pubH seed key) (rootB s.root) s.sig = 0) (hne : ¬ was = rootB s.root) :
    LocalCall Try.prog 21 [.d (.arr 32 1 (seed.map byteD)), .d (.int .u64 (key : Int)), .d (.sl (was.map byteD)), .d (sD s)] [] [] (one [.d (.bool true)]) [] := by
  have c0 := rRootBytes_ok s.root hw.wfR
  have lb : (rootB s.root).length < 2 ^ 28 := by rw [rootB_length hw.wfR]; decide
  generalize rootB s.root = b at *
  have c1 := rOf_ok was hwl
  have c2 := rOf_ok b lb
  have c3 := rOpened_ok b s.sig lb
  have c4 := lrText_ok seed hs key hk
  have lS : s.sig.length = 16384 := by
    unfold checkE at hc
    by_cases h : s.sig.length = 16384
    · exact h
    · rw [decide_eq_false h, Bool.false_and, cond_false] at hc; cases hc
  have hO : openT b s.sig = openP (shaB b) s.sig := by unfold openT; rw [decide_eq_true lS]; rfl
  have hE : openE s.sig = 0 := by unfold openE; rw [decide_eq_true lS]; rfl
  have hT : shaB (openP (shaB b) s.sig) = shaB (textP (keyH seed key)) := by
    unfold checkE at hc
    rw [decide_eq_true lS, Bool.true_and] at hc
    by_cases h : shaB (openP (shaB b) s.sig) = pubH seed key
    · exact h
    · rw [decide_eq_false h, cond_false] at hc; cases hc
  have hX : openP (shaB b) s.sig = textP (keyH seed key) → ∀ i, i < 256 → shaB (sigX s.sig i) = shaB (keyH seed key i (bitB (shaB b) i)) := fun h i hi => open_text lS h hi
  rw [hO, hE] at c3
  have lT : (textP (keyH seed key)).length = 16385 := textP_length _
  have lO : (openP (shaB b) s.sig).length = 16385 := openP_length _ lS
  generalize openP (shaB b) s.sig = O at *
  generalize textP (keyH seed key) = T at *
  have c5 := rOf_ok O (by rw [lO]; decide)
  have c6 := rOf_ok T (by rw [lT]; decide)
  have cb : ∀ (d : List UInt8) (i : Nat), i < 256 → d.length = 32 → LocalCall Try.prog 47 [.d (.arr 32 1 (d.map byteD)), .d (.int .i64 (i : Int))] [] [] (one [.d (.bool (bitB d i))]) [] := fun d i hi hd => by
    have h := rBit_ok (d.map byteD) d rfl hd (i : Int)
    rwa [bitI_nat d hi] at h
  have b1 : ∀ i : Nat, i < 256 → _ := fun i hi => cb (shaB b) i hi (shaB_length b)
  have b2 : ∀ i : Nat, i < 256 → _ := fun i hi => cb (shaB was) i hi (shaB_length was)
  have p1 : ∀ i : Nat, i < 256 → bitB (shaB b) i = true → LocalCall Try.prog 48 [.d (.arr 32 1 (seed.map byteD)), .d (.int .u64 (key : Int)), .d (.int .i64 (i : Int)), .d (.int .i64 1)] [] [] (one [.d (.arr 32 1 ((keyH seed key i (bitB (shaB b) i)).map byteD))]) [] := fun i hi h => by
    rw [h]; exact rKeyOf_ok seed hs key hk i hi 1 (.inr rfl)
  have p0 : ∀ i : Nat, i < 256 → bitB (shaB b) i = false → LocalCall Try.prog 48 [.d (.arr 32 1 (seed.map byteD)), .d (.int .u64 (key : Int)), .d (.int .i64 (i : Int)), .d (.int .i64 0)] [] [] (one [.d (.arr 32 1 ((keyH seed key i (bitB (shaB b) i)).map byteD))]) [] := fun i hi h => by
    rw [h]; exact rKeyOf_ok seed hs key hk i hi 0 (.inl rfl)
  have ch : ∀ i : Nat, _ := fun i => rOf_ok (keyH seed key i (bitB (shaB b) i)) (by rw [keyH_length]; decide)
  have cx : ∀ i : Nat, i < 256 → LocalCall Try.prog 44 [.d (.sl (cutD (s.sig.map byteD) (IntKind.i64.wrap (64 * (i : Int))) (IntKind.i64.wrap (IntKind.i64.wrap (64 * (i : Int)) + 32))))] [] [] (one [.d (.arr 32 1 ((shaB (sigX s.sig i)).map byteD))]) [] := fun i hi => by
    rw [rsig_x lS hi]; exact rOf_ok _ (by rw [sigX_length lS hi]; decide)
  have lw : (was.map byteD).length = was.length := List.length_map _
  refine vc_fn mixed Try.func21 rfl rfl [] (vc_chk rfl) ?_
  repeat' (first
      | ((with_reducible refine vc_chk ?_); first | decide +kernel | rfl)
      | (with_reducible refine vc_side0 ?_; rfl)
      | (with_reducible first
           | refine vc_true ?_ | refine vc_true2 ?_ | refine vc_side ?_ ?_ | refine vc_triv | refine vc_later ?_ | refine vc_caseT ?_ | refine vc_caseF ?_ | refine vc_cons ?_ | refine vc_nil ?_ ?_ | refine vc_seq ?_
              | refine vc_region ?_ | refine vc_cond ?_ | refine vc_block ?_ | refine vc_retc ?_ | refine vc_exit ?_ | refine vc_skip ?_ | refine vc_scope ?_ | refine vc_label ?_ | refine vc_goto ?_ | refine vc_wkSl0
              | refine vc_wkHp0 | refine vc_eqAVs0 | refine vc_preG0 | refine vc_wkSl ?_ ?_ | refine vc_wkHp ?_ ?_ | refine vc_eqAVs ?_ ?_ | refine vc_preG ?_ ?_ | refine vc_side0 ?_ | refine vc_pure c0 ?_ ?_ ?_
              | refine vc_pure c1 ?_ ?_ ?_ | refine vc_pure c2 ?_ ?_ ?_ | refine vc_pure c3 ?_ ?_ ?_ | refine vc_pure c4 ?_ ?_ ?_ | refine vc_pure c5 ?_ ?_ ?_ | refine vc_pure c6 ?_ ?_ ?_
              | refine vc_pure (b1 i (by omega)) ?_ ?_ ?_ | refine vc_pure (b2 i (by omega)) ?_ ?_ ?_ | refine vc_pure (p1 i (by omega) (by assumption)) ?_ ?_ ?_ | refine vc_pure (p0 i (by omega) (by assumption)) ?_ ?_ ?_
              | refine vc_pure (cx i (by omega)) ?_ ?_ ?_ | refine vc_call [true] (ch i) ?_
              | refine vc_loopI 98 (fun (i : Nat) => [(1, .d (.int .u64 (key : Int))), (2, .d (.sl (was.map byteD))), (4, .ptr 1000 []), (7, .ptr 1004 []), (13, .ptr 11016 []), (14, .ptr 11020 []), (15, .d (.int .i64 (i : Int)))]) (fun _ => [(1000, .var (.d (.arr 32 1 (seed.map byteD)))), (1004, .var (.d (sD s))), (11016, .var (.d (.arr 32 1 ((shaB was).map byteD)))), (11020, .var (.d (.arr 32 1 ((shaB b).map byteD))))]) (fun i => 256 - i) (fun i => i ≤ 256 ∧ (was.length = 0 → i = 0) ∧ ∀ j, j < i → bitB (shaB was) j = bitB (shaB b) j) 0 [] ?_ ?_ ?_ ?_ ?_ (fun i hI => ?_)
              | refine vc_nextI (i + 1) [] ?_ ?_ ?_ ?_ ?_ ?_ | refine vc_weakf [] ?_ ?_ ?_ | refine vc_and ?_ ?_ | refine vc_ret [] [] ?_)
      | ((with_reducible first | refine vc_caseD (fun h => ?_) (fun h => ?_) | refine vc_caseN (fun h => ?_) (fun h => ?_)) <;> try (exfalso; omega))
      | ((with_reducible refine vc_case (fun h => ?_) (fun h => ?_)) <;> (try simp only [Go.Sym.vs1, reduceCtorEq] at h) <;> try (exfalso; first | omega | (simp at h; done)))
      | (conv in Vc _ => arg 1; whnf
         first
          | (with_reducible refine vc_side0 ?_; rfl)
          | (with_reducible first
              | refine vc_true ?_ | refine vc_true2 ?_ | refine vc_side ?_ ?_ | refine vc_triv | refine vc_later ?_ | refine vc_caseT ?_ | refine vc_caseF ?_ | refine vc_cons ?_ | refine vc_nil ?_ ?_ | refine vc_seq ?_
                 | refine vc_region ?_ | refine vc_cond ?_ | refine vc_block ?_ | refine vc_retc ?_ | refine vc_exit ?_ | refine vc_skip ?_ | refine vc_scope ?_ | refine vc_label ?_ | refine vc_goto ?_ | refine vc_wkSl0
                 | refine vc_wkHp0 | refine vc_eqAVs0 | refine vc_preG0 | refine vc_wkSl ?_ ?_ | refine vc_wkHp ?_ ?_ | refine vc_eqAVs ?_ ?_ | refine vc_preG ?_ ?_ | refine vc_side0 ?_ | refine vc_pure c0 ?_ ?_ ?_
                 | refine vc_pure c1 ?_ ?_ ?_ | refine vc_pure c2 ?_ ?_ ?_ | refine vc_pure c3 ?_ ?_ ?_ | refine vc_pure c4 ?_ ?_ ?_ | refine vc_pure c5 ?_ ?_ ?_ | refine vc_pure c6 ?_ ?_ ?_
                 | refine vc_pure (b1 i (by omega)) ?_ ?_ ?_ | refine vc_pure (b2 i (by omega)) ?_ ?_ ?_ | refine vc_pure (p1 i (by omega) (by assumption)) ?_ ?_ ?_ | refine vc_pure (p0 i (by omega) (by assumption)) ?_ ?_ ?_
                 | refine vc_pure (cx i (by omega)) ?_ ?_ ?_ | refine vc_call [true] (ch i) ?_
                 | refine vc_loopI 98 (fun (i : Nat) => [(1, .d (.int .u64 (key : Int))), (2, .d (.sl (was.map byteD))), (4, .ptr 1000 []), (7, .ptr 1004 []), (13, .ptr 11016 []), (14, .ptr 11020 []), (15, .d (.int .i64 (i : Int)))]) (fun _ => [(1000, .var (.d (.arr 32 1 (seed.map byteD)))), (1004, .var (.d (sD s))), (11016, .var (.d (.arr 32 1 ((shaB was).map byteD)))), (11020, .var (.d (.arr 32 1 ((shaB b).map byteD))))]) (fun i => 256 - i) (fun i => i ≤ 256 ∧ (was.length = 0 → i = 0) ∧ ∀ j, j < i → bitB (shaB was) j = bitB (shaB b) j) 0 [] ?_ ?_ ?_ ?_ ?_ (fun i hI => ?_)
                 | refine vc_nextI (i + 1) [] ?_ ?_ ?_ ?_ ?_ ?_ | refine vc_weakf [] ?_ ?_ ?_ | refine vc_and ?_ ?_ | refine vc_ret [] [] ?_)
          | ((with_reducible first | refine vc_caseD (fun h => ?_) (fun h => ?_) | refine vc_caseN (fun h => ?_) (fun h => ?_)) <;> try (exfalso; omega))
          | ((with_reducible refine vc_case (fun h => ?_) (fun h => ?_)) <;> (try simp only [Go.Sym.vs1, reduceCtorEq] at h) <;> try (exfalso; first | omega | (simp at h; done)))))
  all_goals (try (have hi : i < 256 := by omega))
  all_goals (try simp only [t32k, take32d (keyH_length _ _ _ _)])
  all_goals first
    | with_reducible rfl
    | omega
    | exact ⟨fits_dig 6 _, fits_dig 6 _⟩
    | exact ⟨trivial, by rw [bytesOf_map]⟩
    | exact ⟨rsig_r lS hi, size_bytes _⟩
    | exact ⟨⟨by decide, by decide, by decide⟩, trivial⟩
    | exact ⟨⟨trivial, len32 (keyH_length _ _ _ _)⟩, trivial⟩
    | exact ⟨by omega, fun _ => trivial, fun j hj => absurd hj (Nat.not_lt_zero j)⟩
    | exact brk_step hI.1 hi hI.2.2 (by assumption) (by omega)
    | exact bstrNe hne
    | exact digY hT
    | exact digY (hX (bstr ‹_›) i hi)
    | exact absurd (dig_ext (shaB_length was) (shaB_length b) (fun n hn => hI.2.2 n (by omega))) (digNo ‹_›)
    | (exfalso; have := hI.2.1 (by omega); omega)
    | (rw [wrap64_id (by omega) (by omega)]; rfl)
    | rfl
    | trace_state

end Go.Proofs.Ytcdjheiccefcdaa
