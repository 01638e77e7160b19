import Derived.Test.YtogncghpngmjpaaJ1
import Derived.Test.YtogncghpngmjpaaJ2
import Derived.Test.YtogncghpngmjpaaJ3
import Derived.Test.YtogncghpngmjpaaJ4
set_option linter.unusedSimpArgs false
set_option linter.unusedVariables false
/-
The references' numbers and texts, handed back as rows of their own; texts and digests behind bytes.
-/
set_option linter.unusedSimpArgs false
set_option linter.unusedVariables false
namespace Go.Proofs.Ytogncghpngmjpaa
open Go.Sym
set_option maxRecDepth 10000
set_option maxHeartbeats 1000000

theorem room30 {k j : Nat} (hj : j = 1) (h : k ≤ 2 ^ 30) : Room k j := by subst hj; unfold Room; omega
theorem room23' {k : Nat} (h : k ≤ 2 ^ 30) : Room k 1 := room30 rfl h

theorem rNum_own (i : Int) (n : Nat) (hi : i = n) (hn : n < 2 ^ 64) : LocalCall Try.prog 42 [.d (.int .u64 i)] [] [2] (one [.sl 2 [] 1 0 ((numB n).map byteD).length]) [(2, .row 1 ((numB n).map byteD))] := by
  subst hi
  have h10 := numB_le10 hn
  refine vc_fn mixed Try.func42 rfl rfl [(500001, [7001003])] (vc_chk rfl) ?_
  repeat' (first
      | ((with_reducible refine vc_chk ?_); first | decide +kernel | rfl)
      | (with_reducible refine vc_side0 ?_; rfl)
      | (with_reducible first
           | refine vc_true ?_ | refine vc_true2 ?_ | refine vc_side ?_ ?_ | refine vc_triv | refine vc_later ?_ | refine vc_caseT ?_ | refine vc_caseF ?_ | refine vc_cons ?_ | refine vc_nil ?_ ?_ | refine vc_seq ?_
              | refine vc_region ?_ | refine vc_cond ?_ | refine vc_block ?_ | refine vc_retc ?_ | refine vc_exit ?_ | refine vc_skip ?_ | refine vc_scope ?_ | refine vc_label ?_ | refine vc_goto ?_ | refine vc_wkSl0
              | refine vc_wkHp0 | refine vc_eqAVs0 | refine vc_preG0 | refine vc_wkSl ?_ ?_ | refine vc_wkHp ?_ ?_ | refine vc_eqAVs ?_ ?_ | refine vc_preG ?_ ?_ | refine vc_side0 ?_
              | refine vc_loopI 20 (fun (x : List D × Nat) => [(3, .sl 7 [] 1 0 x.1.length), (0, .d (.int .u64 (x.2 : Int)))]) (fun x => [(7, .row 1 x.1)]) (fun x => x.2) (fun x => x.1 ++ (numB x.2).map byteD = (numB n).map byteD ∧ x.2 < 2 ^ 64) ([], n) [] ?_ ?_ ?_ ?_ ?_ (fun x hI => ?_)
              | refine vc_nextI (x.1 ++ [byteD (UInt8.ofNat (x.2 % 128 + 128))], x.2 / 128) [(7, 4024)] ?_ ?_ ?_ ?_ ?_ ?_ | refine vc_ret [] [(2, 6016)] ?_ | refine vc_weakf [] ?_ ?_ ?_ | refine vc_and ?_ ?_
              | refine vc_ret [] [] ?_)
      | ((with_reducible first | refine vc_caseD (fun h => ?_) (fun h => ?_) | refine vc_caseN (fun h => ?_) (fun h => ?_)) <;> try (exfalso; omega))
      | ((with_reducible refine vc_case (fun h => ?_) (fun h => ?_)) <;> (try simp at h) <;> try (exfalso; omega))
      | (conv in Vc _ => arg 1; whnf
         first
          | (with_reducible refine vc_side0 ?_; rfl)
          | (with_reducible first
              | refine vc_true ?_ | refine vc_true2 ?_ | refine vc_side ?_ ?_ | refine vc_triv | refine vc_later ?_ | refine vc_caseT ?_ | refine vc_caseF ?_ | refine vc_cons ?_ | refine vc_nil ?_ ?_ | refine vc_seq ?_
                 | refine vc_region ?_ | refine vc_cond ?_ | refine vc_block ?_ | refine vc_retc ?_ | refine vc_exit ?_ | refine vc_skip ?_ | refine vc_scope ?_ | refine vc_label ?_ | refine vc_goto ?_ | refine vc_wkSl0
                 | refine vc_wkHp0 | refine vc_eqAVs0 | refine vc_preG0 | refine vc_wkSl ?_ ?_ | refine vc_wkHp ?_ ?_ | refine vc_eqAVs ?_ ?_ | refine vc_preG ?_ ?_ | refine vc_side0 ?_
                 | refine vc_loopI 20 (fun (x : List D × Nat) => [(3, .sl 7 [] 1 0 x.1.length), (0, .d (.int .u64 (x.2 : Int)))]) (fun x => [(7, .row 1 x.1)]) (fun x => x.2) (fun x => x.1 ++ (numB x.2).map byteD = (numB n).map byteD ∧ x.2 < 2 ^ 64) ([], n) [] ?_ ?_ ?_ ?_ ?_ (fun x hI => ?_)
                 | refine vc_nextI (x.1 ++ [byteD (UInt8.ofNat (x.2 % 128 + 128))], x.2 / 128) [(7, 4024)] ?_ ?_ ?_ ?_ ?_ ?_ | refine vc_ret [] [(2, 6016)] ?_ | refine vc_weakf [] ?_ ?_ ?_ | refine vc_and ?_ ?_
                 | refine vc_ret [] [] ?_)
          | ((with_reducible first | refine vc_caseD (fun h => ?_) (fun h => ?_) | refine vc_caseN (fun h => ?_) (fun h => ?_)) <;> try (exfalso; omega))
          | ((with_reducible refine vc_case (fun h => ?_) (fun h => ?_)) <;> (try simp at h) <;> try (exfalso; omega))))
  all_goals (try simp only [List.drop_zero, List.take_length, rstep])
  all_goals (try rw [rdiv (by omega)])
  all_goals first
    | rfl
    | exact ⟨rfl, hn⟩
    | omega
    | decide
    | exact fun h => by cases h
    | skip
  all_goals
    obtain ⟨acc, m⟩ := x
    obtain ⟨h1, h2⟩ := hI
    simp only at h1 h2 h ⊢
    have hroom : Room (numB n).length 1 := by unfold Room; omega
    have hlen := congrArg List.length h1
    simp only [List.length_append, List.length_map] at hlen
    rcases Nat.lt_or_ge m 128 with hm | hm
    rotate_left
    · have hm : ¬ m < 128 := by omega
      have hns := numB_step (xs := []) hm h1
      have hlen2 := congrArg List.length hns
      simp only [List.length_append, List.length_map, List.length_nil] at hlen2
      first
      | (exfalso; omega)
      | exact ⟨hns, by omega⟩
      | refine ⟨⟨by simp, trivial, room_le hroom rfl ?_⟩, fun y hy => ?_⟩
        · simp only [List.length_append]; omega
        · simp only [List.mem_singleton] at hy; subst hy; rfl
    · rw [numB_small hm] at h1
      first
      | (exfalso; omega)
      | (rw [low8 hm]; exact h1)
      | (rw [low8 hm]; exact congrArg List.length h1)
      | exact ⟨Nat.le_of_eq (Nat.zero_add _), trivial⟩
      | (rw [low8 hm]; exact congrArg D.sl h1)
      | (rw [low8 hm]; refine ⟨⟨by simp, trivial, room_le hroom rfl (Nat.le_of_eq ((congrArg List.length h1).trans (List.length_map _)))⟩, fun y hy => ?_⟩
         simp only [List.mem_singleton] at hy; subst hy; rfl)

theorem rText_b (t : List UInt8) (hroom : Room (textB t).length 1) : LocalCall Try.prog 41 [.d (.sl (t.map byteD))] [] [] (one [.d (.sl ((textB t).map byteD))]) [] := by
  have h := rText_ok (t.map byteD) (size_bytes t) (by rw [List.length_map]; simpa [textB] using hroom)
  rw [List.length_map, ← List.map_append] at h
  exact h

theorem join_own (ts : List (List UInt8)) (hl : ts.length < 2 ^ 62) (hroom : ts.flatten.length ≤ 2 ^ 30) : LocalCall Try.prog 40 [.d (.sl (ts.map tD))] [] [2] (one [.sl 2 [] 1 0 (ts.flatten.map byteD).length]) [(2, .row 1 (ts.flatten.map byteD))] := by
  have hJ : ∀ i, i ≤ ts.length → (ts.take i).flatten.length ≤ ts.flatten.length := fun i h => by
    have h : ts.flatten = (ts.take i).flatten ++ (ts.drop i).flatten := by rw [← List.flatten_append, List.take_append_drop]
    rw [h, List.length_append]; omega
  have hN : ∀ i, i < ts.length → (ts.take i).flatten ++ ts.getD i [] = (ts.take (i + 1)).flatten := fun i h => by
    rw [List.take_add_one, List.flatten_append, List.getD_eq_getElem?_getD, List.getElem?_eq_getElem h]; simp
  have lm : (ts.map tD).length = ts.length := List.length_map _
  refine vc_fn mixed Try.func40 rfl rfl [(500001, [7001003])] (vc_chk rfl) ?_
  repeat' (first
      | ((with_reducible refine vc_chk ?_); first | decide +kernel | rfl)
      | (with_reducible refine vc_side0 ?_; rfl)
      | (with_reducible first
           | refine vc_true ?_ | refine vc_true2 ?_ | refine vc_side ?_ ?_ | refine vc_triv | refine vc_later ?_ | refine vc_caseT ?_ | refine vc_caseF ?_ | refine vc_cons ?_ | refine vc_nil ?_ ?_ | refine vc_seq ?_
              | refine vc_region ?_ | refine vc_cond ?_ | refine vc_block ?_ | refine vc_retc ?_ | refine vc_exit ?_ | refine vc_skip ?_ | refine vc_scope ?_ | refine vc_label ?_ | refine vc_goto ?_ | refine vc_wkSl0
              | refine vc_wkHp0 | refine vc_eqAVs0 | refine vc_preG0 | refine vc_wkSl ?_ ?_ | refine vc_wkHp ?_ ?_ | refine vc_eqAVs ?_ ?_ | refine vc_preG ?_ ?_ | refine vc_side0 ?_
              | refine vc_loopI 18 (fun (i : Nat) => [(0, .d (.sl (ts.map tD))), (3, .sl 7 [] 1 0 ((ts.take i).flatten.map byteD).length), (4, .d (.int .i64 (i : Int)))]) (fun i => [(7, .row 1 ((ts.take i).flatten.map byteD))]) (fun i => ts.length - i) (fun i => i ≤ ts.length) 0 [] ?_ ?_ ?_ ?_ ?_ (fun i hI => ?_)
              | refine vc_nextI (i + 1) [(7, 6020)] ?_ ?_ ?_ ?_ ?_ ?_ | refine vc_ret [] [(2, 7)] ?_ | refine vc_weakf [] ?_ ?_ ?_ | refine vc_and ?_ ?_ | refine vc_ret [] [] ?_)
      | ((with_reducible first | refine vc_caseD (fun h => ?_) (fun h => ?_) | refine vc_caseN (fun h => ?_) (fun h => ?_)) <;> try (exfalso; omega))
      | ((with_reducible refine vc_case (fun h => ?_) (fun h => ?_)) <;> (try simp at h) <;> try (exfalso; omega))
      | (conv in Vc _ => arg 1; whnf
         first
          | (with_reducible refine vc_side0 ?_; rfl)
          | (with_reducible first
              | refine vc_true ?_ | refine vc_true2 ?_ | refine vc_side ?_ ?_ | refine vc_triv | refine vc_later ?_ | refine vc_caseT ?_ | refine vc_caseF ?_ | refine vc_cons ?_ | refine vc_nil ?_ ?_ | refine vc_seq ?_
                 | refine vc_region ?_ | refine vc_cond ?_ | refine vc_block ?_ | refine vc_retc ?_ | refine vc_exit ?_ | refine vc_skip ?_ | refine vc_scope ?_ | refine vc_label ?_ | refine vc_goto ?_ | refine vc_wkSl0
                 | refine vc_wkHp0 | refine vc_eqAVs0 | refine vc_preG0 | refine vc_wkSl ?_ ?_ | refine vc_wkHp ?_ ?_ | refine vc_eqAVs ?_ ?_ | refine vc_preG ?_ ?_ | refine vc_side0 ?_
                 | refine vc_loopI 18 (fun (i : Nat) => [(0, .d (.sl (ts.map tD))), (3, .sl 7 [] 1 0 ((ts.take i).flatten.map byteD).length), (4, .d (.int .i64 (i : Int)))]) (fun i => [(7, .row 1 ((ts.take i).flatten.map byteD))]) (fun i => ts.length - i) (fun i => i ≤ ts.length) 0 [] ?_ ?_ ?_ ?_ ?_ (fun i hI => ?_)
                 | refine vc_nextI (i + 1) [(7, 6020)] ?_ ?_ ?_ ?_ ?_ ?_ | refine vc_ret [] [(2, 7)] ?_ | refine vc_weakf [] ?_ ?_ ?_ | refine vc_and ?_ ?_ | refine vc_ret [] [] ?_)
          | ((with_reducible first | refine vc_caseD (fun h => ?_) (fun h => ?_) | refine vc_caseN (fun h => ?_) (fun h => ?_)) <;> try (exfalso; omega))
          | ((with_reducible refine vc_case (fun h => ?_) (fun h => ?_)) <;> (try simp at h) <;> try (exfalso; omega))))
  all_goals (try simp only [Int.toNat_natCast])
  all_goals first
    | rfl
    | omega
    | (congr 1; rw [wrap64_id (by omega) (by omega)]; omega)
    | (rw [(map_at (f := tD) (d := []) (by omega)).1]; show _ = List.length (((ts.take (i + 1)).flatten).map byteD); rw [← hN i (by omega), List.map_append]; rfl)
    | (rw [(map_at (f := tD) (d := []) (by omega)).1]; show _ = ((ts.take (i + 1)).flatten).map byteD; rw [← hN i (by omega), List.map_append]; rfl)
    | (rw [(map_at (f := tD) (d := []) (by omega)).1]; exact ⟨⟨by omega, by omega⟩, rfl⟩)
    | (rw [(map_at (f := tD) (d := []) (by omega)).1]
       refine ⟨⟨trivial, by first | trivial | rfl, room23' ?_⟩, fun y hy => size_bytes _ y hy⟩
       have := hJ (i + 1) (by omega)
       rw [← hN i (by omega), List.length_append] at this
       show ((ts.take i).flatten.map byteD ++ (ts.getD i []).map byteD).length ≤ _
       rw [List.length_append, List.length_map, List.length_map]; omega)
    | (obtain rfl : i = ts.length := by omega
       rw [List.take_length])

theorem text_b {A B : Nat} (h : A ≠ B) (x t : List UInt8) (hroom : (x ++ textB t).length ≤ 2 ^ 30) :
    LocalCall Try.prog 38 [.sl A [] 1 0 (x.map byteD).length, .d (.sl (t.map byteD))] [(A, .row 1 (x.map byteD))] [B] (one [.sl B [] 1 0 ((x ++ textB t).map byteD).length]) [(B, .row 1 ((x ++ textB t).map byteD)), (A, .dead)] := by
  have e : x.map byteD ++ (numB (t.map byteD).length).map byteD ++ t.map byteD = (x ++ textB t).map byteD := by
    rw [List.length_map, textB, List.map_append, List.map_append, List.append_assoc]
  have := text_at h (x.map byteD) (t.map byteD) (size_bytes t) (by rw [e, List.length_map]; exact room30 rfl hroom)
  rw [e] at this
  exact this

theorem num_b {A B : Nat} (h : A ≠ B) (x : List UInt8) (i : Int) (n : Nat) (hi : i = n) (hn : n < 2 ^ 64) (hroom : (x ++ numB n).length ≤ 2 ^ 30) :
    LocalCall Try.prog 39 [.sl A [] 1 0 (x.map byteD).length, .d (.int .u64 i)] [(A, .row 1 (x.map byteD))] [B] (one [.sl B [] 1 0 ((x ++ numB n).map byteD).length]) [(B, .row 1 ((x ++ numB n).map byteD)), (A, .dead)] := by
  have := num_at h (x.map byteD) i n hi hn (by rw [← List.map_append, List.length_map]; exact room30 rfl hroom)
  rw [← List.map_append] at this
  exact this

theorem dig_ok (xs ds : List D) (hd : ds.length = 32) (hts : ∀ y, y ∈ ds → y.size = 1) (hroom : Room (xs ++ ds).length 1) {A B : Nat} (h : A ≠ B) :
    LocalCall Try.prog 43 [.sl A [] 1 0 xs.length, .d (.arr 32 1 ds)] [(A, .row 1 xs)] [B] (one [.sl B [] 1 0 (xs ++ ds).length]) [(B, .row 1 (xs ++ ds)), (A, .dead)] :=
  local_ren [(1, A), (2, B)] [(A, 1), (B, 2)] (digest_ok xs ds hd hts hroom) (ren_two h (by simp [AV.namesL, AV.names]) (by simp [one, AV.names]))

theorem dig_b {A B : Nat} (h : A ≠ B) (x d : List UInt8) (hd : d.length = 32) (hroom : (x ++ d).length ≤ 2 ^ 30) :
    LocalCall Try.prog 43 [.sl A [] 1 0 (x.map byteD).length, .d (.arr 32 1 (d.map byteD))] [(A, .row 1 (x.map byteD))] [B] (one [.sl B [] 1 0 ((x ++ d).map byteD).length]) [(B, .row 1 ((x ++ d).map byteD)), (A, .dead)] := by
  have := dig_ok (x.map byteD) (d.map byteD) (by rw [List.length_map]; exact hd) (size_bytes d) (by rw [← List.map_append, List.length_map]; exact room30 rfl hroom) h
  rw [← List.map_append] at this
  exact this

theorem text_nb {A B : Nat} (h : A ≠ B) (t : List UInt8) (hroom : (textB t).length ≤ 2 ^ 30) :
    LocalCall Try.prog 38 [.d .nils, .d (.sl (t.map byteD))] [] [A, B] (one [.sl B [] 1 0 ((textB t).map byteD).length]) [(B, .row 1 ((textB t).map byteD)), (A, .dead)] :=
  local_nil A 1 (text_b h [] t hroom) (by simp [hasKey, lkp, beq_ne h.symm]) rfl (by simp [beq_ne h.symm])

end Go.Proofs.Ytogncghpngmjpaa

/-
What record.Binding, Request, Signed and Proof write.
-/
set_option linter.unusedSimpArgs false
set_option linter.unusedVariables false
namespace Go.Proofs.Ytogncghpngmjpaa
open Go.Sym
set_option maxRecDepth 10000
set_option maxHeartbeats 8000000

def bndB (b : Bnd) : List UInt8 := textB b.name ++ textB b.key ++ numB b.serial
def kindN (k : Int) : Nat := (IntKind.u64.wrap k).toNat
def reqB (q : Req) : List UInt8 := numB (kindN q.kind) ++ textB q.name ++ textB q.key ++ (bif decide (q.kind = 2) then q.auth else [])
def sgnB (s : Sgn) : List UInt8 := numB s.root.epoch ++ [s.root.prev, s.root.tree, s.root.next].flatten ++ textB s.sig
def prfB (p : Prf) : List UInt8 := numB p.sides.length ++ p.sides.flatten ++ numB (kindN p.fin) ++ (bif decide (p.fin = 1) then p.index ++ p.value else [])

theorem kindN_eq (k : Int) : IntKind.u64.wrap k = (kindN k : Int) := by
  unfold kindN
  have : IntKind.u64.wrap k = k % 18446744073709551616 := by simp [IntKind.wrap, IntKind.signed, IntKind.bits]
  rw [this]; omega
theorem kindN_lt (k : Int) : kindN k < 2 ^ 64 := by
  unfold kindN
  have : IntKind.u64.wrap k = k % 18446744073709551616 := by simp [IntKind.wrap, IntKind.signed, IntKind.bits]
  rw [this]; omega

theorem str_cut (n : List UInt8) : D.sl (List.take (⟨n.toArray⟩ : ByteArray).size (List.drop 0 (List.map byteD (⟨n.toArray⟩ : ByteArray).data.toList))) = D.sl (n.map byteD) := by
  show D.sl (List.take n.length (List.drop 0 (List.map byteD n))) = _
  rw [List.drop_zero, ← List.length_map (f := byteD), List.take_length]
theorem str_side (n : List UInt8) : 0 + (⟨n.toArray⟩ : ByteArray).size ≤ (List.map byteD (⟨n.toArray⟩ : ByteArray).data.toList).length ∧ True := by
  show 0 + n.length ≤ (List.map byteD n).length ∧ True
  rw [List.length_map]; exact ⟨Nat.le_of_eq (Nat.zero_add _), trivial⟩

theorem bndW (b : Bnd) (hs : b.serial < 2 ^ 64) (hr : (bndB b).length ≤ 2 ^ 30) : LocalCall Try.prog 15 [.d (bD b)] [] [] (one [.d (.sl ((bndB b).map byteD))]) [] := by
  have hl := hr
  unfold bndB at hl
  simp only [List.length_append] at hl
  have c1 := text_nb (A := 11) (B := 12) (by decide) b.name (by omega)
  have c2 := text_b (A := 12) (B := 13) (by decide) (textB b.name) b.key (by rw [List.length_append]; omega)
  have c3 := num_b (A := 13) (B := 14) (by decide) (textB b.name ++ textB b.key) _ b.serial rfl hs (by simp only [List.length_append]; omega)
  refine vc_fn mixed Try.func15 rfl rfl [] (vc_chk rfl) ?_
  repeat' (first
      | ((with_reducible refine vc_chk ?_); first | decide +kernel | rfl)
      | (with_reducible refine vc_side0 ?_; rfl)
      | (with_reducible first
           | refine vc_true ?_ | refine vc_true2 ?_ | refine vc_side ?_ ?_ | refine vc_triv | refine vc_later ?_ | refine vc_caseT ?_ | refine vc_caseF ?_ | refine vc_cons ?_ | refine vc_nil ?_ ?_ | refine vc_seq ?_
              | refine vc_region ?_ | refine vc_cond ?_ | refine vc_block ?_ | refine vc_retc ?_ | refine vc_exit ?_ | refine vc_skip ?_ | refine vc_scope ?_ | refine vc_label ?_ | refine vc_goto ?_ | refine vc_wkSl0
              | refine vc_wkHp0 | refine vc_eqAVs0 | refine vc_preG0 | refine vc_wkSl ?_ ?_ | refine vc_wkHp ?_ ?_ | refine vc_eqAVs ?_ ?_ | refine vc_preG ?_ ?_ | refine vc_side0 ?_
              | refine vc_callAt [] 12 (by with_unfolding_all rfl) (c2) ?_ | refine vc_callAt [] 13 (by with_unfolding_all rfl) (c3) ?_ | refine vc_call [false, true] c1 ?_ | refine vc_ret [true] [] ?_
              | refine vc_weakf [] ?_ ?_ ?_ | refine vc_and ?_ ?_ | refine vc_ret [] [] ?_)
      | ((with_reducible first | refine vc_caseD (fun h => ?_) (fun h => ?_) | refine vc_caseN (fun h => ?_) (fun h => ?_)) <;> try (exfalso; omega))
      | ((with_reducible refine vc_case (fun h => ?_) (fun h => ?_)) <;> (try simp only [Bool.cond_true_left, Bool.cond_false_right, Bool.cond_true_right, Bool.cond_false_left, Bool.and_eq_true, Bool.or_eq_true, Bool.and_eq_false_iff, Bool.or_eq_false_iff, Bool.not_eq_true', Bool.not_eq_false', Bool.not_eq_true, Bool.not_eq_false, Bool.not_not, decide_eq_true_eq, decide_eq_false_iff_not, beq_iff_eq, beq_eq_false_iff_ne, bne_iff_ne, bne_eq_false_iff_eq, ne_eq, Classical.not_not, reduceCtorEq, false_or, or_false, true_and, and_true, Bool.false_eq_true, Bool.true_eq_false] at h) <;> try (exfalso; first | omega | (simp at h; done)))
      | (conv in Vc _ => arg 1; whnf
         first
          | (with_reducible refine vc_side0 ?_; rfl)
          | (with_reducible first
              | refine vc_true ?_ | refine vc_true2 ?_ | refine vc_side ?_ ?_ | refine vc_triv | refine vc_later ?_ | refine vc_caseT ?_ | refine vc_caseF ?_ | refine vc_cons ?_ | refine vc_nil ?_ ?_ | refine vc_seq ?_
                 | refine vc_region ?_ | refine vc_cond ?_ | refine vc_block ?_ | refine vc_retc ?_ | refine vc_exit ?_ | refine vc_skip ?_ | refine vc_scope ?_ | refine vc_label ?_ | refine vc_goto ?_ | refine vc_wkSl0
                 | refine vc_wkHp0 | refine vc_eqAVs0 | refine vc_preG0 | refine vc_wkSl ?_ ?_ | refine vc_wkHp ?_ ?_ | refine vc_eqAVs ?_ ?_ | refine vc_preG ?_ ?_ | refine vc_side0 ?_
                 | refine vc_callAt [] 12 (by with_unfolding_all rfl) (c2) ?_ | refine vc_callAt [] 13 (by with_unfolding_all rfl) (c3) ?_ | refine vc_call [false, true] c1 ?_ | refine vc_ret [true] [] ?_
                 | refine vc_weakf [] ?_ ?_ ?_ | refine vc_and ?_ ?_ | refine vc_ret [] [] ?_)
          | ((with_reducible first | refine vc_caseD (fun h => ?_) (fun h => ?_) | refine vc_caseN (fun h => ?_) (fun h => ?_)) <;> try (exfalso; omega))
          | ((with_reducible refine vc_case (fun h => ?_) (fun h => ?_)) <;> (try simp only [Bool.cond_true_left, Bool.cond_false_right, Bool.cond_true_right, Bool.cond_false_left, Bool.and_eq_true, Bool.or_eq_true, Bool.and_eq_false_iff, Bool.or_eq_false_iff, Bool.not_eq_true', Bool.not_eq_false', Bool.not_eq_true, Bool.not_eq_false, Bool.not_not, decide_eq_true_eq, decide_eq_false_iff_not, beq_iff_eq, beq_eq_false_iff_ne, bne_iff_ne, bne_eq_false_iff_eq, ne_eq, Classical.not_not, reduceCtorEq, false_or, or_false, true_and, and_true, Bool.false_eq_true, Bool.true_eq_false] at h) <;> try (exfalso; first | omega | (simp at h; done)))))
  all_goals first
    | rfl
    | exact str_side _
    | exact str_cut _
    | exact ⟨Nat.le_of_eq (Nat.zero_add _), trivial⟩
    | (rw [List.drop_zero, List.take_length]; rfl)

theorem reqW (q : Req) (ha : q.auth.length = 32) (hr : (reqB q).length ≤ 2 ^ 29) : LocalCall Try.prog 17 [.d (qD q)] [] [] (one [.d (.sl ((reqB q).map byteD))]) [] := by
  have hl := hr
  unfold reqB at hl
  simp only [List.length_append] at hl
  have c0 := num_nil (A := 10) (B := 11) (by decide) _ _ (kindN_eq q.kind) (kindN_lt q.kind)
  have c1 := text_b (A := 11) (B := 12) (by decide) (numB (kindN q.kind)) q.name (by simp only [List.length_append]; omega)
  have c2 := text_b (A := 12) (B := 13) (by decide) (numB (kindN q.kind) ++ textB q.name) q.key (by simp only [List.length_append]; omega)
  have c3 := dig_b (A := 13) (B := 14) (by decide) (numB (kindN q.kind) ++ textB q.name ++ textB q.key) q.auth ha (by simp only [List.length_append]; omega)
  refine vc_fn mixed Try.func17 rfl rfl [] (vc_chk rfl) ?_
  repeat' (first
      | ((with_reducible refine vc_chk ?_); first | decide +kernel | rfl)
      | (with_reducible refine vc_side0 ?_; rfl)
      | (with_reducible first
           | refine vc_true ?_ | refine vc_true2 ?_ | refine vc_side ?_ ?_ | refine vc_triv | refine vc_later ?_ | refine vc_caseT ?_ | refine vc_caseF ?_ | refine vc_cons ?_ | refine vc_nil ?_ ?_ | refine vc_seq ?_
              | refine vc_region ?_ | refine vc_cond ?_ | refine vc_block ?_ | refine vc_retc ?_ | refine vc_exit ?_ | refine vc_skip ?_ | refine vc_scope ?_ | refine vc_label ?_ | refine vc_goto ?_ | refine vc_wkSl0
              | refine vc_wkHp0 | refine vc_eqAVs0 | refine vc_preG0 | refine vc_wkSl ?_ ?_ | refine vc_wkHp ?_ ?_ | refine vc_eqAVs ?_ ?_ | refine vc_preG ?_ ?_ | refine vc_side0 ?_
              | refine vc_callAt [false, true] 11 (by with_unfolding_all rfl) (c1) ?_ | refine vc_callAt [] 12 (by with_unfolding_all rfl) (c2) ?_ | refine vc_callAt [] 13 (by with_unfolding_all rfl) (c3) ?_
              | refine vc_call [] c0 ?_ | refine vc_ret [true] [] ?_ | refine vc_weakf [] ?_ ?_ ?_ | refine vc_and ?_ ?_ | refine vc_ret [] [] ?_)
      | ((with_reducible first | refine vc_caseD (fun h => ?_) (fun h => ?_) | refine vc_caseN (fun h => ?_) (fun h => ?_)) <;> try (exfalso; omega))
      | ((with_reducible refine vc_case (fun h => ?_) (fun h => ?_)) <;> (try simp only [Bool.cond_true_left, Bool.cond_false_right, Bool.cond_true_right, Bool.cond_false_left, Bool.and_eq_true, Bool.or_eq_true, Bool.and_eq_false_iff, Bool.or_eq_false_iff, Bool.not_eq_true', Bool.not_eq_false', Bool.not_eq_true, Bool.not_eq_false, Bool.not_not, decide_eq_true_eq, decide_eq_false_iff_not, beq_iff_eq, beq_eq_false_iff_ne, bne_iff_ne, bne_eq_false_iff_eq, ne_eq, Classical.not_not, reduceCtorEq, false_or, or_false, true_and, and_true, Bool.false_eq_true, Bool.true_eq_false] at h) <;> try (exfalso; first | omega | (simp at h; done)))
      | (conv in Vc _ => arg 1; whnf
         first
          | (with_reducible refine vc_side0 ?_; rfl)
          | (with_reducible first
              | refine vc_true ?_ | refine vc_true2 ?_ | refine vc_side ?_ ?_ | refine vc_triv | refine vc_later ?_ | refine vc_caseT ?_ | refine vc_caseF ?_ | refine vc_cons ?_ | refine vc_nil ?_ ?_ | refine vc_seq ?_
                 | refine vc_region ?_ | refine vc_cond ?_ | refine vc_block ?_ | refine vc_retc ?_ | refine vc_exit ?_ | refine vc_skip ?_ | refine vc_scope ?_ | refine vc_label ?_ | refine vc_goto ?_ | refine vc_wkSl0
                 | refine vc_wkHp0 | refine vc_eqAVs0 | refine vc_preG0 | refine vc_wkSl ?_ ?_ | refine vc_wkHp ?_ ?_ | refine vc_eqAVs ?_ ?_ | refine vc_preG ?_ ?_ | refine vc_side0 ?_
                 | refine vc_callAt [false, true] 11 (by with_unfolding_all rfl) (c1) ?_ | refine vc_callAt [] 12 (by with_unfolding_all rfl) (c2) ?_ | refine vc_callAt [] 13 (by with_unfolding_all rfl) (c3) ?_
                 | refine vc_call [] c0 ?_ | refine vc_ret [true] [] ?_ | refine vc_weakf [] ?_ ?_ ?_ | refine vc_and ?_ ?_ | refine vc_ret [] [] ?_)
          | ((with_reducible first | refine vc_caseD (fun h => ?_) (fun h => ?_) | refine vc_caseN (fun h => ?_) (fun h => ?_)) <;> try (exfalso; omega))
          | ((with_reducible refine vc_case (fun h => ?_) (fun h => ?_)) <;> (try simp only [Bool.cond_true_left, Bool.cond_false_right, Bool.cond_true_right, Bool.cond_false_left, Bool.and_eq_true, Bool.or_eq_true, Bool.and_eq_false_iff, Bool.or_eq_false_iff, Bool.not_eq_true', Bool.not_eq_false', Bool.not_eq_true, Bool.not_eq_false, Bool.not_not, decide_eq_true_eq, decide_eq_false_iff_not, beq_iff_eq, beq_eq_false_iff_ne, bne_iff_ne, bne_eq_false_iff_eq, ne_eq, Classical.not_not, reduceCtorEq, false_or, or_false, true_and, and_true, Bool.false_eq_true, Bool.true_eq_false] at h) <;> try (exfalso; first | omega | (simp at h; done)))))
  all_goals first
    | rfl
    | exact str_side _
    | exact str_cut _
    | exact ⟨Nat.le_of_eq (Nat.zero_add _), trivial⟩
    | (rw [List.drop_zero, List.take_length]; rfl)
    | (rw [List.drop_zero, List.take_length, reqB, decide_eq_true h, cond_true]; done)
    | (rw [List.drop_zero, List.take_length, reqB, decide_eq_false h, cond_false, List.append_nil]; done)
    | skip

theorem sgnW (s : Sgn) (he : s.root.epoch < 2 ^ 64) (h1 : s.root.prev.length = 32) (h2 : s.root.tree.length = 32) (h3 : s.root.next.length = 32) (hr : (sgnB s).length ≤ 2 ^ 30) : LocalCall Try.prog 19 [.d (sD s)] [] [] (one [.d (.sl ((sgnB s).map byteD))]) [] := by
  have hl := hr
  unfold sgnB at hl
  simp only [List.length_append] at hl
  have c0 := num_nil (A := 6) (B := 7) (by decide) _ _ rfl he
  generalize hds : [s.root.prev, s.root.tree, s.root.next] = ds at hl
  have h32 : ∀ d, d ∈ ds → d.length = 32 := fun d hd => by
    rw [← hds] at hd
    simp only [List.mem_cons, List.not_mem_nil, or_false] at hd
    rcases hd with rfl | rfl | rfl <;> assumption
  have hn : ds.length = 3 := by rw [← hds]; rfl
  have hg : ∀ i, i < 3 → (ds.getD i []).length = 32 := fun i hi => h32 _ (by rw [List.getD_eq_getElem?_getD, List.getElem?_eq_getElem (by omega)]; simp)
  have hJ : ∀ i, (ds.take i).flatten.length ≤ ds.flatten.length := fun i => by
    have h : ds.flatten = (ds.take i).flatten ++ (ds.drop i).flatten := by rw [← List.flatten_append, List.take_append_drop]
    rw [h, List.length_append]; omega
  have hN : ∀ i, i < 3 → (ds.take i).flatten ++ ds.getD i [] = (ds.take (i + 1)).flatten := fun i h => by
    rw [List.take_add_one, List.flatten_append, List.getD_eq_getElem?_getD, List.getElem?_eq_getElem (by omega)]; simp
  have c1 : ∀ i, i < 3 → LocalCall Try.prog 43 [.sl 7 [] 1 0 ((numB s.root.epoch ++ (ds.take i).flatten).map byteD).length, .d (.arr 32 1 ((ds.getD i []).map byteD))] [(7, .row 1 ((numB s.root.epoch ++ (ds.take i).flatten).map byteD))] [8] (one [.sl 8 [] 1 0 ((numB s.root.epoch ++ (ds.take (i + 1)).flatten).map byteD).length]) [(8, .row 1 ((numB s.root.epoch ++ (ds.take (i + 1)).flatten).map byteD)), (7, .dead)] := fun i hi => by
    have := dig_b (A := 7) (B := 8) (by decide) (numB s.root.epoch ++ (ds.take i).flatten) (ds.getD i []) (hg i hi) (by
      have := hJ (i + 1)
      rw [← hN i hi, List.length_append] at this
      simp only [List.length_append]; omega)
    rw [List.append_assoc, hN i hi] at this
    exact this
  have c2 := text_b (A := 7) (B := 8) (by decide) (numB s.root.epoch ++ (ds.take 3).flatten) s.sig (by
    have := hJ 3
    simp only [List.length_append]; omega)
  refine vc_fn mixed Try.func19 rfl rfl [] (vc_chk rfl) ?_
  repeat' (first
      | ((with_reducible refine vc_chk ?_); first | decide +kernel | rfl)
      | (with_reducible refine vc_side0 ?_; rfl)
      | (with_reducible first
           | refine vc_true ?_ | refine vc_true2 ?_ | refine vc_side ?_ ?_ | refine vc_triv | refine vc_later ?_ | refine vc_caseT ?_ | refine vc_caseF ?_ | refine vc_cons ?_ | refine vc_nil ?_ ?_ | refine vc_seq ?_
              | refine vc_region ?_ | refine vc_cond ?_ | refine vc_block ?_ | refine vc_retc ?_ | refine vc_exit ?_ | refine vc_skip ?_ | refine vc_scope ?_ | refine vc_label ?_ | refine vc_goto ?_ | refine vc_wkSl0
              | refine vc_wkHp0 | refine vc_eqAVs0 | refine vc_preG0 | refine vc_wkSl ?_ ?_ | refine vc_wkHp ?_ ?_ | refine vc_eqAVs ?_ ?_ | refine vc_preG ?_ ?_ | refine vc_side0 ?_
              | refine vc_loopI 33 (fun (i : Nat) => [(1, .ptr 1000 []), (3, .sl 7 [] 1 0 ((numB s.root.epoch ++ (ds.take i).flatten).map byteD).length), (19, .sl 3036 [] 32 0 3), (20, .d (.int .i64 3)), (21, .d (.int .i64 (i : Int)))]) (fun i => [(1000, .var (.d (sD s))), (7, .row 1 ((numB s.root.epoch ++ (ds.take i).flatten).map byteD)), (3036, .row 32 (ds.map digD))]) (fun i => 3 - i) (fun i => i ≤ 3) 0 [] ?_ ?_ ?_ ?_ ?_ (fun i hI => ?_)
              | refine vc_call [] (c1 i (by omega)) ?_ | refine vc_call [] c2 ?_ | refine vc_nextI (i + 1) [(7, 8)] ?_ ?_ ?_ ?_ ?_ ?_ | refine vc_call [] c0 ?_ | refine vc_ret [true] [] ?_ | refine vc_weakf [] ?_ ?_ ?_
              | refine vc_and ?_ ?_ | refine vc_ret [] [] ?_)
      | ((with_reducible first | refine vc_caseD (fun h => ?_) (fun h => ?_) | refine vc_caseN (fun h => ?_) (fun h => ?_)) <;> try (exfalso; omega))
      | ((with_reducible refine vc_case (fun h => ?_) (fun h => ?_)) <;> (try simp only [Bool.cond_true_left, Bool.cond_false_right, Bool.cond_true_right, Bool.cond_false_left, Bool.and_eq_true, Bool.or_eq_true, Bool.and_eq_false_iff, Bool.or_eq_false_iff, Bool.not_eq_true', Bool.not_eq_false', Bool.not_eq_true, Bool.not_eq_false, Bool.not_not, decide_eq_true_eq, decide_eq_false_iff_not, beq_iff_eq, beq_eq_false_iff_ne, bne_iff_ne, bne_eq_false_iff_eq, ne_eq, Classical.not_not, reduceCtorEq, false_or, or_false, true_and, and_true, Bool.false_eq_true, Bool.true_eq_false] at h) <;> try (exfalso; first | omega | (simp at h; done)))
      | (conv in Vc _ => arg 1; whnf
         first
          | (with_reducible refine vc_side0 ?_; rfl)
          | (with_reducible first
              | refine vc_true ?_ | refine vc_true2 ?_ | refine vc_side ?_ ?_ | refine vc_triv | refine vc_later ?_ | refine vc_caseT ?_ | refine vc_caseF ?_ | refine vc_cons ?_ | refine vc_nil ?_ ?_ | refine vc_seq ?_
                 | refine vc_region ?_ | refine vc_cond ?_ | refine vc_block ?_ | refine vc_retc ?_ | refine vc_exit ?_ | refine vc_skip ?_ | refine vc_scope ?_ | refine vc_label ?_ | refine vc_goto ?_ | refine vc_wkSl0
                 | refine vc_wkHp0 | refine vc_eqAVs0 | refine vc_preG0 | refine vc_wkSl ?_ ?_ | refine vc_wkHp ?_ ?_ | refine vc_eqAVs ?_ ?_ | refine vc_preG ?_ ?_ | refine vc_side0 ?_
                 | refine vc_loopI 33 (fun (i : Nat) => [(1, .ptr 1000 []), (3, .sl 7 [] 1 0 ((numB s.root.epoch ++ (ds.take i).flatten).map byteD).length), (19, .sl 3036 [] 32 0 3), (20, .d (.int .i64 3)), (21, .d (.int .i64 (i : Int)))]) (fun i => [(1000, .var (.d (sD s))), (7, .row 1 ((numB s.root.epoch ++ (ds.take i).flatten).map byteD)), (3036, .row 32 (ds.map digD))]) (fun i => 3 - i) (fun i => i ≤ 3) 0 [] ?_ ?_ ?_ ?_ ?_ (fun i hI => ?_)
                 | refine vc_call [] (c1 i (by omega)) ?_ | refine vc_call [] c2 ?_ | refine vc_nextI (i + 1) [(7, 8)] ?_ ?_ ?_ ?_ ?_ ?_ | refine vc_call [] c0 ?_ | refine vc_ret [true] [] ?_ | refine vc_weakf [] ?_ ?_ ?_
                 | refine vc_and ?_ ?_ | refine vc_ret [] [] ?_)
          | ((with_reducible first | refine vc_caseD (fun h => ?_) (fun h => ?_) | refine vc_caseN (fun h => ?_) (fun h => ?_)) <;> try (exfalso; omega))
          | ((with_reducible refine vc_case (fun h => ?_) (fun h => ?_)) <;> (try simp only [Bool.cond_true_left, Bool.cond_false_right, Bool.cond_true_right, Bool.cond_false_left, Bool.and_eq_true, Bool.or_eq_true, Bool.and_eq_false_iff, Bool.or_eq_false_iff, Bool.not_eq_true', Bool.not_eq_false', Bool.not_eq_true, Bool.not_eq_false, Bool.not_not, decide_eq_true_eq, decide_eq_false_iff_not, beq_iff_eq, beq_eq_false_iff_ne, bne_iff_ne, bne_eq_false_iff_eq, ne_eq, Classical.not_not, reduceCtorEq, false_or, or_false, true_and, and_true, Bool.false_eq_true, Bool.true_eq_false] at h) <;> try (exfalso; first | omega | (simp at h; done)))))
  all_goals first
    | rfl
    | exact str_side _
    | exact str_cut _
    | exact ⟨Nat.le_of_eq (Nat.zero_add _), trivial⟩
    | (rw [List.drop_zero, List.take_length]; rfl)
    | omega
    | (rw [List.take_zero, List.flatten_nil, List.append_nil]; done)
    | exact ⟨by omega, by omega⟩
    | (congr 1; rw [wrap64_id (by omega) (by omega)]; rfl)
    | (rw [Int.toNat_natCast, Nat.zero_add, (map_at (f := digD) (d := []) (by omega)).1]; rfl)
    | (rw [Int.toNat_natCast, Nat.zero_add, (map_at (f := digD) (d := []) (by omega)).1]; exact ⟨⟨by rw [List.length_map]; omega, trivial⟩, rfl⟩)
    | (obtain rfl : i = 3 := by omega
       rfl)
    | (subst hds; rfl)
    | (show D.arr 32 1 ((ds.map digD).getD (0 + (i : Int).toNat) .nilp).els = _
       rw [Int.toNat_natCast, Nat.zero_add, (map_at (f := digD) (d := []) (by omega)).1]; rfl)
    | (subst hds; rw [List.drop_zero, List.take_length]; rfl)
    | (obtain rfl : i = 3 := by omega
       subst hds; rw [List.drop_zero, List.take_length]; rfl)
    | skip

theorem flat_len : ∀ l : List (List UInt8), (∀ d, d ∈ l → d.length = 32) → l.length ≤ l.flatten.length
  | [], _ => by simp
  | x :: l, h => by
    have h1 := flat_len l fun d hd => h d (by simp [hd])
    have h2 := h x (by simp)
    simp only [List.length_cons, List.flatten_cons, List.length_append]; omega

theorem prfW (p : Prf) (hs : ∀ d, d ∈ p.sides → d.length = 32) (hi : p.index.length = 32) (hv : p.value.length = 32) (hr : (prfB p).length ≤ 2 ^ 29) : LocalCall Try.prog 21 [.d (pD p)] [] [] (one [.d (.sl ((prfB p).map byteD))]) [] := by
  have hl := hr
  unfold prfB at hl
  simp only [List.length_append] at hl
  have lp := flat_len p.sides hs
  have hg : ∀ i, i < p.sides.length → (p.sides.getD i []).length = 32 := fun i hi => hs _ (by rw [List.getD_eq_getElem?_getD, List.getElem?_eq_getElem (by omega)]; simp)
  have hJ : ∀ i, (p.sides.take i).flatten.length ≤ p.sides.flatten.length := fun i => by
    have h : p.sides.flatten = (p.sides.take i).flatten ++ (p.sides.drop i).flatten := by rw [← List.flatten_append, List.take_append_drop]
    rw [h, List.length_append]; omega
  have hN : ∀ i, i < p.sides.length → (p.sides.take i).flatten ++ p.sides.getD i [] = (p.sides.take (i + 1)).flatten := fun i h => by
    rw [List.take_add_one, List.flatten_append, List.getD_eq_getElem?_getD, List.getElem?_eq_getElem (by omega)]; simp
  have c0 := num_nil (A := 6) (B := 7) (by decide) _ p.sides.length (wrapU64_id (by omega) (by omega)) (by omega)
  have c1 : ∀ i, i < p.sides.length → LocalCall Try.prog 43 [.sl 7 [] 1 0 ((numB p.sides.length ++ (p.sides.take i).flatten).map byteD).length, .d (.arr 32 1 ((p.sides.getD i []).map byteD))] [(7, .row 1 ((numB p.sides.length ++ (p.sides.take i).flatten).map byteD))] [8] (one [.sl 8 [] 1 0 ((numB p.sides.length ++ (p.sides.take (i + 1)).flatten).map byteD).length]) [(8, .row 1 ((numB p.sides.length ++ (p.sides.take (i + 1)).flatten).map byteD)), (7, .dead)] := fun i hi => by
    have := dig_b (A := 7) (B := 8) (by decide) (numB p.sides.length ++ (p.sides.take i).flatten) (p.sides.getD i []) (hg i hi) (by
      have := hJ (i + 1)
      rw [← hN i hi, List.length_append] at this
      simp only [List.length_append]; omega)
    rw [List.append_assoc, hN i hi] at this
    exact this
  have c2 : ∀ i, p.sides.length ≤ i → LocalCall Try.prog 39 [.sl 7 [] 1 0 ((numB p.sides.length ++ (p.sides.take i).flatten).map byteD).length, .d (.int .u64 (IntKind.u64.wrap p.fin))] [(7, .row 1 ((numB p.sides.length ++ (p.sides.take i).flatten).map byteD))] [9] (one [.sl 9 [] 1 0 ((numB p.sides.length ++ p.sides.flatten ++ numB (kindN p.fin)).map byteD).length]) [(9, .row 1 ((numB p.sides.length ++ p.sides.flatten ++ numB (kindN p.fin)).map byteD)), (7, .dead)] := fun i hi => by
    rw [List.take_of_length_le hi]
    exact num_b (A := 7) (B := 9) (by decide) (numB p.sides.length ++ p.sides.flatten) _ _ (kindN_eq p.fin) (kindN_lt p.fin) (by simp only [List.length_append]; omega)
  have c3 : p.fin = 1 → LocalCall Try.prog 43 _ _ _ _ _ := fun h => dig_b (A := 9) (B := 10) (by decide) (numB p.sides.length ++ p.sides.flatten ++ numB (kindN p.fin)) p.index hi (by rw [decide_eq_true h, cond_true, List.length_append] at hl; simp only [List.length_append]; omega)
  have c4 : p.fin = 1 → LocalCall Try.prog 43 _ _ _ _ _ := fun h => dig_b (A := 10) (B := 11) (by decide) (numB p.sides.length ++ p.sides.flatten ++ numB (kindN p.fin) ++ p.index) p.value hv (by rw [decide_eq_true h, cond_true, List.length_append] at hl; simp only [List.length_append]; omega)
  refine vc_fn mixed Try.func21 rfl rfl [] (vc_chk rfl) ?_
  repeat' (first
      | ((with_reducible refine vc_chk ?_); first | decide +kernel | rfl)
      | (with_reducible refine vc_side0 ?_; rfl)
      | (with_reducible first
           | refine vc_true ?_ | refine vc_true2 ?_ | refine vc_side ?_ ?_ | refine vc_triv | refine vc_later ?_ | refine vc_caseT ?_ | refine vc_caseF ?_ | refine vc_cons ?_ | refine vc_nil ?_ ?_ | refine vc_seq ?_
              | refine vc_region ?_ | refine vc_cond ?_ | refine vc_block ?_ | refine vc_retc ?_ | refine vc_exit ?_ | refine vc_skip ?_ | refine vc_scope ?_ | refine vc_label ?_ | refine vc_goto ?_ | refine vc_wkSl0
              | refine vc_wkHp0 | refine vc_eqAVs0 | refine vc_preG0 | refine vc_wkSl ?_ ?_ | refine vc_wkHp ?_ ?_ | refine vc_eqAVs ?_ ?_ | refine vc_preG ?_ ?_ | refine vc_side0 ?_
              | refine vc_loopI 38 (fun (i : Nat) => [(1, .ptr 1000 []), (3, .sl 7 [] 1 0 ((numB p.sides.length ++ (p.sides.take i).flatten).map byteD).length), (12, .d (.sl (p.sides.map digD))), (13, .d (.int .i64 (p.sides.length : Int))), (14, .d (.int .i64 (i : Int)))]) (fun i => [(1000, .var (.d (pD p))), (7, .row 1 ((numB p.sides.length ++ (p.sides.take i).flatten).map byteD))]) (fun i => p.sides.length - i) (fun i => i ≤ p.sides.length) 0 [] ?_ ?_ ?_ ?_ ?_ (fun i hI => ?_)
              | refine vc_callAt [] 9 (by with_unfolding_all rfl) (c3 (by assumption)) ?_ | refine vc_callAt [] 10 (by with_unfolding_all rfl) (c4 (by assumption)) ?_ | refine vc_call [] (c1 i (by omega)) ?_
              | refine vc_callAt [] 7 (by with_unfolding_all rfl) (c2 i (by omega)) ?_ | refine vc_nextI (i + 1) [(7, 8)] ?_ ?_ ?_ ?_ ?_ ?_ | refine vc_call [] c0 ?_ | refine vc_ret [true] [] ?_ | refine vc_weakf [] ?_ ?_ ?_
              | refine vc_and ?_ ?_ | refine vc_ret [] [] ?_)
      | ((with_reducible first | refine vc_caseD (fun h => ?_) (fun h => ?_) | refine vc_caseN (fun h => ?_) (fun h => ?_)) <;> try (exfalso; omega))
      | ((with_reducible refine vc_case (fun h => ?_) (fun h => ?_)) <;> (try simp only [Bool.cond_true_left, Bool.cond_false_right, Bool.cond_true_right, Bool.cond_false_left, Bool.and_eq_true, Bool.or_eq_true, Bool.and_eq_false_iff, Bool.or_eq_false_iff, Bool.not_eq_true', Bool.not_eq_false', Bool.not_eq_true, Bool.not_eq_false, Bool.not_not, decide_eq_true_eq, decide_eq_false_iff_not, beq_iff_eq, beq_eq_false_iff_ne, bne_iff_ne, bne_eq_false_iff_eq, ne_eq, Classical.not_not, reduceCtorEq, false_or, or_false, true_and, and_true, Bool.false_eq_true, Bool.true_eq_false] at h) <;> try (exfalso; first | omega | (simp at h; done)))
      | (conv in Vc _ => arg 1; whnf
         first
          | (with_reducible refine vc_side0 ?_; rfl)
          | (with_reducible first
              | refine vc_true ?_ | refine vc_true2 ?_ | refine vc_side ?_ ?_ | refine vc_triv | refine vc_later ?_ | refine vc_caseT ?_ | refine vc_caseF ?_ | refine vc_cons ?_ | refine vc_nil ?_ ?_ | refine vc_seq ?_
                 | refine vc_region ?_ | refine vc_cond ?_ | refine vc_block ?_ | refine vc_retc ?_ | refine vc_exit ?_ | refine vc_skip ?_ | refine vc_scope ?_ | refine vc_label ?_ | refine vc_goto ?_ | refine vc_wkSl0
                 | refine vc_wkHp0 | refine vc_eqAVs0 | refine vc_preG0 | refine vc_wkSl ?_ ?_ | refine vc_wkHp ?_ ?_ | refine vc_eqAVs ?_ ?_ | refine vc_preG ?_ ?_ | refine vc_side0 ?_
                 | refine vc_loopI 38 (fun (i : Nat) => [(1, .ptr 1000 []), (3, .sl 7 [] 1 0 ((numB p.sides.length ++ (p.sides.take i).flatten).map byteD).length), (12, .d (.sl (p.sides.map digD))), (13, .d (.int .i64 (p.sides.length : Int))), (14, .d (.int .i64 (i : Int)))]) (fun i => [(1000, .var (.d (pD p))), (7, .row 1 ((numB p.sides.length ++ (p.sides.take i).flatten).map byteD))]) (fun i => p.sides.length - i) (fun i => i ≤ p.sides.length) 0 [] ?_ ?_ ?_ ?_ ?_ (fun i hI => ?_)
                 | refine vc_callAt [] 9 (by with_unfolding_all rfl) (c3 (by assumption)) ?_ | refine vc_callAt [] 10 (by with_unfolding_all rfl) (c4 (by assumption)) ?_ | refine vc_call [] (c1 i (by omega)) ?_
                 | refine vc_callAt [] 7 (by with_unfolding_all rfl) (c2 i (by omega)) ?_ | refine vc_nextI (i + 1) [(7, 8)] ?_ ?_ ?_ ?_ ?_ ?_ | refine vc_call [] c0 ?_ | refine vc_ret [true] [] ?_ | refine vc_weakf [] ?_ ?_ ?_
                 | refine vc_and ?_ ?_ | refine vc_ret [] [] ?_)
          | ((with_reducible first | refine vc_caseD (fun h => ?_) (fun h => ?_) | refine vc_caseN (fun h => ?_) (fun h => ?_)) <;> try (exfalso; omega))
          | ((with_reducible refine vc_case (fun h => ?_) (fun h => ?_)) <;> (try simp only [Bool.cond_true_left, Bool.cond_false_right, Bool.cond_true_right, Bool.cond_false_left, Bool.and_eq_true, Bool.or_eq_true, Bool.and_eq_false_iff, Bool.or_eq_false_iff, Bool.not_eq_true', Bool.not_eq_false', Bool.not_eq_true, Bool.not_eq_false, Bool.not_not, decide_eq_true_eq, decide_eq_false_iff_not, beq_iff_eq, beq_eq_false_iff_ne, bne_iff_ne, bne_eq_false_iff_eq, ne_eq, Classical.not_not, reduceCtorEq, false_or, or_false, true_and, and_true, Bool.false_eq_true, Bool.true_eq_false] at h) <;> try (exfalso; first | omega | (simp at h; done)))))
  all_goals first
    | rfl
    | omega
    | (rw [List.length_map]; done)
    | (rw [List.take_zero, List.flatten_nil, List.append_nil]; done)
    | (congr 1; rw [wrap64_id (by omega) (by omega)]; rfl)
    | (show D.arr 32 1 ((p.sides.map digD).getD (i : Int).toNat .nilp).els = _
       rw [Int.toNat_natCast, (map_at (f := digD) (d := []) (by omega)).1]; rfl)
    | (show (_ ∧ _) ∧ _
       rw [Int.toNat_natCast, (map_at (f := digD) (d := []) (by omega)).1]; exact ⟨⟨by omega, by rw [List.length_map]; omega⟩, rfl⟩)
    | exact ⟨Nat.le_of_eq (Nat.zero_add _), trivial⟩
    | (rw [List.drop_zero, List.take_length, prfB, decide_eq_true h, cond_true, ← List.append_assoc]; done)
    | (rw [List.drop_zero, List.take_length, prfB, decide_eq_false h, cond_false, List.append_nil]; done)
    | skip

end Go.Proofs.Ytogncghpngmjpaa

/-
What is written is what is read: bindings, requests, signed roots and proofs; no program in sight.
-/
set_option linter.unusedSimpArgs false
set_option linter.unusedVariables false
namespace Go.Proofs.Ytogncghpngmjpaa
open Go.Sym
set_option maxRecDepth 10000
set_option maxHeartbeats 1000000

theorem rdG_iff {bs d : List UInt8} {k m : Nat} (h : rdG bs k = some (d, m)) : d.length = 32 ∧ bs.drop k = d ++ bs.drop m := by
  obtain ⟨h1, rfl, rfl⟩ := rdG_ok h
  refine ⟨by rw [List.length_take, List.length_drop]; omega, ?_⟩
  rw [← List.drop_drop, List.take_append_drop]

theorem iff_rdG {bs d rest : List UInt8} {k : Nat} (hl : d.length = 32) (h : bs.drop k = d ++ rest) : rdG bs k = some (d, k + 32) ∧ bs.drop (k + 32) = rest := by
  have hlen : (bs.drop k).length = 32 + rest.length := by rw [h, List.length_append, hl]
  rw [List.length_drop] at hlen
  refine ⟨?_, ?_⟩
  · unfold rdG
    rw [decide_eq_true (by omega), cond_true, h, ← hl, List.take_left' rfl]
  · rw [← List.drop_drop, h, ← hl, List.drop_left' rfl]

theorem rdC_iff {bs : List UInt8} {most : Int} {k v e : Nat} (h : rdC bs most k = some (v, e)) : v < 2 ^ 64 ∧ (v : Int) ≤ most ∧ bs.drop k = numB v ++ bs.drop e := by
  obtain ⟨h1, h2, h3⟩ := rdC_ok h
  exact ⟨(rdN_iff h1).1, h3, (rdN_iff h1).2⟩

theorem at_end {bs : List UInt8} {k : Nat} (hk : k ≤ bs.length) (h : bs.drop k = []) : k = bs.length := by
  have := congrArg List.length h
  rw [List.length_drop] at this
  simp at this; omega

theorem kindN_small {k : Int} (h0 : 0 ≤ k) (h : k < 4) : (kindN k : Int) = k := by
  rw [← kindN_eq, wrapU64_id (by omega) (by omega)]

/-! ### Bindings -/

theorem bnd_back {b : Bnd} (hs : b.serial < 2 ^ 64) (hc : checkI b.name b.key = 0) (hn : b.name.length ≤ 1048576) (hk : b.key.length ≤ 1048576) : toFin (bndB b).length (rdBnd (bndB b)) = some b := by
  have h0 : (bndB b).drop 0 = textB b.name ++ (textB b.key ++ (numB b.serial ++ [])) := by simp [bndB]
  obtain ⟨q1, r1⟩ := iff_rdT hn h0
  obtain ⟨q2, r2⟩ := iff_rdT hk r1
  obtain ⟨q3, r3⟩ := iff_rdN hs r2
  simp only [rdBnd, q1, q2, q3, Option.bind_some, hc, decide_true, cond_true]
  have he := at_end (rdN_le2 q3) r3
  simp only [toFin, Option.bind_some, he, decide_true, cond_true]

theorem bnd_one {bs : List UInt8} {b : Bnd} (h : toFin bs.length (rdBnd bs) = some b) : bndB b = bs ∧ b.serial < 2 ^ 64 ∧ checkI b.name b.key = 0 := by
  rcases toFin_cases bs.length (rdBnd bs) with ⟨a, h1, h2, h3⟩ | ⟨_, h3⟩
  · rw [h] at h3
    cases h3
    unfold rdBnd at h1
    cases q1 : rdT bs 0 with
    | none => rw [q1] at h1; cases h1
    | some x =>
      rw [q1, Option.bind_some] at h1
      cases q2 : rdT bs x.2 with
      | none => rw [q2] at h1; cases h1
      | some y =>
        rw [q2, Option.bind_some] at h1
        cases q3 : rdN bs 10 y.2 0 0 with
        | none => rw [q3] at h1; cases h1
        | some z =>
          rw [q3, Option.bind_some] at h1
          by_cases hc : checkI x.1 y.1 = 0
          · rw [decide_eq_true hc, cond_true] at h1
            cases h1
            have e1 := (rdT_iff (ts := x.1) (m := x.2) q1).2
            have e2 := (rdT_iff (ts := y.1) (m := y.2) q2).2
            obtain ⟨e4, e3⟩ := rdN_iff (v := z.1) (e := z.2) q3
            refine ⟨?_, e4, hc⟩
            rw [List.drop_zero] at e1
            simp only at h2
            rw [e1, e2, e3, h2, List.drop_length]
            simp [bndB]
          · rw [decide_eq_false hc, cond_false] at h1; cases h1
  · rw [h] at h3; cases h3

theorem bnd_code {a b : Bnd} (h : bndB a = bndB b) : a = b := by
  unfold bndB at h
  simp only [List.append_assoc] at h
  obtain ⟨h1, h⟩ := textB_code h
  obtain ⟨h2, h⟩ := textB_code h
  have h3 := (numB_code _ _ [] [] (by simpa using h)).1
  exact (bnd_ext a b).2 ⟨h1, h3, h2⟩

/-! ### Requests -/

/-- May a request be? -/
def mayQ (q : Req) : Prop := checkI q.name q.key = 0 ∧ (q.kind = 2 ∨ (q.kind = 1 ∧ q.auth = zero32))

theorem req_back {q : Req} (ha : q.auth.length = 32) (hc : mayQ q) (hn : q.name.length ≤ 1048576) (hk : q.key.length ≤ 1048576) : toFin (reqB q).length (rdReq (reqB q)) = some q := by
  obtain ⟨hc, hm⟩ := hc
  have hkd : 0 ≤ q.kind ∧ q.kind < 4 ∧ (kindN q.kind : Int) = q.kind := by
    have : 0 ≤ q.kind ∧ q.kind < 4 := by rcases hm with h | ⟨h, _⟩ <;> omega
    exact ⟨this.1, this.2, kindN_small this.1 this.2⟩
  have h0 : (reqB q).drop 0 = numB (kindN q.kind) ++ (textB q.name ++ (textB q.key ++ (bif decide (q.kind = 2) then q.auth else []))) := by simp [reqB]
  obtain ⟨q0, r0⟩ := iff_rdC (most := 2) (kindN_lt q.kind) (by omega) (by rw [hkd.2.2]; rcases hm with h | ⟨h, _⟩ <;> omega) h0
  obtain ⟨q1, r1⟩ := iff_rdT hn r0
  obtain ⟨q2, r2⟩ := iff_rdT hk r1
  rcases hm with h2 | ⟨h2, h3⟩
  · rw [decide_eq_true h2, cond_true] at r2
    obtain ⟨q3, r3⟩ := iff_rdG (rest := []) ha (by rw [List.append_nil]; exact r2)
    have he := at_end (rdG_le q3) r3
    simp only [rdReq, q0, q1, q2, Option.bind_some, rdAu_two (n := kindN q.kind) (by omega), q3]
    rw [decide_eq_true ⟨by omega, hc⟩, cond_true]
    simp only [toFin, Option.bind_some, he, decide_true, cond_true, hkd.2.2]
  · rw [decide_eq_false (by omega), cond_false] at r2
    have he := at_end (rdT_le q2) r2
    simp only [rdReq, q0, q1, q2, Option.bind_some, rdAu_no (n := kindN q.kind) (by omega)]
    rw [decide_eq_true ⟨by omega, hc⟩, cond_true]
    simp only [toFin, Option.bind_some, he, decide_true, cond_true, hkd.2.2, ← h3]

theorem req_one {bs : List UInt8} {q : Req} (h : toFin bs.length (rdReq bs) = some q) : reqB q = bs ∧ q.auth.length = 32 ∧ mayQ q := by
  rcases toFin_cases bs.length (rdReq bs) with ⟨a, h1, h2, h3⟩ | ⟨_, h3⟩
  · rw [h] at h3
    cases h3
    unfold rdReq at h1
    cases q0 : rdC bs 2 0 with
    | none => rw [q0] at h1; cases h1
    | some w =>
    rw [q0, Option.bind_some] at h1
    cases q1 : rdT bs w.2 with
    | none => rw [q1] at h1; cases h1
    | some x =>
    rw [q1, Option.bind_some] at h1
    cases q2 : rdT bs x.2 with
    | none => rw [q2] at h1; cases h1
    | some y =>
    rw [q2, Option.bind_some] at h1
    cases q3 : rdAu bs w.1 y.2 with
    | none => rw [q3] at h1; cases h1
    | some z =>
    rw [q3, Option.bind_some] at h1
    by_cases hc : 1 ≤ w.1 ∧ checkI x.1 y.1 = 0
    · rw [decide_eq_true hc, cond_true] at h1
      cases h1
      obtain ⟨e5, e6, e0⟩ := rdC_iff (v := w.1) (e := w.2) q0
      have e1 := (rdT_iff (ts := x.1) (m := x.2) q1).2
      have e2 := (rdT_iff (ts := y.1) (m := y.2) q2).2
      have hk : kindN (w.1 : Int) = w.1 := by
        have := kindN_small (k := (w.1 : Int)) (by omega) (by omega)
        omega
      simp only at h2
      rw [List.drop_zero] at e0
      by_cases h2' : (w.1 : Int) = 2
      · rw [rdAu_two h2'] at q3
        obtain ⟨e3, e4⟩ := rdG_iff (d := z.1) (m := z.2) q3
        refine ⟨?_, e3, hc.2, .inl h2'⟩
        rw [h2, List.drop_length] at e4
        rw [e0, e1, e2, e4]
        simp only [reqB, hk, decide_eq_true h2', cond_true, List.append_assoc, List.append_nil]
      · rw [rdAu_no h2'] at q3
        cases q3
        refine ⟨?_, rfl, hc.2, .inr ⟨by simp only; omega, rfl⟩⟩
        simp only at h2
        rw [h2, List.drop_length] at e2
        rw [e0, e1, e2]
        simp only [reqB, hk, decide_eq_false h2', cond_false, List.append_assoc, List.append_nil]
    · rw [decide_eq_false hc, cond_false] at h1; cases h1
  · rw [h] at h3; cases h3

theorem req_code {a b : Req} (ha : mayQ a) (hb : mayQ b) (h : reqB a = reqB b) : a = b := by
  unfold reqB at h
  simp only [List.append_assoc] at h
  obtain ⟨h0, h⟩ := numB_code _ _ _ _ h
  obtain ⟨h1, h⟩ := textB_code h
  obtain ⟨h2, h⟩ := textB_code h
  have hk : a.kind = b.kind := by
    have ka : (kindN a.kind : Int) = a.kind := kindN_small (by rcases ha.2 with h | ⟨h, _⟩ <;> omega) (by rcases ha.2 with h | ⟨h, _⟩ <;> omega)
    have kb : (kindN b.kind : Int) = b.kind := kindN_small (by rcases hb.2 with h | ⟨h, _⟩ <;> omega) (by rcases hb.2 with h | ⟨h, _⟩ <;> omega)
    rw [← ka, ← kb, h0]
  refine (req_ext a b).2 ⟨hk, h1, h2, ?_⟩
  by_cases h2' : b.kind = 2
  · rw [decide_eq_true h2', decide_eq_true (by omega)] at h
    exact h
  · rcases ha.2 with h | ⟨_, h⟩
    · omega
    · rcases hb.2 with h' | ⟨_, h'⟩
      · omega
      · rw [h, h']

/-! ### Signed roots -/

structure wfS (s : Sgn) : Prop where
  epoch : s.root.epoch < 2 ^ 64
  prev : s.root.prev.length = 32
  tree : s.root.tree.length = 32
  next : s.root.next.length = 32

theorem sgn_back {s : Sgn} (hw : wfS s) (hs : s.sig.length ≤ 1048576) : toFin (sgnB s).length (rdSgn (sgnB s)) = some s := by
  have h0 : (sgnB s).drop 0 = numB s.root.epoch ++ (s.root.prev ++ (s.root.tree ++ (s.root.next ++ (textB s.sig ++ [])))) := by simp [sgnB]
  obtain ⟨q0, r0⟩ := iff_rdN hw.epoch h0
  obtain ⟨q1, r1⟩ := iff_rdG hw.prev r0
  obtain ⟨q2, r2⟩ := iff_rdG hw.tree r1
  obtain ⟨q3, r3⟩ := iff_rdG hw.next r2
  obtain ⟨q4, r4⟩ := iff_rdT hs r3
  have he := at_end (rdT_le q4) r4
  simp only [rdSgn, q0, q1, q2, q3, q4, Option.bind_some]
  simp only [toFin, Option.bind_some, he, decide_true, cond_true]

theorem sgn_one {bs : List UInt8} {s : Sgn} (h : toFin bs.length (rdSgn bs) = some s) : sgnB s = bs ∧ wfS s ∧ s.sig.length ≤ 1048576 := by
  rcases toFin_cases bs.length (rdSgn bs) with ⟨a, h1, h2, h3⟩ | ⟨_, h3⟩
  · rw [h] at h3
    cases h3
    unfold rdSgn at h1
    cases q0 : rdN bs 10 0 0 0 with
    | none => rw [q0] at h1; cases h1
    | some w =>
    rw [q0, Option.bind_some] at h1
    cases q1 : rdG bs w.2 with
    | none => rw [q1] at h1; cases h1
    | some x =>
    rw [q1, Option.bind_some] at h1
    cases q2 : rdG bs x.2 with
    | none => rw [q2] at h1; cases h1
    | some y =>
    rw [q2, Option.bind_some] at h1
    cases q3 : rdG bs y.2 with
    | none => rw [q3] at h1; cases h1
    | some z =>
    rw [q3, Option.bind_some] at h1
    cases q4 : rdT bs z.2 with
    | none => rw [q4] at h1; cases h1
    | some u =>
    rw [q4, Option.bind_some] at h1
    cases h1
    obtain ⟨e5, e0⟩ := rdN_iff (v := w.1) (e := w.2) q0
    obtain ⟨f1, e1⟩ := rdG_iff (d := x.1) (m := x.2) q1
    obtain ⟨f2, e2⟩ := rdG_iff (d := y.1) (m := y.2) q2
    obtain ⟨f3, e3⟩ := rdG_iff (d := z.1) (m := z.2) q3
    obtain ⟨f4, e4⟩ := rdT_iff (ts := u.1) (m := u.2) q4
    refine ⟨?_, ⟨e5, f1, f2, f3⟩, f4⟩
    simp only at h2
    rw [List.drop_zero] at e0
    rw [h2, List.drop_length] at e4
    rw [e0, e1, e2, e3, e4]
    simp [sgnB]
  · rw [h] at h3; cases h3

theorem sgn_code {a b : Sgn} (ha : wfS a) (hb : wfS b) (h : sgnB a = sgnB b) : a = b := by
  unfold sgnB at h
  simp only [List.append_assoc, List.flatten_cons, List.flatten_nil, List.nil_append, List.append_nil] at h
  obtain ⟨h0, h⟩ := numB_code _ _ _ _ h
  obtain ⟨h1, h⟩ := List.append_inj h (by rw [ha.prev, hb.prev])
  obtain ⟨h2, h⟩ := List.append_inj h (by rw [ha.tree, hb.tree])
  obtain ⟨h3, h⟩ := List.append_inj h (by rw [ha.next, hb.next])
  have h4 := (textB_code (u := []) (v := []) (by simpa using h)).1
  exact (sgn_ext a b).2 ⟨(rt_ext _ _).2 ⟨h0, h1, h2, h3⟩, h4⟩

/-! ### Proofs -/

structure wfP (p : Prf) : Prop where
  sides : ∀ d, d ∈ p.sides → d.length = 32
  index : p.index.length = 32
  value : p.value.length = 32

theorem iff_rdGs {bs : List UInt8} : ∀ {ds : List (List UInt8)} {k : Nat} {rest : List UInt8}, (∀ d, d ∈ ds → d.length = 32) → bs.drop k = ds.flatten ++ rest → rdGs bs ds.length k = some (ds, k + ds.flatten.length) ∧ bs.drop (k + ds.flatten.length) = rest
  | [], k, rest, _, h => ⟨rfl, by simpa using h⟩
  | d :: ds, k, rest, hd, h => by
    rw [List.flatten_cons, List.append_assoc] at h
    obtain ⟨q1, r1⟩ := iff_rdG (hd d (by simp)) h
    obtain ⟨q2, r2⟩ := iff_rdGs (fun x hx => hd x (by simp [hx])) r1
    have hl := hd d (by simp)
    have e : k + (d :: ds).flatten.length = k + 32 + ds.flatten.length := by rw [List.flatten_cons, List.length_append]; omega
    refine ⟨?_, by rw [e]; exact r2⟩
    rw [e]
    simp only [List.length_cons, rdGs, q1, Option.bind_some, q2, Option.map_some]

theorem rdGs_iff {bs : List UInt8} : ∀ {n k : Nat} {g : List (List UInt8) × Nat}, rdGs bs n k = some g → (∀ d, d ∈ g.1 → d.length = 32) ∧ bs.drop k = g.1.flatten ++ bs.drop g.2
  | 0, k, g, h => by cases h; exact ⟨nofun, rfl⟩
  | n + 1, k, g, h => by
    simp only [rdGs] at h
    cases hg : rdG bs k with
    | none => rw [hg] at h; cases h
    | some a =>
      rw [hg, Option.bind_some] at h
      cases hr : rdGs bs n a.2 with
      | none => rw [hr] at h; cases h
      | some p =>
        rw [hr] at h
        cases h
        obtain ⟨e1, e2⟩ := rdG_iff (d := a.1) (m := a.2) hg
        obtain ⟨e3, e4⟩ := rdGs_iff hr
        refine ⟨fun d hd => ?_, ?_⟩
        · rcases List.mem_cons.1 hd with rfl | hd
          · exact e1
          · exact e3 d hd
        · rw [e2, e4]; simp

theorem prf_back {p : Prf} (hw : wfP p) (hr : rightP p) : toFin (prfB p).length (rdPrf (prfB p)) = some p := by
  obtain ⟨hs, hf⟩ := hr
  have hk : 0 ≤ p.fin ∧ p.fin < 4 ∧ (kindN p.fin : Int) = p.fin := by
    have : 0 ≤ p.fin ∧ p.fin < 4 := by rcases hf with h | ⟨h, _⟩ <;> omega
    exact ⟨this.1, this.2, kindN_small this.1 this.2⟩
  have h0 : (prfB p).drop 0 = numB p.sides.length ++ (p.sides.flatten ++ (numB (kindN p.fin) ++ (bif decide (p.fin = 1) then p.index ++ p.value else []))) := by simp [prfB]
  obtain ⟨q0, r0⟩ := iff_rdC (most := 256) (by omega) (by omega) (by omega) h0
  obtain ⟨q1, r1⟩ := iff_rdGs hw.sides r0
  obtain ⟨q2, r2⟩ := iff_rdC (most := 1) (kindN_lt p.fin) (by omega) (by rw [hk.2.2]; rcases hf with h | ⟨h, _⟩ <;> omega) r1
  rcases hf with h2 | ⟨h2, h3, h4⟩
  · rw [decide_eq_true h2, cond_true] at r2
    obtain ⟨q3, r3⟩ := iff_rdG hw.index r2
    obtain ⟨q4, r4⟩ := iff_rdG (rest := []) hw.value (by rw [List.append_nil]; exact r3)
    have he := at_end (rdG_le q4) r4
    simp only [rdPrf, q0, q1, q2, Option.bind_some, rdLf_one (e := kindN p.fin) (by omega), q3, q4]
    simp only [toFin, Option.bind_some, he, decide_true, cond_true, hk.2.2]
  · rw [decide_eq_false (by omega), cond_false] at r2
    have he := at_end (rdC_le q2) r2
    simp only [rdPrf, q0, q1, q2, Option.bind_some, rdLf_no (e := kindN p.fin) (by omega)]
    simp only [toFin, Option.bind_some, he, decide_true, cond_true, hk.2.2]
    exact congrArg some ((prf_ext _ _).2 ⟨rfl, rfl, h3.symm, h4.symm⟩)

theorem prf_one {bs : List UInt8} {p : Prf} (h : toFin bs.length (rdPrf bs) = some p) : prfB p = bs ∧ wfP p ∧ rightP p := by
  rcases toFin_cases bs.length (rdPrf bs) with ⟨a, h1, h2, h3⟩ | ⟨_, h3⟩
  · rw [h] at h3
    cases h3
    unfold rdPrf at h1
    cases q0 : rdC bs 256 0 with
    | none => rw [q0] at h1; cases h1
    | some w =>
    rw [q0, Option.bind_some] at h1
    cases q1 : rdGs bs w.1 w.2 with
    | none => rw [q1] at h1; cases h1
    | some x =>
    rw [q1, Option.bind_some] at h1
    cases q2 : rdC bs 1 x.2 with
    | none => rw [q2] at h1; cases h1
    | some y =>
    rw [q2, Option.bind_some] at h1
    cases q3 : rdLf bs y.1 y.2 with
    | none => rw [q3] at h1; cases h1
    | some z =>
    rw [q3, Option.bind_some] at h1
    cases h1
    obtain ⟨_, e6, e0⟩ := rdC_iff (v := w.1) (e := w.2) q0
    obtain ⟨f1, e1⟩ := rdGs_iff q1
    have fl := rdGs_len q1
    obtain ⟨_, e7, e2⟩ := rdC_iff (v := y.1) (e := y.2) q2
    have hk : kindN (y.1 : Int) = y.1 := by
      have := kindN_small (k := (y.1 : Int)) (by omega) (by omega)
      omega
    simp only at h2
    rw [List.drop_zero] at e0
    by_cases h2' : (y.1 : Int) = 1
    · rw [rdLf_one h2'] at q3
      cases q4 : rdG bs y.2 with
      | none => rw [q4] at q3; cases q3
      | some u =>
      rw [q4, Option.bind_some] at q3
      cases q5 : rdG bs u.2 with
      | none => rw [q5] at q3; cases q3
      | some v =>
      rw [q5, Option.bind_some] at q3
      cases q3
      obtain ⟨g1, e4⟩ := rdG_iff (d := u.1) (m := u.2) q4
      obtain ⟨g2, e5⟩ := rdG_iff (d := v.1) (m := v.2) q5
      refine ⟨?_, ⟨f1, g1, g2⟩, by simp only [fl]; omega, .inl h2'⟩
      simp only at h2
      rw [h2, List.drop_length] at e5
      rw [e0, e1, e2, e4, e5]
      simp only [prfB, hk, fl, decide_eq_true h2', cond_true, List.append_assoc, List.append_nil]
    · rw [rdLf_no h2'] at q3
      cases q3
      refine ⟨?_, ⟨f1, rfl, rfl⟩, by simp only [fl]; omega, .inr ⟨by simp only; omega, rfl, rfl⟩⟩
      simp only at h2
      rw [h2, List.drop_length] at e2
      rw [e0, e1, e2]
      simp only [prfB, hk, fl, decide_eq_false h2', cond_false, List.append_assoc, List.append_nil]
  · rw [h] at h3; cases h3

theorem flat_code : ∀ {a b : List (List UInt8)} {u v : List UInt8}, a.length = b.length → (∀ d, d ∈ a → d.length = 32) → (∀ d, d ∈ b → d.length = 32) → a.flatten ++ u = b.flatten ++ v → a = b ∧ u = v
  | [], [], u, v, _, _, _, h => ⟨rfl, by simpa using h⟩
  | x :: a, y :: b, u, v, hl, ha, hb, h => by
    rw [List.flatten_cons, List.flatten_cons, List.append_assoc, List.append_assoc] at h
    obtain ⟨h1, h⟩ := List.append_inj h (by rw [ha x (by simp), hb y (by simp)])
    obtain ⟨h2, h3⟩ := flat_code (by simpa using hl) (fun d hd => ha d (by simp [hd])) (fun d hd => hb d (by simp [hd])) h
    exact ⟨by rw [h1, h2], h3⟩

theorem prf_code {a b : Prf} (wa : wfP a) (wb : wfP b) (ha : rightP a) (hb : rightP b) (h : prfB a = prfB b) : a = b := by
  unfold prfB at h
  simp only [List.append_assoc] at h
  obtain ⟨h0, h⟩ := numB_code _ _ _ _ h
  obtain ⟨h1, h⟩ := flat_code h0 wa.sides wb.sides h
  obtain ⟨h2, h⟩ := numB_code _ _ _ _ h
  have ka : (kindN a.fin : Int) = a.fin := kindN_small (by rcases ha.2 with h | ⟨h, _⟩ <;> omega) (by rcases ha.2 with h | ⟨h, _⟩ <;> omega)
  have kb : (kindN b.fin : Int) = b.fin := kindN_small (by rcases hb.2 with h | ⟨h, _⟩ <;> omega) (by rcases hb.2 with h | ⟨h, _⟩ <;> omega)
  have hk : a.fin = b.fin := by rw [← ka, ← kb, h2]
  by_cases h2' : b.fin = 1
  · rw [decide_eq_true h2', decide_eq_true (by omega), cond_true, cond_true] at h
    obtain ⟨h3, h4⟩ := List.append_inj h (by rw [wa.index, wb.index])
    exact (prf_ext a b).2 ⟨h1, hk, h3, h4⟩
  · rcases ha.2 with h | ⟨_, h3, h4⟩
    · omega
    · rcases hb.2 with h' | ⟨_, h5, h6⟩
      · omega
      · exact (prf_ext a b).2 ⟨h1, hk, h3.trans h5.symm, h4.trans h6.symm⟩

end Go.Proofs.Ytogncghpngmjpaa

/-
Readings of bindings, requests, signed roots and proofs.
-/
set_option linter.unusedSimpArgs false
set_option linter.unusedVariables false
namespace Go.Proofs.Ytogncghpngmjpaa
open Go.Sym
set_option maxRecDepth 10000

theorem str_of {n : Nat} {x : D} (h : okD Try.prog (n + 1) 9 x) : ∃ s : List UInt8, x = strD s ∧ s.length ≤ maxLen := by
  have hu : Try.prog.underlying 9 = some .string := rfl
  simp only [okD, hu] at h
  obtain ⟨s, rfl, hs⟩ := h
  exact ⟨s.data.toList, by simp, hs⟩

theorem sll_of {n : Nat} {x : D} (h : okD Try.prog (n + 2) 22 x) : ∃ bs : List UInt8, x = .sl (bs.map byteD) ∧ bs.length ≤ maxLen := by
  have hu : Try.prog.underlying 22 = some (.slice 5) := rfl
  rw [show n + 2 = (n + 1) + 1 from rfl, okD, hu] at h
  obtain ⟨xs, rfl, hl, hx⟩ := h
  obtain ⟨bs, rfl⟩ := bytes_of (n := n) xs hx
  exact ⟨bs, rfl, by simpa using hl⟩

theorem bnd_of {n : Nat} {x : D} (h : okD Try.prog (n + 4) 25 x) : ∃ b : Bnd, x = bD b ∧ b.serial < 2 ^ 64 ∧ b.name.length ≤ maxLen := by
  have hu : ∃ fs, Try.prog.underlying 25 = some (.struct fs) ∧ fs.toList.map (·.type) = [9, 22, 23] := ⟨_, rfl, rfl⟩
  obtain ⟨fs, hu, ht⟩ := hu
  rw [show n + 4 = (n + 3) + 1 from rfl, okD, hu] at h
  obtain ⟨xs, rfl, hx⟩ := h
  rw [ht] at hx
  obtain ⟨a, b, c, rfl, h0, h1, h2⟩ := okAll3 hx
  obtain ⟨s, rfl, hs⟩ := str_of (n := n + 2) h0
  obtain ⟨k, rfl⟩ := sl_of (n := n + 1) h1
  obtain ⟨m, rfl, hm⟩ := u64_of (n := n + 2) h2
  exact ⟨⟨s, k, m⟩, rfl, hm, hs⟩

theorem req_of {n : Nat} {x : D} (h : okD Try.prog (n + 4) 38 x) : ∃ q : Req, x = qD q ∧ q.auth.length = 32 ∧ q.name.length ≤ maxLen := by
  have hu : ∃ fs, Try.prog.underlying 38 = some (.struct fs) ∧ fs.toList.map (·.type) = [3, 9, 22, 28] := ⟨_, rfl, rfl⟩
  obtain ⟨fs, hu, ht⟩ := hu
  rw [show n + 4 = (n + 3) + 1 from rfl, okD, hu] at h
  obtain ⟨xs, rfl, hx⟩ := h
  rw [ht] at hx
  obtain ⟨i, a, b, c, rfl, hi, h0, h1, h2⟩ := okAll4 hx
  obtain ⟨j, rfl, _⟩ := int_of (n := n + 2) hi
  obtain ⟨s, rfl, hs⟩ := str_of (n := n + 2) h0
  obtain ⟨k, rfl⟩ := sl_of (n := n + 1) h1
  obtain ⟨d, hd, rfl⟩ := dig_of (n := n + 1) h2
  exact ⟨⟨j, s, k, d⟩, rfl, hd, hs⟩

theorem root_of {n : Nat} {x : D} (h : okD Try.prog (n + 4) 40 x) : ∃ r : Rt, x = rootD r ∧ r.epoch < 2 ^ 64 ∧ r.prev.length = 32 ∧ r.tree.length = 32 ∧ r.next.length = 32 := by
  have hu : ∃ fs, Try.prog.underlying 40 = some (.struct fs) ∧ fs.toList.map (·.type) = [23, 28, 28, 28] := ⟨_, rfl, rfl⟩
  obtain ⟨fs, hu, ht⟩ := hu
  rw [show n + 4 = (n + 3) + 1 from rfl, okD, hu] at h
  obtain ⟨xs, rfl, hx⟩ := h
  rw [ht] at hx
  obtain ⟨i, a, b, c, rfl, hi, h0, h1, h2⟩ := okAll4 hx
  obtain ⟨j, rfl, hj⟩ := u64_of (n := n + 2) hi
  obtain ⟨p, hp, rfl⟩ := dig_of (n := n + 1) h0
  obtain ⟨t, ht, rfl⟩ := dig_of (n := n + 1) h1
  obtain ⟨d, hd, rfl⟩ := dig_of (n := n + 1) h2
  exact ⟨⟨j, p, t, d⟩, rfl, hj, hp, ht, hd⟩

theorem sgn_of {n : Nat} {x : D} (h : okD Try.prog (n + 5) 42 x) : ∃ s : Sgn, x = sD s ∧ wfS s := by
  have hu : ∃ fs, Try.prog.underlying 42 = some (.struct fs) ∧ fs.toList.map (·.type) = [40, 22] := ⟨_, rfl, rfl⟩
  obtain ⟨fs, hu, ht⟩ := hu
  rw [show n + 5 = (n + 4) + 1 from rfl, okD, hu] at h
  obtain ⟨xs, rfl, hx⟩ := h
  rw [ht] at hx
  obtain ⟨a, b, rfl, h0, h1⟩ := okAll2 hx
  obtain ⟨r, rfl, e1, e2, e3, e4⟩ := root_of (n := n) h0
  obtain ⟨k, rfl⟩ := sl_of (n := n + 2) h1
  exact ⟨⟨r, k⟩, rfl, e1, e2, e3, e4⟩

theorem digs_in {n : Nat} : ∀ (xs : List D), (∀ y, y ∈ xs → okD Try.prog (n + 2) 28 y) → ∃ ds : List (List UInt8), xs = ds.map digD ∧ ∀ d, d ∈ ds → d.length = 32
  | [], _ => ⟨[], rfl, nofun⟩
  | x :: xs, h => by
    obtain ⟨d, hd, rfl⟩ := dig_of (h x (by simp))
    obtain ⟨ds, rfl, hb⟩ := digs_in xs fun y hy => h y (by simp [hy])
    refine ⟨d :: ds, rfl, fun v hv => ?_⟩
    rcases List.mem_cons.1 hv with rfl | hv
    · exact hd
    · exact hb v hv

theorem digs_of {n : Nat} {x : D} (h : okD Try.prog (n + 3) 26 x) : ∃ ds : List (List UInt8), x = .sl (ds.map digD) ∧ (∀ d, d ∈ ds → d.length = 32) ∧ ds.length ≤ maxLen := by
  have hu : Try.prog.underlying 26 = some (.slice 28) := rfl
  rw [show n + 3 = (n + 2) + 1 from rfl, okD, hu] at h
  obtain ⟨xs, rfl, hl, hx⟩ := h
  obtain ⟨ds, rfl, hd⟩ := digs_in (n := n) xs hx
  exact ⟨ds, rfl, hd, by simpa using hl⟩

theorem prf_of {n : Nat} {x : D} (h : okD Try.prog (n + 4) 30 x) : ∃ p : Prf, x = pD p ∧ wfP p ∧ p.sides.length ≤ maxLen := by
  have hu : ∃ fs, Try.prog.underlying 30 = some (.struct fs) ∧ fs.toList.map (·.type) = [26, 3, 28, 28] := ⟨_, rfl, rfl⟩
  obtain ⟨fs, hu, ht⟩ := hu
  rw [show n + 4 = (n + 3) + 1 from rfl, okD, hu] at h
  obtain ⟨xs, rfl, hx⟩ := h
  rw [ht] at hx
  obtain ⟨a, i, b, c, rfl, h0, hi, h1, h2⟩ := okAll4 hx
  obtain ⟨ds, rfl, hd, hl⟩ := digs_of (n := n) h0
  obtain ⟨j, rfl, _⟩ := int_of (n := n + 2) hi
  obtain ⟨p, hp, rfl⟩ := dig_of (n := n + 1) h1
  obtain ⟨d, hd', rfl⟩ := dig_of (n := n + 1) h2
  exact ⟨⟨ds, j, p, d⟩, rfl, ⟨hd, hp, hd'⟩, hl⟩

theorem bulk_digs : ∀ ds : List (List UInt8), ds.flatten.length ≤ D.bulks (ds.map digD)
  | [] => by simp [D.bulks]
  | d :: ds => by
    have h1 := bulk_digs ds
    have h2 := bulks_len (d.map byteD)
    simp only [List.map_cons, D.bulks, D.bulk, List.flatten_cons, List.length_append, List.length_map] at h1 h2 ⊢
    omega

theorem bulk_bnd (b : Bnd) : b.name.length + b.key.length ≤ (bD b).bulk := by
  have h2 := bulks_len (b.key.map byteD)
  simp only [D.bulks, D.bulk, List.length_map, str_size] at h2 ⊢
  omega
theorem bulk_req (q : Req) : q.name.length + q.key.length ≤ (qD q).bulk := by
  have h2 := bulks_len (q.key.map byteD)
  simp only [D.bulks, D.bulk, List.length_map, str_size] at h2 ⊢
  omega
theorem bulk_sgn (s : Sgn) : s.sig.length ≤ (sD s).bulk := by
  have h2 := bulks_len (s.sig.map byteD)
  simp only [D.bulks, D.bulk, List.length_map] at h2 ⊢
  omega
theorem bulk_prf (p : Prf) : p.sides.flatten.length ≤ (pD p).bulk := by
  have h2 := bulk_digs p.sides
  simp only [D.bulks, D.bulk] at h2 ⊢
  omega

end Go.Proofs.Ytogncghpngmjpaa

/-
What the references of the record layer write.
-/
set_option linter.unusedSimpArgs false
set_option linter.unusedVariables false
namespace Go.Proofs.Ytogncghpngmjpaa
open Go.Sym
set_option maxRecDepth 10000
set_option maxHeartbeats 8000000

theorem cut32 {d : List UInt8} (h : d.length = 32) : cutD (d.map byteD) 0 32 = d.map byteD := by
  unfold cutD
  rw [List.take_of_length_le (by rw [List.length_map, h]; decide)]; rfl

theorem take32 {d : List UInt8} (h : d.length = 32) : List.take (((32 : Nat) : Int).toNat - Int.toNat 0) (List.drop (Int.toNat 0) (d.map byteD)) = d.map byteD := by
  show List.take 32 (List.drop 0 _) = _
  rw [List.drop_zero, List.take_of_length_le (by rw [List.length_map]; omega)]

theorem rBndW (b : Bnd) (hs : b.serial < 2 ^ 64) (hr : (bndB b).length ≤ 2 ^ 30) : LocalCall Try.prog 16 [.d (bD b)] [] [] (one [.d (.sl ((bndB b).map byteD))]) [] := by
  have hl := hr
  unfold bndB at hl
  simp only [List.length_append] at hl
  have c1 := rText_b b.name (room30 rfl (by omega))
  have c2 := rText_b b.key (room30 rfl (by omega))
  have c3 := rNum_ok _ b.serial rfl hs
  have ef : [textB b.name, textB b.key, numB b.serial].flatten = bndB b := by simp [bndB]
  have c4 := join_b [textB b.name, textB b.key, numB b.serial] (by simp) (by rw [ef]; exact room30 rfl hr)
  rw [ef] at c4
  refine vc_fn mixed Try.func16 rfl rfl [] (vc_chk rfl) ?_
  repeat' (first
      | ((with_reducible refine vc_chk ?_); first | decide +kernel | rfl)
      | (with_reducible refine vc_side0 ?_; rfl)
      | (with_reducible first
           | refine vc_true ?_ | refine vc_true2 ?_ | refine vc_side ?_ ?_ | refine vc_triv | refine vc_later ?_ | refine vc_caseT ?_ | refine vc_caseF ?_ | refine vc_cons ?_ | refine vc_nil ?_ ?_ | refine vc_seq ?_
              | refine vc_region ?_ | refine vc_cond ?_ | refine vc_block ?_ | refine vc_retc ?_ | refine vc_exit ?_ | refine vc_skip ?_ | refine vc_scope ?_ | refine vc_label ?_ | refine vc_goto ?_ | refine vc_wkSl0
              | refine vc_wkHp0 | refine vc_eqAVs0 | refine vc_preG0 | refine vc_wkSl ?_ ?_ | refine vc_wkHp ?_ ?_ | refine vc_eqAVs ?_ ?_ | refine vc_preG ?_ ?_ | refine vc_side0 ?_ | refine vc_pure c2 ?_ ?_ ?_
              | refine vc_pure c3 ?_ ?_ ?_ | refine vc_call [true] c1 ?_ | refine vc_call [true] c4 ?_ | refine vc_weakf [] ?_ ?_ ?_ | refine vc_and ?_ ?_ | refine vc_ret [] [] ?_)
      | ((with_reducible first | refine vc_caseD (fun h => ?_) (fun h => ?_) | refine vc_caseN (fun h => ?_) (fun h => ?_)) <;> try (exfalso; omega))
      | ((with_reducible refine vc_case (fun h => ?_) (fun h => ?_)) <;> (try simp only [Bool.cond_true_left, Bool.cond_false_right, Bool.cond_true_right, Bool.cond_false_left, Bool.and_eq_true, Bool.or_eq_true, Bool.and_eq_false_iff, Bool.or_eq_false_iff, Bool.not_eq_true', Bool.not_eq_false', Bool.not_eq_true, Bool.not_eq_false, Bool.not_not, decide_eq_true_eq, decide_eq_false_iff_not, beq_iff_eq, beq_eq_false_iff_ne, bne_iff_ne, bne_eq_false_iff_eq, ne_eq, Classical.not_not, reduceCtorEq, false_or, or_false, true_and, and_true, Bool.false_eq_true, Bool.true_eq_false] at h) <;> try (exfalso; first | omega | (simp at h; done)))
      | (conv in Vc _ => arg 1; whnf
         first
          | (with_reducible refine vc_side0 ?_; rfl)
          | (with_reducible first
              | refine vc_true ?_ | refine vc_true2 ?_ | refine vc_side ?_ ?_ | refine vc_triv | refine vc_later ?_ | refine vc_caseT ?_ | refine vc_caseF ?_ | refine vc_cons ?_ | refine vc_nil ?_ ?_ | refine vc_seq ?_
                 | refine vc_region ?_ | refine vc_cond ?_ | refine vc_block ?_ | refine vc_retc ?_ | refine vc_exit ?_ | refine vc_skip ?_ | refine vc_scope ?_ | refine vc_label ?_ | refine vc_goto ?_ | refine vc_wkSl0
                 | refine vc_wkHp0 | refine vc_eqAVs0 | refine vc_preG0 | refine vc_wkSl ?_ ?_ | refine vc_wkHp ?_ ?_ | refine vc_eqAVs ?_ ?_ | refine vc_preG ?_ ?_ | refine vc_side0 ?_ | refine vc_pure c2 ?_ ?_ ?_
                 | refine vc_pure c3 ?_ ?_ ?_ | refine vc_call [true] c1 ?_ | refine vc_call [true] c4 ?_ | refine vc_weakf [] ?_ ?_ ?_ | refine vc_and ?_ ?_ | refine vc_ret [] [] ?_)
          | ((with_reducible first | refine vc_caseD (fun h => ?_) (fun h => ?_) | refine vc_caseN (fun h => ?_) (fun h => ?_)) <;> try (exfalso; omega))
          | ((with_reducible refine vc_case (fun h => ?_) (fun h => ?_)) <;> (try simp only [Bool.cond_true_left, Bool.cond_false_right, Bool.cond_true_right, Bool.cond_false_left, Bool.and_eq_true, Bool.or_eq_true, Bool.and_eq_false_iff, Bool.or_eq_false_iff, Bool.not_eq_true', Bool.not_eq_false', Bool.not_eq_true, Bool.not_eq_false, Bool.not_not, decide_eq_true_eq, decide_eq_false_iff_not, beq_iff_eq, beq_eq_false_iff_ne, bne_iff_ne, bne_eq_false_iff_eq, ne_eq, Classical.not_not, reduceCtorEq, false_or, or_false, true_and, and_true, Bool.false_eq_true, Bool.true_eq_false] at h) <;> try (exfalso; first | omega | (simp at h; done)))))
  all_goals first | rfl | exact str_side _ | exact str_cut _ | exact ⟨Nat.le_of_eq (Nat.zero_add _), trivial⟩

theorem rReqW (q : Req) (ha : q.auth.length = 32) (hr : (reqB q).length ≤ 2 ^ 29) : LocalCall Try.prog 18 [.d (qD q)] [] [] (one [.d (.sl ((reqB q).map byteD))]) [] := by
  have hl := hr
  unfold reqB at hl
  simp only [List.length_append] at hl
  have c0 := rNum_ok _ _ (kindN_eq q.kind) (kindN_lt q.kind)
  have c1 := rText_b q.name (room30 rfl (by omega))
  have c2 := rText_b q.key (room30 rfl (by omega))
  have c4 := join_own [numB (kindN q.kind), textB q.name, textB q.key] (by simp) (by simp only [List.flatten_cons, List.flatten_nil, List.length_append, List.length_nil]; omega)
  have ef : [numB (kindN q.kind), textB q.name, textB q.key].flatten = numB (kindN q.kind) ++ textB q.name ++ textB q.key := by simp
  rw [ef] at c4
  refine vc_fn mixed Try.func18 rfl rfl [] (vc_chk rfl) ?_
  repeat' (first
      | ((with_reducible refine vc_chk ?_); first | decide +kernel | rfl)
      | (with_reducible refine vc_side0 ?_; rfl)
      | (with_reducible first
           | refine vc_true ?_ | refine vc_true2 ?_ | refine vc_side ?_ ?_ | refine vc_triv | refine vc_later ?_ | refine vc_caseT ?_ | refine vc_caseF ?_ | refine vc_cons ?_ | refine vc_nil ?_ ?_ | refine vc_seq ?_
              | refine vc_region ?_ | refine vc_cond ?_ | refine vc_block ?_ | refine vc_retc ?_ | refine vc_exit ?_ | refine vc_skip ?_ | refine vc_scope ?_ | refine vc_label ?_ | refine vc_goto ?_ | refine vc_wkSl0
              | refine vc_wkHp0 | refine vc_eqAVs0 | refine vc_preG0 | refine vc_wkSl ?_ ?_ | refine vc_wkHp ?_ ?_ | refine vc_eqAVs ?_ ?_ | refine vc_preG ?_ ?_ | refine vc_side0 ?_ | refine vc_pure c0 ?_ ?_ ?_
              | refine vc_pure c2 ?_ ?_ ?_ | refine vc_call [true] c1 ?_ | refine vc_call [true] c4 ?_ | refine vc_ret [true] [] ?_ | refine vc_weakf [] ?_ ?_ ?_ | refine vc_and ?_ ?_ | refine vc_ret [] [] ?_)
      | ((with_reducible first | refine vc_caseD (fun h => ?_) (fun h => ?_) | refine vc_caseN (fun h => ?_) (fun h => ?_)) <;> try (exfalso; omega))
      | ((with_reducible refine vc_case (fun h => ?_) (fun h => ?_)) <;> (try simp only [Bool.cond_true_left, Bool.cond_false_right, Bool.cond_true_right, Bool.cond_false_left, Bool.and_eq_true, Bool.or_eq_true, Bool.and_eq_false_iff, Bool.or_eq_false_iff, Bool.not_eq_true', Bool.not_eq_false', Bool.not_eq_true, Bool.not_eq_false, Bool.not_not, decide_eq_true_eq, decide_eq_false_iff_not, beq_iff_eq, beq_eq_false_iff_ne, bne_iff_ne, bne_eq_false_iff_eq, ne_eq, Classical.not_not, reduceCtorEq, false_or, or_false, true_and, and_true, Bool.false_eq_true, Bool.true_eq_false] at h) <;> try (exfalso; first | omega | (simp at h; done)))
      | (conv in Vc _ => arg 1; whnf
         first
          | (with_reducible refine vc_side0 ?_; rfl)
          | (with_reducible first
              | refine vc_true ?_ | refine vc_true2 ?_ | refine vc_side ?_ ?_ | refine vc_triv | refine vc_later ?_ | refine vc_caseT ?_ | refine vc_caseF ?_ | refine vc_cons ?_ | refine vc_nil ?_ ?_ | refine vc_seq ?_
                 | refine vc_region ?_ | refine vc_cond ?_ | refine vc_block ?_ | refine vc_retc ?_ | refine vc_exit ?_ | refine vc_skip ?_ | refine vc_scope ?_ | refine vc_label ?_ | refine vc_goto ?_ | refine vc_wkSl0
                 | refine vc_wkHp0 | refine vc_eqAVs0 | refine vc_preG0 | refine vc_wkSl ?_ ?_ | refine vc_wkHp ?_ ?_ | refine vc_eqAVs ?_ ?_ | refine vc_preG ?_ ?_ | refine vc_side0 ?_ | refine vc_pure c0 ?_ ?_ ?_
                 | refine vc_pure c2 ?_ ?_ ?_ | refine vc_call [true] c1 ?_ | refine vc_call [true] c4 ?_ | refine vc_ret [true] [] ?_ | refine vc_weakf [] ?_ ?_ ?_ | refine vc_and ?_ ?_ | refine vc_ret [] [] ?_)
          | ((with_reducible first | refine vc_caseD (fun h => ?_) (fun h => ?_) | refine vc_caseN (fun h => ?_) (fun h => ?_)) <;> try (exfalso; omega))
          | ((with_reducible refine vc_case (fun h => ?_) (fun h => ?_)) <;> (try simp only [Bool.cond_true_left, Bool.cond_false_right, Bool.cond_true_right, Bool.cond_false_left, Bool.and_eq_true, Bool.or_eq_true, Bool.and_eq_false_iff, Bool.or_eq_false_iff, Bool.not_eq_true', Bool.not_eq_false', Bool.not_eq_true, Bool.not_eq_false, Bool.not_not, decide_eq_true_eq, decide_eq_false_iff_not, beq_iff_eq, beq_eq_false_iff_ne, bne_iff_ne, bne_eq_false_iff_eq, ne_eq, Classical.not_not, reduceCtorEq, false_or, or_false, true_and, and_true, Bool.false_eq_true, Bool.true_eq_false] at h) <;> try (exfalso; first | omega | (simp at h; done)))))
  all_goals (try simp only [take32 ha])
  all_goals first
    | rfl
    | exact str_side _
    | exact str_cut _
    | exact ⟨⟨by decide, by decide, by decide⟩, trivial⟩
    | exact ⟨Nat.le_of_eq (Nat.zero_add _), trivial⟩
    | (refine ⟨⟨⟨trivial, by rw [List.length_map, ha]; decide⟩, by first | trivial | rfl, room23' ?_⟩, size_bytes _⟩
       rw [decide_eq_true h, cond_true] at hl
       simp only [List.length_append, List.length_map]; omega)
    | (rw [List.drop_zero, List.take_length, reqB, decide_eq_true h, cond_true, ← List.map_append]; done)
    | (rw [List.drop_zero, List.take_length, reqB, decide_eq_false h, cond_false, List.append_nil]; done)
    | skip

theorem rSgnW (s : Sgn) (he : s.root.epoch < 2 ^ 64) (h1 : s.root.prev.length = 32) (h2 : s.root.tree.length = 32) (h3 : s.root.next.length = 32) (hr : (sgnB s).length ≤ 2 ^ 30) : LocalCall Try.prog 20 [.d (sD s)] [] [] (one [.d (.sl ((sgnB s).map byteD))]) [] := by
  have hl := hr
  unfold sgnB at hl
  simp only [List.length_append] at hl
  have c0 := rNum_ok _ s.root.epoch rfl he
  have c1 := rText_b s.sig (room30 rfl (by omega))
  have ef : [numB s.root.epoch, s.root.prev, s.root.tree, s.root.next, textB s.sig].flatten = sgnB s := by simp [sgnB]
  have c4 := join_b [numB s.root.epoch, s.root.prev, s.root.tree, s.root.next, textB s.sig] (by simp) (by rw [ef]; exact room30 rfl hr)
  rw [ef] at c4
  have e1 : cutD (s.root.prev.map byteD) 0 ((32 : Nat) : Int) = s.root.prev.map byteD := cut32 h1
  have e2 : cutD (s.root.tree.map byteD) 0 ((32 : Nat) : Int) = s.root.tree.map byteD := cut32 h2
  have e3 : cutD (s.root.next.map byteD) 0 ((32 : Nat) : Int) = s.root.next.map byteD := cut32 h3
  refine vc_fn mixed Try.func20 rfl rfl [(1, [500001])] (vc_chk rfl) ?_
  repeat' (first
      | ((with_reducible refine vc_chk ?_); first | decide +kernel | rfl)
      | (with_reducible refine vc_side0 ?_; rfl)
      | (with_reducible first
           | refine vc_true ?_ | refine vc_true2 ?_ | refine vc_side ?_ ?_ | refine vc_triv | refine vc_later ?_ | refine vc_caseT ?_ | refine vc_caseF ?_ | refine vc_cons ?_ | refine vc_nil ?_ ?_ | refine vc_seq ?_
              | refine vc_region ?_ | refine vc_cond ?_ | refine vc_block ?_ | refine vc_retc ?_ | refine vc_exit ?_ | refine vc_skip ?_ | refine vc_scope ?_ | refine vc_label ?_ | refine vc_goto ?_ | refine vc_wkSl0
              | refine vc_wkHp0 | refine vc_eqAVs0 | refine vc_preG0 | refine vc_wkSl ?_ ?_ | refine vc_wkHp ?_ ?_ | refine vc_eqAVs ?_ ?_ | refine vc_preG ?_ ?_ | refine vc_side0 ?_ | refine vc_pure c0 ?_ ?_ ?_
              | refine vc_pure c1 ?_ ?_ ?_ | refine vc_call [true] c4 ?_ | refine vc_weakf [] ?_ ?_ ?_ | refine vc_and ?_ ?_ | refine vc_ret [] [] ?_)
      | ((with_reducible first | refine vc_caseD (fun h => ?_) (fun h => ?_) | refine vc_caseN (fun h => ?_) (fun h => ?_)) <;> try (exfalso; omega))
      | ((with_reducible refine vc_case (fun h => ?_) (fun h => ?_)) <;> (try simp only [Bool.cond_true_left, Bool.cond_false_right, Bool.cond_true_right, Bool.cond_false_left, Bool.and_eq_true, Bool.or_eq_true, Bool.and_eq_false_iff, Bool.or_eq_false_iff, Bool.not_eq_true', Bool.not_eq_false', Bool.not_eq_true, Bool.not_eq_false, Bool.not_not, decide_eq_true_eq, decide_eq_false_iff_not, beq_iff_eq, beq_eq_false_iff_ne, bne_iff_ne, bne_eq_false_iff_eq, ne_eq, Classical.not_not, reduceCtorEq, false_or, or_false, true_and, and_true, Bool.false_eq_true, Bool.true_eq_false] at h) <;> try (exfalso; first | omega | (simp at h; done)))
      | (conv in Vc _ => arg 1; whnf
         first
          | (with_reducible refine vc_side0 ?_; rfl)
          | (with_reducible first
              | refine vc_true ?_ | refine vc_true2 ?_ | refine vc_side ?_ ?_ | refine vc_triv | refine vc_later ?_ | refine vc_caseT ?_ | refine vc_caseF ?_ | refine vc_cons ?_ | refine vc_nil ?_ ?_ | refine vc_seq ?_
                 | refine vc_region ?_ | refine vc_cond ?_ | refine vc_block ?_ | refine vc_retc ?_ | refine vc_exit ?_ | refine vc_skip ?_ | refine vc_scope ?_ | refine vc_label ?_ | refine vc_goto ?_ | refine vc_wkSl0
                 | refine vc_wkHp0 | refine vc_eqAVs0 | refine vc_preG0 | refine vc_wkSl ?_ ?_ | refine vc_wkHp ?_ ?_ | refine vc_eqAVs ?_ ?_ | refine vc_preG ?_ ?_ | refine vc_side0 ?_ | refine vc_pure c0 ?_ ?_ ?_
                 | refine vc_pure c1 ?_ ?_ ?_ | refine vc_call [true] c4 ?_ | refine vc_weakf [] ?_ ?_ ?_ | refine vc_and ?_ ?_ | refine vc_ret [] [] ?_)
          | ((with_reducible first | refine vc_caseD (fun h => ?_) (fun h => ?_) | refine vc_caseN (fun h => ?_) (fun h => ?_)) <;> try (exfalso; omega))
          | ((with_reducible refine vc_case (fun h => ?_) (fun h => ?_)) <;> (try simp only [Bool.cond_true_left, Bool.cond_false_right, Bool.cond_true_right, Bool.cond_false_left, Bool.and_eq_true, Bool.or_eq_true, Bool.and_eq_false_iff, Bool.or_eq_false_iff, Bool.not_eq_true', Bool.not_eq_false', Bool.not_eq_true, Bool.not_eq_false, Bool.not_not, decide_eq_true_eq, decide_eq_false_iff_not, beq_iff_eq, beq_eq_false_iff_ne, bne_iff_ne, bne_eq_false_iff_eq, ne_eq, Classical.not_not, reduceCtorEq, false_or, or_false, true_and, and_true, Bool.false_eq_true, Bool.true_eq_false] at h) <;> try (exfalso; first | omega | (simp at h; done)))))
  all_goals first
    | rfl
    | (show D.sl [.sl ((numB s.root.epoch).map byteD), .sl (cutD (s.root.prev.map byteD) 0 ((32 : Nat) : Int)), .sl (cutD (s.root.tree.map byteD) 0 ((32 : Nat) : Int)), .sl (cutD (s.root.next.map byteD) 0 ((32 : Nat) : Int)), .sl ((textB s.sig).map byteD)] = _
       rw [e1, e2, e3]; first | done | rfl)
    | exact ⟨Nat.le_of_eq (Nat.zero_add _), trivial⟩ | exact ⟨by decide, by decide, by decide⟩ | skip

theorem rPrfW (p : Prf) (hs : ∀ d, d ∈ p.sides → d.length = 32) (hi : p.index.length = 32) (hv : p.value.length = 32) (hr : (prfB p).length ≤ 2 ^ 29) : LocalCall Try.prog 22 [.d (pD p)] [] [] (one [.d (.sl ((prfB p).map byteD))]) [] := by
  have hl := hr
  unfold prfB at hl
  simp only [List.length_append] at hl
  have lp := flat_len p.sides hs
  have lm : (p.sides.map digD).length = p.sides.length := List.length_map _
  have hg : ∀ i, i < p.sides.length → (p.sides.getD i []).length = 32 := fun i hi => hs _ (by rw [List.getD_eq_getElem?_getD, List.getElem?_eq_getElem (by omega)]; simp)
  have hJ : ∀ i, (p.sides.take i).flatten.length ≤ p.sides.flatten.length := fun i => by
    have h : p.sides.flatten = (p.sides.take i).flatten ++ (p.sides.drop i).flatten := by rw [← List.flatten_append, List.take_append_drop]
    rw [h, List.length_append]; omega
  have hN : ∀ i, i < p.sides.length → (p.sides.take i).flatten ++ p.sides.getD i [] = (p.sides.take (i + 1)).flatten := fun i h => by
    rw [List.take_add_one, List.flatten_append, List.getD_eq_getElem?_getD, List.getElem?_eq_getElem (by omega)]; simp
  have hE : ∀ i, i < p.sides.length → (p.sides.map digD).getD (i : Int).toNat .nilp = digD (p.sides.getD i []) := fun i hi => (map_at hi).1
  have hC : ∀ i, i < p.sides.length → cutD ((p.sides.map digD).getD (i : Int).toNat .nilp).els 0 ((32 : Nat) : Int) = (p.sides.getD i []).map byteD := fun i hi' => by
    rw [hE i hi']; exact cut32 (hg i hi')
  have hF : ∀ i, i < p.sides.length → (numB p.sides.length ++ (p.sides.take i).flatten).map byteD ++ (p.sides.getD i []).map byteD = (numB p.sides.length ++ (p.sides.take (i + 1)).flatten).map byteD := fun i hi' => by
    rw [← List.map_append, List.append_assoc, hN i hi']
  have c0 := rNum_own _ p.sides.length (wrapU64_id (by omega) (by omega)) (by omega)
  have c1 := rNum_ok _ _ (kindN_eq p.fin) (kindN_lt p.fin)
  refine vc_fn mixed Try.func22 rfl rfl [] (vc_chk rfl) ?_
  repeat' (first
      | ((with_reducible refine vc_chk ?_); first | decide +kernel | rfl)
      | (with_reducible refine vc_side0 ?_; rfl)
      | (with_reducible first
           | refine vc_true ?_ | refine vc_true2 ?_ | refine vc_side ?_ ?_ | refine vc_triv | refine vc_later ?_ | refine vc_caseT ?_ | refine vc_caseF ?_ | refine vc_cons ?_ | refine vc_nil ?_ ?_ | refine vc_seq ?_
              | refine vc_region ?_ | refine vc_cond ?_ | refine vc_block ?_ | refine vc_retc ?_ | refine vc_exit ?_ | refine vc_skip ?_ | refine vc_scope ?_ | refine vc_label ?_ | refine vc_goto ?_ | refine vc_wkSl0
              | refine vc_wkHp0 | refine vc_eqAVs0 | refine vc_preG0 | refine vc_wkSl ?_ ?_ | refine vc_wkHp ?_ ?_ | refine vc_eqAVs ?_ ?_ | refine vc_preG ?_ ?_ | refine vc_side0 ?_
              | refine vc_loopI 42 (fun (i : Nat) => [(1, .ptr 1000 []), (3, .sl 7 [] 1 0 ((numB p.sides.length ++ (p.sides.take i).flatten).map byteD).length), (4, .d (.int .i64 (i : Int)))]) (fun i => [(1000, .var (.d (pD p))), (7, .row 1 ((numB p.sides.length ++ (p.sides.take i).flatten).map byteD))]) (fun i => p.sides.length - i) (fun i => i ≤ p.sides.length) 0 [(7, 2)] ?_ ?_ ?_ ?_ ?_ (fun i hI => ?_)
              | refine vc_pure c1 ?_ ?_ ?_ | refine vc_nextI (i + 1) [(7, 6024)] ?_ ?_ ?_ ?_ ?_ ?_ | refine vc_call [] c0 ?_ | refine vc_ret [true] [] ?_ | refine vc_weakf [] ?_ ?_ ?_ | refine vc_and ?_ ?_ | refine vc_ret [] [] ?_)
      | ((with_reducible first | refine vc_caseD (fun h => ?_) (fun h => ?_) | refine vc_caseN (fun h => ?_) (fun h => ?_)) <;> try (exfalso; omega))
      | ((with_reducible refine vc_case (fun h => ?_) (fun h => ?_)) <;> (try simp only [Bool.cond_true_left, Bool.cond_false_right, Bool.cond_true_right, Bool.cond_false_left, Bool.and_eq_true, Bool.or_eq_true, Bool.and_eq_false_iff, Bool.or_eq_false_iff, Bool.not_eq_true', Bool.not_eq_false', Bool.not_eq_true, Bool.not_eq_false, Bool.not_not, decide_eq_true_eq, decide_eq_false_iff_not, beq_iff_eq, beq_eq_false_iff_ne, bne_iff_ne, bne_eq_false_iff_eq, ne_eq, Classical.not_not, reduceCtorEq, false_or, or_false, true_and, and_true, Bool.false_eq_true, Bool.true_eq_false] at h) <;> try (exfalso; first | omega | (simp at h; done)))
      | (conv in Vc _ => arg 1; whnf
         first
          | (with_reducible refine vc_side0 ?_; rfl)
          | (with_reducible first
              | refine vc_true ?_ | refine vc_true2 ?_ | refine vc_side ?_ ?_ | refine vc_triv | refine vc_later ?_ | refine vc_caseT ?_ | refine vc_caseF ?_ | refine vc_cons ?_ | refine vc_nil ?_ ?_ | refine vc_seq ?_
                 | refine vc_region ?_ | refine vc_cond ?_ | refine vc_block ?_ | refine vc_retc ?_ | refine vc_exit ?_ | refine vc_skip ?_ | refine vc_scope ?_ | refine vc_label ?_ | refine vc_goto ?_ | refine vc_wkSl0
                 | refine vc_wkHp0 | refine vc_eqAVs0 | refine vc_preG0 | refine vc_wkSl ?_ ?_ | refine vc_wkHp ?_ ?_ | refine vc_eqAVs ?_ ?_ | refine vc_preG ?_ ?_ | refine vc_side0 ?_
                 | refine vc_loopI 42 (fun (i : Nat) => [(1, .ptr 1000 []), (3, .sl 7 [] 1 0 ((numB p.sides.length ++ (p.sides.take i).flatten).map byteD).length), (4, .d (.int .i64 (i : Int)))]) (fun i => [(1000, .var (.d (pD p))), (7, .row 1 ((numB p.sides.length ++ (p.sides.take i).flatten).map byteD))]) (fun i => p.sides.length - i) (fun i => i ≤ p.sides.length) 0 [(7, 2)] ?_ ?_ ?_ ?_ ?_ (fun i hI => ?_)
                 | refine vc_pure c1 ?_ ?_ ?_ | refine vc_nextI (i + 1) [(7, 6024)] ?_ ?_ ?_ ?_ ?_ ?_ | refine vc_call [] c0 ?_ | refine vc_ret [true] [] ?_ | refine vc_weakf [] ?_ ?_ ?_ | refine vc_and ?_ ?_
                 | refine vc_ret [] [] ?_)
          | ((with_reducible first | refine vc_caseD (fun h => ?_) (fun h => ?_) | refine vc_caseN (fun h => ?_) (fun h => ?_)) <;> try (exfalso; omega))
          | ((with_reducible refine vc_case (fun h => ?_) (fun h => ?_)) <;> (try simp only [Bool.cond_true_left, Bool.cond_false_right, Bool.cond_true_right, Bool.cond_false_left, Bool.and_eq_true, Bool.or_eq_true, Bool.and_eq_false_iff, Bool.or_eq_false_iff, Bool.not_eq_true', Bool.not_eq_false', Bool.not_eq_true, Bool.not_eq_false, Bool.not_not, decide_eq_true_eq, decide_eq_false_iff_not, beq_iff_eq, beq_eq_false_iff_ne, bne_iff_ne, bne_eq_false_iff_eq, ne_eq, Classical.not_not, reduceCtorEq, false_or, or_false, true_and, and_true, Bool.false_eq_true, Bool.true_eq_false] at h) <;> try (exfalso; first | omega | (simp at h; done)))))
  all_goals (try simp only [take32 hi, take32 hv])
  all_goals first
    | rfl
    | omega
    | (rw [List.length_map]; done)
    | (rw [List.take_zero, List.flatten_nil, List.append_nil]; done)
    | (congr 1; rw [wrap64_id (by omega) (by omega)]; rfl)
    | exact ⟨⟨by decide, by decide, by decide⟩, trivial⟩
    | exact ⟨by decide, by decide, by decide⟩
    | exact ⟨Nat.le_of_eq (Nat.zero_add _), trivial⟩
    | (show (_ ∧ _) ∧ _
       rw [hE i (by omega)]; exact ⟨⟨by omega, by rw [List.length_map]; omega⟩, rfl⟩)
    | (rw [hC i (by omega)]
       refine ⟨⟨trivial, by first | trivial | rfl, room23' ?_⟩, size_bytes _⟩
       rw [hF i (by omega), List.length_map, List.length_append]
       have := hJ (i + 1); omega)
    | (show List.length (_ ++ cutD ((p.sides.map digD).getD (i : Int).toNat .nilp).els 0 ((32 : Nat) : Int)) = _
       rw [hC i (by omega), hF i (by omega)])
    | (show _ ++ cutD ((p.sides.map digD).getD (i : Int).toNat .nilp).els 0 ((32 : Nat) : Int) = _
       rw [hC i (by omega), hF i (by omega)])
    | (refine ⟨⟨trivial, by first | trivial | rfl, room23' ?_⟩, size_bytes _⟩
       have := hJ i
       simp only [List.length_append, List.length_map]; omega)
    | (refine ⟨⟨⟨trivial, by rw [List.length_map, hi]; decide⟩, by first | trivial | rfl, room23' ?_⟩, size_bytes _⟩
       have := hJ i
       rw [decide_eq_true h, cond_true, List.length_append] at hl
       simp only [List.length_append, List.length_map]; omega)
    | (refine ⟨⟨⟨trivial, by rw [List.length_map, hv]; decide⟩, by first | trivial | rfl, room23' ?_⟩, size_bytes _⟩
       have := hJ i
       rw [decide_eq_true h, cond_true, List.length_append] at hl
       simp only [List.length_append, List.length_map]; omega)
    | (rw [List.drop_zero, List.take_length, List.take_of_length_le (i := i) (by omega), prfB, decide_eq_true h, cond_true, ← List.map_append, ← List.map_append, ← List.map_append, ← List.append_assoc]; done)
    | (rw [List.drop_zero, List.take_length, List.take_of_length_le (i := i) (by omega), prfB, decide_eq_false h, cond_false, List.append_nil, ← List.map_append]; done)
    | (rw [List.drop_zero, List.take_length, prfB, decide_eq_true h, cond_true, ← List.append_assoc]; done)
    | (rw [List.drop_zero, List.take_length, prfB, decide_eq_false h, cond_false, List.append_nil]; done)
    | skip

end Go.Proofs.Ytogncghpngmjpaa

/-
record.ReadBinding, record.ReadRequest.
-/
set_option linter.unusedSimpArgs false
set_option linter.unusedVariables false
namespace Go.Proofs.Ytogncghpngmjpaa
open Go.Sym
set_option maxRecDepth 10000
set_option maxHeartbeats 4000000

theorem bind_cl (B : List D) (bs : List UInt8) (hB : B = bs.map byteD) (hl : bs.length < 2 ^ 63) :
    LocalE (rdBnd bs) Try.prog 63 [.ptr 9 [], .ptr 8 [], .ptr 7 []] [(9, rd B 0), (8, .var (.fn (.func 45) [])), (7, .var (.d (.st [.str ByteArray.empty, .nils, .int .u64 0])))] [] (fun _ => []) (fun a => [(9, rd B a.2), (7, .var (.d (bD a.1)))]) [] fault [(9, .dead), (7, .dead)] := by
  refine vc_fnE mixed Try.func63 rfl rfl [] (rdBnd bs) (vc_chk rfl) ?_
  repeat' (first
      | ((with_reducible refine vc_chk ?_); first | decide +kernel | rfl)
      | (with_reducible refine vc_side0 ?_; rfl)
      | (with_reducible first
           | refine vc_true ?_ | refine vc_true2 ?_ | refine vc_side ?_ ?_ | refine vc_triv | refine vc_later ?_ | refine vc_caseT ?_ | refine vc_caseF ?_ | refine vc_cons ?_ | refine vc_nil ?_ ?_ | refine vc_seq ?_
              | refine vc_region ?_ | refine vc_cond ?_ | refine vc_block ?_ | refine vc_retc ?_ | refine vc_exit ?_ | refine vc_skip ?_ | refine vc_scope ?_ | refine vc_label ?_ | refine vc_goto ?_ | refine vc_wkSl0
              | refine vc_wkHp0 | refine vc_eqAVs0 | refine vc_preG0 | refine vc_wkSl ?_ ?_ | refine vc_wkHp ?_ ?_ | refine vc_eqAVs ?_ ?_ | refine vc_preG ?_ ?_ | refine vc_side0 ?_
              | refine vc_eAt [] 9 (by with_unfolding_all rfl) (bind_in B bs hB hl) (fun a h => ?_) (fun h => ?_) | refine vc_ek a h ?_ | refine vc_ep h ?_ | refine vc_panc [] [7] ?_ ?_ | refine vc_weakf [] ?_ ?_ ?_
              | refine vc_and ?_ ?_ | refine vc_ret [] [] ?_)
      | ((with_reducible first | refine vc_caseD (fun h => ?_) (fun h => ?_) | refine vc_caseN (fun h => ?_) (fun h => ?_)) <;> try (exfalso; omega))
      | ((with_reducible refine vc_case (fun h => ?_) (fun h => ?_)) <;> (try simp only [Bool.cond_true_left, Bool.cond_false_right, Bool.cond_true_right, Bool.cond_false_left, Bool.and_eq_true, Bool.or_eq_true, Bool.and_eq_false_iff, Bool.or_eq_false_iff, Bool.not_eq_true', Bool.not_eq_false', Bool.not_eq_true, Bool.not_eq_false, Bool.not_not, decide_eq_true_eq, decide_eq_false_iff_not, beq_iff_eq, beq_eq_false_iff_ne, bne_iff_ne, bne_eq_false_iff_eq, ne_eq, Classical.not_not, reduceCtorEq, false_or, or_false, true_and, and_true, Bool.false_eq_true, Bool.true_eq_false] at h) <;> try (exfalso; first | omega | (simp at h; done)))
      | (conv in Vc _ => arg 1; whnf
         first
          | (with_reducible refine vc_side0 ?_; rfl)
          | (with_reducible first
              | refine vc_true ?_ | refine vc_true2 ?_ | refine vc_side ?_ ?_ | refine vc_triv | refine vc_later ?_ | refine vc_caseT ?_ | refine vc_caseF ?_ | refine vc_cons ?_ | refine vc_nil ?_ ?_ | refine vc_seq ?_
                 | refine vc_region ?_ | refine vc_cond ?_ | refine vc_block ?_ | refine vc_retc ?_ | refine vc_exit ?_ | refine vc_skip ?_ | refine vc_scope ?_ | refine vc_label ?_ | refine vc_goto ?_ | refine vc_wkSl0
                 | refine vc_wkHp0 | refine vc_eqAVs0 | refine vc_preG0 | refine vc_wkSl ?_ ?_ | refine vc_wkHp ?_ ?_ | refine vc_eqAVs ?_ ?_ | refine vc_preG ?_ ?_ | refine vc_side0 ?_
                 | refine vc_eAt [] 9 (by with_unfolding_all rfl) (bind_in B bs hB hl) (fun a h => ?_) (fun h => ?_) | refine vc_ek a h ?_ | refine vc_ep h ?_ | refine vc_panc [] [7] ?_ ?_ | refine vc_weakf [] ?_ ?_ ?_
                 | refine vc_and ?_ ?_ | refine vc_ret [] [] ?_)
          | ((with_reducible first | refine vc_caseD (fun h => ?_) (fun h => ?_) | refine vc_caseN (fun h => ?_) (fun h => ?_)) <;> try (exfalso; omega))
          | ((with_reducible refine vc_case (fun h => ?_) (fun h => ?_)) <;> (try simp only [Bool.cond_true_left, Bool.cond_false_right, Bool.cond_true_right, Bool.cond_false_left, Bool.and_eq_true, Bool.or_eq_true, Bool.and_eq_false_iff, Bool.or_eq_false_iff, Bool.not_eq_true', Bool.not_eq_false', Bool.not_eq_true, Bool.not_eq_false, Bool.not_not, decide_eq_true_eq, decide_eq_false_iff_not, beq_iff_eq, beq_eq_false_iff_ne, bne_iff_ne, bne_eq_false_iff_eq, ne_eq, Classical.not_not, reduceCtorEq, false_or, or_false, true_and, and_true, Bool.false_eq_true, Bool.true_eq_false] at h) <;> try (exfalso; first | omega | (simp at h; done)))))
  all_goals rfl

theorem bind_yes (B : List D) (bs : List UInt8) (hB : B = bs.map byteD) (hl : bs.length < 2 ^ 63) (a : Bnd × Nat) (h : rdBnd bs = some a) (he : a.2 = bs.length) :
    LocalCall Try.prog 62 [.d (.sl B), .fn (.func 63) [.ptr 8 [], .ptr 7 []]] [(8, .var (.fn (.func 45) [])), (7, .var (.d (.st [.str ByteArray.empty, .nils, .int .u64 0])))] [] (one [.d (.int .i64 0)]) [(7, .var (.d (bD a.1)))] := by
  have hlen : B.length = bs.length := by rw [hB]; simp
  refine local_recovers mixed (sl2 := [(0, .d (.sl B)), (1, .fn (.func 63) [.ptr 8 [], .ptr 7 []]), (4, .ptr 1000 [])]) (hp2 := [(8, .var (.fn (.func 45) [])), (7, .var (.d (.st [.str ByteArray.empty, .nils, .int .u64 0]))), (1000, .var (.d (.int .i64 0)))]) (N := 1000) Try.func62 rfl rfl rfl rfl rfl rfl rfl rfl rfl rfl [] catch_idle catch_pan rfl (vc_chk rfl) rfl (by decide) (by decide) rfl ?_ ?_
  · skip
    repeat' (first
        | ((with_reducible refine vc_chk ?_); first | decide +kernel | rfl)
        | (with_reducible refine vc_side0 ?_; rfl)
        | (with_reducible first
             | refine vc_true ?_ | refine vc_true2 ?_ | refine vc_side ?_ ?_ | refine vc_triv | refine vc_later ?_ | refine vc_caseT ?_ | refine vc_caseF ?_ | refine vc_cons ?_ | refine vc_nil ?_ ?_ | refine vc_seq ?_
                | refine vc_region ?_ | refine vc_cond ?_ | refine vc_block ?_ | refine vc_retc ?_ | refine vc_exit ?_ | refine vc_skip ?_ | refine vc_scope ?_ | refine vc_label ?_ | refine vc_goto ?_ | refine vc_wkSl0
                | refine vc_wkHp0 | refine vc_eqAVs0 | refine vc_preG0 | refine vc_wkSl ?_ ?_ | refine vc_wkHp ?_ ?_ | refine vc_eqAVs ?_ ?_ | refine vc_preG ?_ ?_ | refine vc_side0 ?_ | refine vc_mid [] ?_ ?_ ?_ ?_
                | refine vc_weakf [] ?_ ?_ ?_ | refine vc_and ?_ ?_ | refine vc_ret [] [] ?_)
        | ((with_reducible first | refine vc_caseD (fun h => ?_) (fun h => ?_) | refine vc_caseN (fun h => ?_) (fun h => ?_)) <;> try (exfalso; omega))
        | ((with_reducible refine vc_case (fun h => ?_) (fun h => ?_)) <;> (try simp at h) <;> try (exfalso; omega))
        | (conv in Vc _ => arg 1; whnf
           first
            | (with_reducible refine vc_side0 ?_; rfl)
            | (with_reducible first
                | refine vc_true ?_ | refine vc_true2 ?_ | refine vc_side ?_ ?_ | refine vc_triv | refine vc_later ?_ | refine vc_caseT ?_ | refine vc_caseF ?_ | refine vc_cons ?_ | refine vc_nil ?_ ?_ | refine vc_seq ?_
                   | refine vc_region ?_ | refine vc_cond ?_ | refine vc_block ?_ | refine vc_retc ?_ | refine vc_exit ?_ | refine vc_skip ?_ | refine vc_scope ?_ | refine vc_label ?_ | refine vc_goto ?_ | refine vc_wkSl0
                   | refine vc_wkHp0 | refine vc_eqAVs0 | refine vc_preG0 | refine vc_wkSl ?_ ?_ | refine vc_wkHp ?_ ?_ | refine vc_eqAVs ?_ ?_ | refine vc_preG ?_ ?_ | refine vc_side0 ?_ | refine vc_mid [] ?_ ?_ ?_ ?_
                   | refine vc_weakf [] ?_ ?_ ?_ | refine vc_and ?_ ?_ | refine vc_ret [] [] ?_)
            | ((with_reducible first | refine vc_caseD (fun h => ?_) (fun h => ?_) | refine vc_caseN (fun h => ?_) (fun h => ?_)) <;> try (exfalso; omega))
            | ((with_reducible refine vc_case (fun h => ?_) (fun h => ?_)) <;> (try simp at h) <;> try (exfalso; omega))))
    all_goals rfl
  · have hcl := local_ren [(9, 3008)] [(3008, 9)] ((bind_cl B bs hB hl).ok a h) rfl
    repeat' (first
        | ((with_reducible refine vc_chk ?_); first | decide +kernel | rfl)
        | (with_reducible refine vc_side0 ?_; rfl)
        | (with_reducible first
             | refine vc_true ?_ | refine vc_true2 ?_ | refine vc_side ?_ ?_ | refine vc_triv | refine vc_later ?_ | refine vc_caseT ?_ | refine vc_caseF ?_ | refine vc_cons ?_ | refine vc_nil ?_ ?_ | refine vc_seq ?_
                | refine vc_region ?_ | refine vc_cond ?_ | refine vc_block ?_ | refine vc_retc ?_ | refine vc_exit ?_ | refine vc_skip ?_ | refine vc_scope ?_ | refine vc_label ?_ | refine vc_goto ?_ | refine vc_wkSl0
                | refine vc_wkHp0 | refine vc_eqAVs0 | refine vc_preG0 | refine vc_wkSl ?_ ?_ | refine vc_wkHp ?_ ?_ | refine vc_eqAVs ?_ ?_ | refine vc_preG ?_ ?_ | refine vc_side0 ?_ | refine vc_call [] hcl ?_
                | refine vc_weakf [] ?_ ?_ ?_ | refine vc_and ?_ ?_ | refine vc_ret [] [] ?_)
        | ((with_reducible first | refine vc_caseD (fun h => ?_) (fun h => ?_) | refine vc_caseN (fun h => ?_) (fun h => ?_)) <;> try (exfalso; omega))
        | ((with_reducible refine vc_case (fun h => ?_) (fun h => ?_)) <;> (try simp at h) <;> try (exfalso; omega))
        | (conv in Vc _ => arg 1; whnf
           first
            | (with_reducible refine vc_side0 ?_; rfl)
            | (with_reducible first
                | refine vc_true ?_ | refine vc_true2 ?_ | refine vc_side ?_ ?_ | refine vc_triv | refine vc_later ?_ | refine vc_caseT ?_ | refine vc_caseF ?_ | refine vc_cons ?_ | refine vc_nil ?_ ?_ | refine vc_seq ?_
                   | refine vc_region ?_ | refine vc_cond ?_ | refine vc_block ?_ | refine vc_retc ?_ | refine vc_exit ?_ | refine vc_skip ?_ | refine vc_scope ?_ | refine vc_label ?_ | refine vc_goto ?_ | refine vc_wkSl0
                   | refine vc_wkHp0 | refine vc_eqAVs0 | refine vc_preG0 | refine vc_wkSl ?_ ?_ | refine vc_wkHp ?_ ?_ | refine vc_eqAVs ?_ ?_ | refine vc_preG ?_ ?_ | refine vc_side0 ?_ | refine vc_call [] hcl ?_
                   | refine vc_weakf [] ?_ ?_ ?_ | refine vc_and ?_ ?_ | refine vc_ret [] [] ?_)
            | ((with_reducible first | refine vc_caseD (fun h => ?_) (fun h => ?_) | refine vc_caseN (fun h => ?_) (fun h => ?_)) <;> try (exfalso; omega))
            | ((with_reducible refine vc_case (fun h => ?_) (fun h => ?_)) <;> (try simp at h) <;> try (exfalso; omega))))
    all_goals rfl

theorem bind_more (B : List D) (bs : List UInt8) (hB : B = bs.map byteD) (hl : bs.length < 2 ^ 63) (a : Bnd × Nat) (h : rdBnd bs = some a) (he : ¬ a.2 = bs.length) :
    LocalCall Try.prog 62 [.d (.sl B), .fn (.func 63) [.ptr 8 [], .ptr 7 []]] [(8, .var (.fn (.func 45) [])), (7, .var (.d (.st [.str ByteArray.empty, .nils, .int .u64 0])))] [] (one [.d (.int .i64 3)]) [(7, .dead)] := by
  have hlen : B.length = bs.length := by rw [hB]; simp
  refine local_recovers mixed (sl2 := [(0, .d (.sl B)), (1, .fn (.func 63) [.ptr 8 [], .ptr 7 []]), (4, .ptr 1000 [])]) (hp2 := [(8, .var (.fn (.func 45) [])), (7, .var (.d (.st [.str ByteArray.empty, .nils, .int .u64 0]))), (1000, .var (.d (.int .i64 0)))]) (N := 1000) Try.func62 rfl rfl rfl rfl rfl rfl rfl rfl rfl rfl [] catch_idle catch_pan rfl (vc_chk rfl) rfl (by decide) (by decide) rfl ?_ ?_
  · skip
    repeat' (first
        | ((with_reducible refine vc_chk ?_); first | decide +kernel | rfl)
        | (with_reducible refine vc_side0 ?_; rfl)
        | (with_reducible first
             | refine vc_true ?_ | refine vc_true2 ?_ | refine vc_side ?_ ?_ | refine vc_triv | refine vc_later ?_ | refine vc_caseT ?_ | refine vc_caseF ?_ | refine vc_cons ?_ | refine vc_nil ?_ ?_ | refine vc_seq ?_
                | refine vc_region ?_ | refine vc_cond ?_ | refine vc_block ?_ | refine vc_retc ?_ | refine vc_exit ?_ | refine vc_skip ?_ | refine vc_scope ?_ | refine vc_label ?_ | refine vc_goto ?_ | refine vc_wkSl0
                | refine vc_wkHp0 | refine vc_eqAVs0 | refine vc_preG0 | refine vc_wkSl ?_ ?_ | refine vc_wkHp ?_ ?_ | refine vc_eqAVs ?_ ?_ | refine vc_preG ?_ ?_ | refine vc_side0 ?_ | refine vc_mid [] ?_ ?_ ?_ ?_
                | refine vc_weakf [] ?_ ?_ ?_ | refine vc_and ?_ ?_ | refine vc_ret [] [] ?_)
        | ((with_reducible first | refine vc_caseD (fun h => ?_) (fun h => ?_) | refine vc_caseN (fun h => ?_) (fun h => ?_)) <;> try (exfalso; omega))
        | ((with_reducible refine vc_case (fun h => ?_) (fun h => ?_)) <;> (try simp at h) <;> try (exfalso; omega))
        | (conv in Vc _ => arg 1; whnf
           first
            | (with_reducible refine vc_side0 ?_; rfl)
            | (with_reducible first
                | refine vc_true ?_ | refine vc_true2 ?_ | refine vc_side ?_ ?_ | refine vc_triv | refine vc_later ?_ | refine vc_caseT ?_ | refine vc_caseF ?_ | refine vc_cons ?_ | refine vc_nil ?_ ?_ | refine vc_seq ?_
                   | refine vc_region ?_ | refine vc_cond ?_ | refine vc_block ?_ | refine vc_retc ?_ | refine vc_exit ?_ | refine vc_skip ?_ | refine vc_scope ?_ | refine vc_label ?_ | refine vc_goto ?_ | refine vc_wkSl0
                   | refine vc_wkHp0 | refine vc_eqAVs0 | refine vc_preG0 | refine vc_wkSl ?_ ?_ | refine vc_wkHp ?_ ?_ | refine vc_eqAVs ?_ ?_ | refine vc_preG ?_ ?_ | refine vc_side0 ?_ | refine vc_mid [] ?_ ?_ ?_ ?_
                   | refine vc_weakf [] ?_ ?_ ?_ | refine vc_and ?_ ?_ | refine vc_ret [] [] ?_)
            | ((with_reducible first | refine vc_caseD (fun h => ?_) (fun h => ?_) | refine vc_caseN (fun h => ?_) (fun h => ?_)) <;> try (exfalso; omega))
            | ((with_reducible refine vc_case (fun h => ?_) (fun h => ?_)) <;> (try simp at h) <;> try (exfalso; omega))))
    all_goals rfl
  · have hcl := local_ren [(9, 3008)] [(3008, 9)] ((bind_cl B bs hB hl).ok a h) rfl
    repeat' (first
        | ((with_reducible refine vc_chk ?_); first | decide +kernel | rfl)
        | (with_reducible refine vc_side0 ?_; rfl)
        | (with_reducible first
             | refine vc_true ?_ | refine vc_true2 ?_ | refine vc_side ?_ ?_ | refine vc_triv | refine vc_later ?_ | refine vc_caseT ?_ | refine vc_caseF ?_ | refine vc_cons ?_ | refine vc_nil ?_ ?_ | refine vc_seq ?_
                | refine vc_region ?_ | refine vc_cond ?_ | refine vc_block ?_ | refine vc_retc ?_ | refine vc_exit ?_ | refine vc_skip ?_ | refine vc_scope ?_ | refine vc_label ?_ | refine vc_goto ?_ | refine vc_wkSl0
                | refine vc_wkHp0 | refine vc_eqAVs0 | refine vc_preG0 | refine vc_wkSl ?_ ?_ | refine vc_wkHp ?_ ?_ | refine vc_eqAVs ?_ ?_ | refine vc_preG ?_ ?_ | refine vc_side0 ?_ | refine vc_call [] hcl ?_
                | refine vc_retK [] [] [7] ?_ | refine vc_weakf [] ?_ ?_ ?_ | refine vc_and ?_ ?_ | refine vc_ret [] [] ?_)
        | ((with_reducible first | refine vc_caseD (fun h => ?_) (fun h => ?_) | refine vc_caseN (fun h => ?_) (fun h => ?_)) <;> try (exfalso; omega))
        | ((with_reducible refine vc_case (fun h => ?_) (fun h => ?_)) <;> (try simp at h) <;> try (exfalso; omega))
        | (conv in Vc _ => arg 1; whnf
           first
            | (with_reducible refine vc_side0 ?_; rfl)
            | (with_reducible first
                | refine vc_true ?_ | refine vc_true2 ?_ | refine vc_side ?_ ?_ | refine vc_triv | refine vc_later ?_ | refine vc_caseT ?_ | refine vc_caseF ?_ | refine vc_cons ?_ | refine vc_nil ?_ ?_ | refine vc_seq ?_
                   | refine vc_region ?_ | refine vc_cond ?_ | refine vc_block ?_ | refine vc_retc ?_ | refine vc_exit ?_ | refine vc_skip ?_ | refine vc_scope ?_ | refine vc_label ?_ | refine vc_goto ?_ | refine vc_wkSl0
                   | refine vc_wkHp0 | refine vc_eqAVs0 | refine vc_preG0 | refine vc_wkSl ?_ ?_ | refine vc_wkHp ?_ ?_ | refine vc_eqAVs ?_ ?_ | refine vc_preG ?_ ?_ | refine vc_side0 ?_ | refine vc_call [] hcl ?_
                   | refine vc_retK [] [] [7] ?_ | refine vc_weakf [] ?_ ?_ ?_ | refine vc_and ?_ ?_ | refine vc_ret [] [] ?_)
            | ((with_reducible first | refine vc_caseD (fun h => ?_) (fun h => ?_) | refine vc_caseN (fun h => ?_) (fun h => ?_)) <;> try (exfalso; omega))
            | ((with_reducible refine vc_case (fun h => ?_) (fun h => ?_)) <;> (try simp at h) <;> try (exfalso; omega))))
    all_goals rfl

theorem bind_not (B : List D) (bs : List UInt8) (hB : B = bs.map byteD) (hl : bs.length < 2 ^ 63) (h : rdBnd bs = none) :
    LocalCall Try.prog 62 [.d (.sl B), .fn (.func 63) [.ptr 8 [], .ptr 7 []]] [(8, .var (.fn (.func 45) [])), (7, .var (.d (.st [.str ByteArray.empty, .nils, .int .u64 0])))] [] (one [.d (.int .i64 3)]) [(7, .dead)] := by
  have hlen : B.length = bs.length := by rw [hB]; simp
  refine local_recovers mixed (sl2 := [(0, .d (.sl B)), (1, .fn (.func 63) [.ptr 8 [], .ptr 7 []]), (4, .ptr 1000 [])]) (hp2 := [(8, .var (.fn (.func 45) [])), (7, .var (.d (.st [.str ByteArray.empty, .nils, .int .u64 0]))), (1000, .var (.d (.int .i64 0)))]) (N := 1000) Try.func62 rfl rfl rfl rfl rfl rfl rfl rfl rfl rfl [] catch_idle catch_pan rfl (vc_chk rfl) rfl (by decide) (by decide) rfl ?_ ?_
  · skip
    repeat' (first
        | ((with_reducible refine vc_chk ?_); first | decide +kernel | rfl)
        | (with_reducible refine vc_side0 ?_; rfl)
        | (with_reducible first
             | refine vc_true ?_ | refine vc_true2 ?_ | refine vc_side ?_ ?_ | refine vc_triv | refine vc_later ?_ | refine vc_caseT ?_ | refine vc_caseF ?_ | refine vc_cons ?_ | refine vc_nil ?_ ?_ | refine vc_seq ?_
                | refine vc_region ?_ | refine vc_cond ?_ | refine vc_block ?_ | refine vc_retc ?_ | refine vc_exit ?_ | refine vc_skip ?_ | refine vc_scope ?_ | refine vc_label ?_ | refine vc_goto ?_ | refine vc_wkSl0
                | refine vc_wkHp0 | refine vc_eqAVs0 | refine vc_preG0 | refine vc_wkSl ?_ ?_ | refine vc_wkHp ?_ ?_ | refine vc_eqAVs ?_ ?_ | refine vc_preG ?_ ?_ | refine vc_side0 ?_ | refine vc_mid [] ?_ ?_ ?_ ?_
                | refine vc_weakf [] ?_ ?_ ?_ | refine vc_and ?_ ?_ | refine vc_ret [] [] ?_)
        | ((with_reducible first | refine vc_caseD (fun h => ?_) (fun h => ?_) | refine vc_caseN (fun h => ?_) (fun h => ?_)) <;> try (exfalso; omega))
        | ((with_reducible refine vc_case (fun h => ?_) (fun h => ?_)) <;> (try simp at h) <;> try (exfalso; omega))
        | (conv in Vc _ => arg 1; whnf
           first
            | (with_reducible refine vc_side0 ?_; rfl)
            | (with_reducible first
                | refine vc_true ?_ | refine vc_true2 ?_ | refine vc_side ?_ ?_ | refine vc_triv | refine vc_later ?_ | refine vc_caseT ?_ | refine vc_caseF ?_ | refine vc_cons ?_ | refine vc_nil ?_ ?_ | refine vc_seq ?_
                   | refine vc_region ?_ | refine vc_cond ?_ | refine vc_block ?_ | refine vc_retc ?_ | refine vc_exit ?_ | refine vc_skip ?_ | refine vc_scope ?_ | refine vc_label ?_ | refine vc_goto ?_ | refine vc_wkSl0
                   | refine vc_wkHp0 | refine vc_eqAVs0 | refine vc_preG0 | refine vc_wkSl ?_ ?_ | refine vc_wkHp ?_ ?_ | refine vc_eqAVs ?_ ?_ | refine vc_preG ?_ ?_ | refine vc_side0 ?_ | refine vc_mid [] ?_ ?_ ?_ ?_
                   | refine vc_weakf [] ?_ ?_ ?_ | refine vc_and ?_ ?_ | refine vc_ret [] [] ?_)
            | ((with_reducible first | refine vc_caseD (fun h => ?_) (fun h => ?_) | refine vc_caseN (fun h => ?_) (fun h => ?_)) <;> try (exfalso; omega))
            | ((with_reducible refine vc_case (fun h => ?_) (fun h => ?_)) <;> (try simp at h) <;> try (exfalso; omega))))
    all_goals rfl
  · have hcl := localPan_ren [(9, 3008)] [(3008, 9)] ((bind_cl B bs hB hl).pan h) rfl
    repeat' (first
        | ((with_reducible refine vc_chk ?_); first | decide +kernel | rfl)
        | (with_reducible refine vc_side0 ?_; rfl)
        | (with_reducible first
             | refine vc_true ?_ | refine vc_true2 ?_ | refine vc_side ?_ ?_ | refine vc_triv | refine vc_later ?_ | refine vc_caseT ?_ | refine vc_caseF ?_ | refine vc_cons ?_ | refine vc_nil ?_ ?_ | refine vc_seq ?_
                | refine vc_region ?_ | refine vc_cond ?_ | refine vc_block ?_ | refine vc_retc ?_ | refine vc_exit ?_ | refine vc_skip ?_ | refine vc_scope ?_ | refine vc_label ?_ | refine vc_goto ?_ | refine vc_wkSl0
                | refine vc_wkHp0 | refine vc_eqAVs0 | refine vc_preG0 | refine vc_wkSl ?_ ?_ | refine vc_wkHp ?_ ?_ | refine vc_eqAVs ?_ ?_ | refine vc_preG ?_ ?_ | refine vc_side0 ?_ | refine vc_pan [] hcl ?_
                | refine vc_retK [] [] [7] ?_ | refine vc_weakf [] ?_ ?_ ?_ | refine vc_and ?_ ?_ | refine vc_ret [] [] ?_)
        | ((with_reducible first | refine vc_caseD (fun h => ?_) (fun h => ?_) | refine vc_caseN (fun h => ?_) (fun h => ?_)) <;> try (exfalso; omega))
        | ((with_reducible refine vc_case (fun h => ?_) (fun h => ?_)) <;> (try simp at h) <;> try (exfalso; omega))
        | (conv in Vc _ => arg 1; whnf
           first
            | (with_reducible refine vc_side0 ?_; rfl)
            | (with_reducible first
                | refine vc_true ?_ | refine vc_true2 ?_ | refine vc_side ?_ ?_ | refine vc_triv | refine vc_later ?_ | refine vc_caseT ?_ | refine vc_caseF ?_ | refine vc_cons ?_ | refine vc_nil ?_ ?_ | refine vc_seq ?_
                   | refine vc_region ?_ | refine vc_cond ?_ | refine vc_block ?_ | refine vc_retc ?_ | refine vc_exit ?_ | refine vc_skip ?_ | refine vc_scope ?_ | refine vc_label ?_ | refine vc_goto ?_ | refine vc_wkSl0
                   | refine vc_wkHp0 | refine vc_eqAVs0 | refine vc_preG0 | refine vc_wkSl ?_ ?_ | refine vc_wkHp ?_ ?_ | refine vc_eqAVs ?_ ?_ | refine vc_preG ?_ ?_ | refine vc_side0 ?_ | refine vc_pan [] hcl ?_
                   | refine vc_retK [] [] [7] ?_ | refine vc_weakf [] ?_ ?_ ?_ | refine vc_and ?_ ?_ | refine vc_ret [] [] ?_)
            | ((with_reducible first | refine vc_caseD (fun h => ?_) (fun h => ?_) | refine vc_caseN (fun h => ?_) (fun h => ?_)) <;> try (exfalso; omega))
            | ((with_reducible refine vc_case (fun h => ?_) (fun h => ?_)) <;> (try simp at h) <;> try (exfalso; omega))))
    all_goals rfl

theorem bind_T (B : List D) (bs : List UInt8) (hB : B = bs.map byteD) (hl : bs.length < 2 ^ 63) (O : Option Bnd) (hO : toFin bs.length (rdBnd bs) = O) :
    LocalCall Try.prog 44 [.d (.sl B), .fn (.func 45) []] [] [] (one [.d (bD (O.getD b0)), .d (.int .i64 (errI O))]) [] := by
  subst hO
  rcases toFin_cases bs.length (rdBnd bs) with ⟨a, h, he, hq⟩ | ⟨hn, hq⟩
  · rw [hq]
    have hr := local_ren [(8, 1000), (7, 2000)] [(1000, 8), (2000, 7)] (bind_yes B bs hB hl a h he) rfl
    refine vc_fn mixed Try.func44 rfl rfl [] (vc_chk rfl) ?_
    repeat' (first
        | ((with_reducible refine vc_chk ?_); first | decide +kernel | rfl)
        | (with_reducible refine vc_side0 ?_; rfl)
        | (with_reducible first
             | refine vc_true ?_ | refine vc_true2 ?_ | refine vc_side ?_ ?_ | refine vc_triv | refine vc_later ?_ | refine vc_caseT ?_ | refine vc_caseF ?_ | refine vc_cons ?_ | refine vc_nil ?_ ?_ | refine vc_seq ?_
                | refine vc_region ?_ | refine vc_cond ?_ | refine vc_block ?_ | refine vc_retc ?_ | refine vc_exit ?_ | refine vc_skip ?_ | refine vc_scope ?_ | refine vc_label ?_ | refine vc_goto ?_ | refine vc_wkSl0
                | refine vc_wkHp0 | refine vc_eqAVs0 | refine vc_preG0 | refine vc_wkSl ?_ ?_ | refine vc_wkHp ?_ ?_ | refine vc_eqAVs ?_ ?_ | refine vc_preG ?_ ?_ | refine vc_side0 ?_ | refine vc_call [] hr ?_
                | refine vc_weakf [] ?_ ?_ ?_ | refine vc_and ?_ ?_ | refine vc_ret [] [] ?_)
        | ((with_reducible first | refine vc_caseD (fun h => ?_) (fun h => ?_) | refine vc_caseN (fun h => ?_) (fun h => ?_)) <;> try (exfalso; omega))
        | ((with_reducible refine vc_case (fun h => ?_) (fun h => ?_)) <;> (try simp only [Bool.cond_true_left, Bool.cond_false_right, Bool.cond_true_right, Bool.cond_false_left, Bool.and_eq_true, Bool.or_eq_true, Bool.and_eq_false_iff, Bool.or_eq_false_iff, Bool.not_eq_true', Bool.not_eq_false', Bool.not_eq_true, Bool.not_eq_false, Bool.not_not, decide_eq_true_eq, decide_eq_false_iff_not, beq_iff_eq, beq_eq_false_iff_ne, bne_iff_ne, bne_eq_false_iff_eq, ne_eq, Classical.not_not, reduceCtorEq, false_or, or_false, true_and, and_true, Bool.false_eq_true, Bool.true_eq_false] at h) <;> try (exfalso; first | omega | (simp at h; done)))
        | (conv in Vc _ => arg 1; whnf
           first
            | (with_reducible refine vc_side0 ?_; rfl)
            | (with_reducible first
                | refine vc_true ?_ | refine vc_true2 ?_ | refine vc_side ?_ ?_ | refine vc_triv | refine vc_later ?_ | refine vc_caseT ?_ | refine vc_caseF ?_ | refine vc_cons ?_ | refine vc_nil ?_ ?_ | refine vc_seq ?_
                   | refine vc_region ?_ | refine vc_cond ?_ | refine vc_block ?_ | refine vc_retc ?_ | refine vc_exit ?_ | refine vc_skip ?_ | refine vc_scope ?_ | refine vc_label ?_ | refine vc_goto ?_ | refine vc_wkSl0
                   | refine vc_wkHp0 | refine vc_eqAVs0 | refine vc_preG0 | refine vc_wkSl ?_ ?_ | refine vc_wkHp ?_ ?_ | refine vc_eqAVs ?_ ?_ | refine vc_preG ?_ ?_ | refine vc_side0 ?_ | refine vc_call [] hr ?_
                   | refine vc_weakf [] ?_ ?_ ?_ | refine vc_and ?_ ?_ | refine vc_ret [] [] ?_)
            | ((with_reducible first | refine vc_caseD (fun h => ?_) (fun h => ?_) | refine vc_caseN (fun h => ?_) (fun h => ?_)) <;> try (exfalso; omega))
            | ((with_reducible refine vc_case (fun h => ?_) (fun h => ?_)) <;> (try simp only [Bool.cond_true_left, Bool.cond_false_right, Bool.cond_true_right, Bool.cond_false_left, Bool.and_eq_true, Bool.or_eq_true, Bool.and_eq_false_iff, Bool.or_eq_false_iff, Bool.not_eq_true', Bool.not_eq_false', Bool.not_eq_true, Bool.not_eq_false, Bool.not_not, decide_eq_true_eq, decide_eq_false_iff_not, beq_iff_eq, beq_eq_false_iff_ne, bne_iff_ne, bne_eq_false_iff_eq, ne_eq, Classical.not_not, reduceCtorEq, false_or, or_false, true_and, and_true, Bool.false_eq_true, Bool.true_eq_false] at h) <;> try (exfalso; first | omega | (simp at h; done)))))
    all_goals first | rfl | exact ⟨trivial, trivial, trivial⟩
  · rw [hq]
    have hr0 : LocalCall Try.prog 62 [.d (.sl B), .fn (.func 63) [.ptr 8 [], .ptr 7 []]] [(8, .var (.fn (.func 45) [])), (7, .var (.d (.st [.str ByteArray.empty, .nils, .int .u64 0])))] [] (one [.d (.int .i64 3)]) [(7, .dead)] := by
      rcases hn with h | ⟨a, h, he⟩
      · exact bind_not B bs hB hl h
      · exact bind_more B bs hB hl a h he
    have hr := local_ren [(8, 1000), (7, 2000)] [(1000, 8), (2000, 7)] hr0 rfl
    have key : LocalCall Try.prog 44 [.d (.sl B), .fn (.func 45) []] [] [] (one [.d (.st [.str ByteArray.empty, .nils, .int .u64 0]), .d (.int .i64 3)]) [] := by
      refine vc_fn mixed Try.func44 rfl rfl [] (vc_chk rfl) ?_
      repeat' (first
          | ((with_reducible refine vc_chk ?_); first | decide +kernel | rfl)
          | (with_reducible refine vc_side0 ?_; rfl)
          | (with_reducible first
               | refine vc_true ?_ | refine vc_true2 ?_ | refine vc_side ?_ ?_ | refine vc_triv | refine vc_later ?_ | refine vc_caseT ?_ | refine vc_caseF ?_ | refine vc_cons ?_ | refine vc_nil ?_ ?_ | refine vc_seq ?_
                  | refine vc_region ?_ | refine vc_cond ?_ | refine vc_block ?_ | refine vc_retc ?_ | refine vc_exit ?_ | refine vc_skip ?_ | refine vc_scope ?_ | refine vc_label ?_ | refine vc_goto ?_ | refine vc_wkSl0
                  | refine vc_wkHp0 | refine vc_eqAVs0 | refine vc_preG0 | refine vc_wkSl ?_ ?_ | refine vc_wkHp ?_ ?_ | refine vc_eqAVs ?_ ?_ | refine vc_preG ?_ ?_ | refine vc_side0 ?_ | refine vc_call [] hr ?_
                  | refine vc_weakf [] ?_ ?_ ?_ | refine vc_and ?_ ?_ | refine vc_ret [] [] ?_)
          | ((with_reducible first | refine vc_caseD (fun h => ?_) (fun h => ?_) | refine vc_caseN (fun h => ?_) (fun h => ?_)) <;> try (exfalso; omega))
          | ((with_reducible refine vc_case (fun h => ?_) (fun h => ?_)) <;> (try simp only [Bool.cond_true_left, Bool.cond_false_right, Bool.cond_true_right, Bool.cond_false_left, Bool.and_eq_true, Bool.or_eq_true, Bool.and_eq_false_iff, Bool.or_eq_false_iff, Bool.not_eq_true', Bool.not_eq_false', Bool.not_eq_true, Bool.not_eq_false, Bool.not_not, decide_eq_true_eq, decide_eq_false_iff_not, beq_iff_eq, beq_eq_false_iff_ne, bne_iff_ne, bne_eq_false_iff_eq, ne_eq, Classical.not_not, reduceCtorEq, false_or, or_false, true_and, and_true, Bool.false_eq_true, Bool.true_eq_false] at h) <;> try (exfalso; first | omega | (simp at h; done)))
          | (conv in Vc _ => arg 1; whnf
             first
              | (with_reducible refine vc_side0 ?_; rfl)
              | (with_reducible first
                  | refine vc_true ?_ | refine vc_true2 ?_ | refine vc_side ?_ ?_ | refine vc_triv | refine vc_later ?_ | refine vc_caseT ?_ | refine vc_caseF ?_ | refine vc_cons ?_ | refine vc_nil ?_ ?_ | refine vc_seq ?_
                     | refine vc_region ?_ | refine vc_cond ?_ | refine vc_block ?_ | refine vc_retc ?_ | refine vc_exit ?_ | refine vc_skip ?_ | refine vc_scope ?_ | refine vc_label ?_ | refine vc_goto ?_ | refine vc_wkSl0
                     | refine vc_wkHp0 | refine vc_eqAVs0 | refine vc_preG0 | refine vc_wkSl ?_ ?_ | refine vc_wkHp ?_ ?_ | refine vc_eqAVs ?_ ?_ | refine vc_preG ?_ ?_ | refine vc_side0 ?_ | refine vc_call [] hr ?_
                     | refine vc_weakf [] ?_ ?_ ?_ | refine vc_and ?_ ?_ | refine vc_ret [] [] ?_)
              | ((with_reducible first | refine vc_caseD (fun h => ?_) (fun h => ?_) | refine vc_caseN (fun h => ?_) (fun h => ?_)) <;> try (exfalso; omega))
              | ((with_reducible refine vc_case (fun h => ?_) (fun h => ?_)) <;> (try simp only [Bool.cond_true_left, Bool.cond_false_right, Bool.cond_true_right, Bool.cond_false_left, Bool.and_eq_true, Bool.or_eq_true, Bool.and_eq_false_iff, Bool.or_eq_false_iff, Bool.not_eq_true', Bool.not_eq_false', Bool.not_eq_true, Bool.not_eq_false, Bool.not_not, decide_eq_true_eq, decide_eq_false_iff_not, beq_iff_eq, beq_eq_false_iff_ne, bne_iff_ne, bne_eq_false_iff_eq, ne_eq, Classical.not_not, reduceCtorEq, false_or, or_false, true_and, and_true, Bool.false_eq_true, Bool.true_eq_false] at h) <;> try (exfalso; first | omega | (simp at h; done)))))
      all_goals first | rfl | exact ⟨trivial, trivial, trivial⟩
    exact local_dn key

theorem bind_ok (B : List D) (bs : List UInt8) (hB : B = bs.map byteD) (hl : bs.length < 2 ^ 63) (O : Option Bnd) (hO : toFin bs.length (rdBnd bs) = O) :
    LocalCall Try.prog 28 [.d (.sl B)] [] [] (one [.d (bD (O.getD b0)), .d (.int .i64 (errI O))]) [] := by
  refine vc_fn mixed Try.func28 rfl rfl [] (vc_chk rfl) ?_
  repeat' (first
      | ((with_reducible refine vc_chk ?_); first | decide +kernel | rfl)
      | (with_reducible refine vc_side0 ?_; rfl)
      | (with_reducible first
           | refine vc_true ?_ | refine vc_true2 ?_ | refine vc_side ?_ ?_ | refine vc_triv | refine vc_later ?_ | refine vc_caseT ?_ | refine vc_caseF ?_ | refine vc_cons ?_ | refine vc_nil ?_ ?_ | refine vc_seq ?_
              | refine vc_region ?_ | refine vc_cond ?_ | refine vc_block ?_ | refine vc_retc ?_ | refine vc_exit ?_ | refine vc_skip ?_ | refine vc_scope ?_ | refine vc_label ?_ | refine vc_goto ?_ | refine vc_wkSl0
              | refine vc_wkHp0 | refine vc_eqAVs0 | refine vc_preG0 | refine vc_wkSl ?_ ?_ | refine vc_wkHp ?_ ?_ | refine vc_eqAVs ?_ ?_ | refine vc_preG ?_ ?_ | refine vc_side0 ?_ | refine vc_call [] (bind_T B bs hB hl O hO) ?_
              | refine vc_weakf [] ?_ ?_ ?_ | refine vc_and ?_ ?_ | refine vc_ret [] [] ?_)
      | ((with_reducible first | refine vc_caseD (fun h => ?_) (fun h => ?_) | refine vc_caseN (fun h => ?_) (fun h => ?_)) <;> try (exfalso; omega))
      | ((with_reducible refine vc_case (fun h => ?_) (fun h => ?_)) <;> (try simp only [Bool.cond_true_left, Bool.cond_false_right, Bool.cond_true_right, Bool.cond_false_left, Bool.and_eq_true, Bool.or_eq_true, Bool.and_eq_false_iff, Bool.or_eq_false_iff, Bool.not_eq_true', Bool.not_eq_false', Bool.not_eq_true, Bool.not_eq_false, Bool.not_not, decide_eq_true_eq, decide_eq_false_iff_not, beq_iff_eq, beq_eq_false_iff_ne, bne_iff_ne, bne_eq_false_iff_eq, ne_eq, Classical.not_not, reduceCtorEq, false_or, or_false, true_and, and_true, Bool.false_eq_true, Bool.true_eq_false] at h) <;> try (exfalso; first | omega | (simp at h; done)))
      | (conv in Vc _ => arg 1; whnf
         first
          | (with_reducible refine vc_side0 ?_; rfl)
          | (with_reducible first
              | refine vc_true ?_ | refine vc_true2 ?_ | refine vc_side ?_ ?_ | refine vc_triv | refine vc_later ?_ | refine vc_caseT ?_ | refine vc_caseF ?_ | refine vc_cons ?_ | refine vc_nil ?_ ?_ | refine vc_seq ?_
                 | refine vc_region ?_ | refine vc_cond ?_ | refine vc_block ?_ | refine vc_retc ?_ | refine vc_exit ?_ | refine vc_skip ?_ | refine vc_scope ?_ | refine vc_label ?_ | refine vc_goto ?_ | refine vc_wkSl0
                 | refine vc_wkHp0 | refine vc_eqAVs0 | refine vc_preG0 | refine vc_wkSl ?_ ?_ | refine vc_wkHp ?_ ?_ | refine vc_eqAVs ?_ ?_ | refine vc_preG ?_ ?_ | refine vc_side0 ?_
                 | refine vc_call [] (bind_T B bs hB hl O hO) ?_ | refine vc_weakf [] ?_ ?_ ?_ | refine vc_and ?_ ?_ | refine vc_ret [] [] ?_)
          | ((with_reducible first | refine vc_caseD (fun h => ?_) (fun h => ?_) | refine vc_caseN (fun h => ?_) (fun h => ?_)) <;> try (exfalso; omega))
          | ((with_reducible refine vc_case (fun h => ?_) (fun h => ?_)) <;> (try simp only [Bool.cond_true_left, Bool.cond_false_right, Bool.cond_true_right, Bool.cond_false_left, Bool.and_eq_true, Bool.or_eq_true, Bool.and_eq_false_iff, Bool.or_eq_false_iff, Bool.not_eq_true', Bool.not_eq_false', Bool.not_eq_true, Bool.not_eq_false, Bool.not_not, decide_eq_true_eq, decide_eq_false_iff_not, beq_iff_eq, beq_eq_false_iff_ne, bne_iff_ne, bne_eq_false_iff_eq, ne_eq, Classical.not_not, reduceCtorEq, false_or, or_false, true_and, and_true, Bool.false_eq_true, Bool.true_eq_false] at h) <;> try (exfalso; first | omega | (simp at h; done)))))
  all_goals first | rfl | exact ⟨trivial, trivial, trivial⟩

theorem req_cl (B : List D) (bs : List UInt8) (hB : B = bs.map byteD) (hl : bs.length < 2 ^ 63) :
    LocalE (rdReq bs) Try.prog 66 [.ptr 9 [], .ptr 8 [], .ptr 7 []] [(9, rd B 0), (8, .var (.fn (.func 53) [])), (7, .var (.d (.st [.int .i64 0, .str ByteArray.empty, .nils, digD zero32])))] [] (fun _ => []) (fun a => [(9, rd B a.2), (7, .var (.d (qD a.1)))]) [] fault [(9, .dead), (7, .dead)] := by
  refine vc_fnE mixed Try.func66 rfl rfl [] (rdReq bs) (vc_chk rfl) ?_
  repeat' (first
      | ((with_reducible refine vc_chk ?_); first | decide +kernel | rfl)
      | (with_reducible refine vc_side0 ?_; rfl)
      | (with_reducible first
           | refine vc_true ?_ | refine vc_true2 ?_ | refine vc_side ?_ ?_ | refine vc_triv | refine vc_later ?_ | refine vc_caseT ?_ | refine vc_caseF ?_ | refine vc_cons ?_ | refine vc_nil ?_ ?_ | refine vc_seq ?_
              | refine vc_region ?_ | refine vc_cond ?_ | refine vc_block ?_ | refine vc_retc ?_ | refine vc_exit ?_ | refine vc_skip ?_ | refine vc_scope ?_ | refine vc_label ?_ | refine vc_goto ?_ | refine vc_wkSl0
              | refine vc_wkHp0 | refine vc_eqAVs0 | refine vc_preG0 | refine vc_wkSl ?_ ?_ | refine vc_wkHp ?_ ?_ | refine vc_eqAVs ?_ ?_ | refine vc_preG ?_ ?_ | refine vc_side0 ?_
              | refine vc_eAt [] 9 (by with_unfolding_all rfl) (req_in B bs hB hl) (fun a h => ?_) (fun h => ?_) | refine vc_ek a h ?_ | refine vc_ep h ?_ | refine vc_panc [] [7] ?_ ?_ | refine vc_weakf [] ?_ ?_ ?_
              | refine vc_and ?_ ?_ | refine vc_ret [] [] ?_)
      | ((with_reducible first | refine vc_caseD (fun h => ?_) (fun h => ?_) | refine vc_caseN (fun h => ?_) (fun h => ?_)) <;> try (exfalso; omega))
      | ((with_reducible refine vc_case (fun h => ?_) (fun h => ?_)) <;> (try simp only [Bool.cond_true_left, Bool.cond_false_right, Bool.cond_true_right, Bool.cond_false_left, Bool.and_eq_true, Bool.or_eq_true, Bool.and_eq_false_iff, Bool.or_eq_false_iff, Bool.not_eq_true', Bool.not_eq_false', Bool.not_eq_true, Bool.not_eq_false, Bool.not_not, decide_eq_true_eq, decide_eq_false_iff_not, beq_iff_eq, beq_eq_false_iff_ne, bne_iff_ne, bne_eq_false_iff_eq, ne_eq, Classical.not_not, reduceCtorEq, false_or, or_false, true_and, and_true, Bool.false_eq_true, Bool.true_eq_false] at h) <;> try (exfalso; first | omega | (simp at h; done)))
      | (conv in Vc _ => arg 1; whnf
         first
          | (with_reducible refine vc_side0 ?_; rfl)
          | (with_reducible first
              | refine vc_true ?_ | refine vc_true2 ?_ | refine vc_side ?_ ?_ | refine vc_triv | refine vc_later ?_ | refine vc_caseT ?_ | refine vc_caseF ?_ | refine vc_cons ?_ | refine vc_nil ?_ ?_ | refine vc_seq ?_
                 | refine vc_region ?_ | refine vc_cond ?_ | refine vc_block ?_ | refine vc_retc ?_ | refine vc_exit ?_ | refine vc_skip ?_ | refine vc_scope ?_ | refine vc_label ?_ | refine vc_goto ?_ | refine vc_wkSl0
                 | refine vc_wkHp0 | refine vc_eqAVs0 | refine vc_preG0 | refine vc_wkSl ?_ ?_ | refine vc_wkHp ?_ ?_ | refine vc_eqAVs ?_ ?_ | refine vc_preG ?_ ?_ | refine vc_side0 ?_
                 | refine vc_eAt [] 9 (by with_unfolding_all rfl) (req_in B bs hB hl) (fun a h => ?_) (fun h => ?_) | refine vc_ek a h ?_ | refine vc_ep h ?_ | refine vc_panc [] [7] ?_ ?_ | refine vc_weakf [] ?_ ?_ ?_
                 | refine vc_and ?_ ?_ | refine vc_ret [] [] ?_)
          | ((with_reducible first | refine vc_caseD (fun h => ?_) (fun h => ?_) | refine vc_caseN (fun h => ?_) (fun h => ?_)) <;> try (exfalso; omega))
          | ((with_reducible refine vc_case (fun h => ?_) (fun h => ?_)) <;> (try simp only [Bool.cond_true_left, Bool.cond_false_right, Bool.cond_true_right, Bool.cond_false_left, Bool.and_eq_true, Bool.or_eq_true, Bool.and_eq_false_iff, Bool.or_eq_false_iff, Bool.not_eq_true', Bool.not_eq_false', Bool.not_eq_true, Bool.not_eq_false, Bool.not_not, decide_eq_true_eq, decide_eq_false_iff_not, beq_iff_eq, beq_eq_false_iff_ne, bne_iff_ne, bne_eq_false_iff_eq, ne_eq, Classical.not_not, reduceCtorEq, false_or, or_false, true_and, and_true, Bool.false_eq_true, Bool.true_eq_false] at h) <;> try (exfalso; first | omega | (simp at h; done)))))
  all_goals rfl

theorem req_yes (B : List D) (bs : List UInt8) (hB : B = bs.map byteD) (hl : bs.length < 2 ^ 63) (a : Req × Nat) (h : rdReq bs = some a) (he : a.2 = bs.length) :
    LocalCall Try.prog 62 [.d (.sl B), .fn (.func 66) [.ptr 8 [], .ptr 7 []]] [(8, .var (.fn (.func 53) [])), (7, .var (.d (.st [.int .i64 0, .str ByteArray.empty, .nils, digD zero32])))] [] (one [.d (.int .i64 0)]) [(7, .var (.d (qD a.1)))] := by
  have hlen : B.length = bs.length := by rw [hB]; simp
  refine local_recovers mixed (sl2 := [(0, .d (.sl B)), (1, .fn (.func 66) [.ptr 8 [], .ptr 7 []]), (4, .ptr 1000 [])]) (hp2 := [(8, .var (.fn (.func 53) [])), (7, .var (.d (.st [.int .i64 0, .str ByteArray.empty, .nils, digD zero32]))), (1000, .var (.d (.int .i64 0)))]) (N := 1000) Try.func62 rfl rfl rfl rfl rfl rfl rfl rfl rfl rfl [] catch_idle catch_pan rfl (vc_chk rfl) rfl (by decide) (by decide) rfl ?_ ?_
  · skip
    repeat' (first
        | ((with_reducible refine vc_chk ?_); first | decide +kernel | rfl)
        | (with_reducible refine vc_side0 ?_; rfl)
        | (with_reducible first
             | refine vc_true ?_ | refine vc_true2 ?_ | refine vc_side ?_ ?_ | refine vc_triv | refine vc_later ?_ | refine vc_caseT ?_ | refine vc_caseF ?_ | refine vc_cons ?_ | refine vc_nil ?_ ?_ | refine vc_seq ?_
                | refine vc_region ?_ | refine vc_cond ?_ | refine vc_block ?_ | refine vc_retc ?_ | refine vc_exit ?_ | refine vc_skip ?_ | refine vc_scope ?_ | refine vc_label ?_ | refine vc_goto ?_ | refine vc_wkSl0
                | refine vc_wkHp0 | refine vc_eqAVs0 | refine vc_preG0 | refine vc_wkSl ?_ ?_ | refine vc_wkHp ?_ ?_ | refine vc_eqAVs ?_ ?_ | refine vc_preG ?_ ?_ | refine vc_side0 ?_ | refine vc_mid [] ?_ ?_ ?_ ?_
                | refine vc_weakf [] ?_ ?_ ?_ | refine vc_and ?_ ?_ | refine vc_ret [] [] ?_)
        | ((with_reducible first | refine vc_caseD (fun h => ?_) (fun h => ?_) | refine vc_caseN (fun h => ?_) (fun h => ?_)) <;> try (exfalso; omega))
        | ((with_reducible refine vc_case (fun h => ?_) (fun h => ?_)) <;> (try simp at h) <;> try (exfalso; omega))
        | (conv in Vc _ => arg 1; whnf
           first
            | (with_reducible refine vc_side0 ?_; rfl)
            | (with_reducible first
                | refine vc_true ?_ | refine vc_true2 ?_ | refine vc_side ?_ ?_ | refine vc_triv | refine vc_later ?_ | refine vc_caseT ?_ | refine vc_caseF ?_ | refine vc_cons ?_ | refine vc_nil ?_ ?_ | refine vc_seq ?_
                   | refine vc_region ?_ | refine vc_cond ?_ | refine vc_block ?_ | refine vc_retc ?_ | refine vc_exit ?_ | refine vc_skip ?_ | refine vc_scope ?_ | refine vc_label ?_ | refine vc_goto ?_ | refine vc_wkSl0
                   | refine vc_wkHp0 | refine vc_eqAVs0 | refine vc_preG0 | refine vc_wkSl ?_ ?_ | refine vc_wkHp ?_ ?_ | refine vc_eqAVs ?_ ?_ | refine vc_preG ?_ ?_ | refine vc_side0 ?_ | refine vc_mid [] ?_ ?_ ?_ ?_
                   | refine vc_weakf [] ?_ ?_ ?_ | refine vc_and ?_ ?_ | refine vc_ret [] [] ?_)
            | ((with_reducible first | refine vc_caseD (fun h => ?_) (fun h => ?_) | refine vc_caseN (fun h => ?_) (fun h => ?_)) <;> try (exfalso; omega))
            | ((with_reducible refine vc_case (fun h => ?_) (fun h => ?_)) <;> (try simp at h) <;> try (exfalso; omega))))
    all_goals rfl
  · have hcl := local_ren [(9, 3008)] [(3008, 9)] ((req_cl B bs hB hl).ok a h) rfl
    repeat' (first
        | ((with_reducible refine vc_chk ?_); first | decide +kernel | rfl)
        | (with_reducible refine vc_side0 ?_; rfl)
        | (with_reducible first
             | refine vc_true ?_ | refine vc_true2 ?_ | refine vc_side ?_ ?_ | refine vc_triv | refine vc_later ?_ | refine vc_caseT ?_ | refine vc_caseF ?_ | refine vc_cons ?_ | refine vc_nil ?_ ?_ | refine vc_seq ?_
                | refine vc_region ?_ | refine vc_cond ?_ | refine vc_block ?_ | refine vc_retc ?_ | refine vc_exit ?_ | refine vc_skip ?_ | refine vc_scope ?_ | refine vc_label ?_ | refine vc_goto ?_ | refine vc_wkSl0
                | refine vc_wkHp0 | refine vc_eqAVs0 | refine vc_preG0 | refine vc_wkSl ?_ ?_ | refine vc_wkHp ?_ ?_ | refine vc_eqAVs ?_ ?_ | refine vc_preG ?_ ?_ | refine vc_side0 ?_ | refine vc_call [] hcl ?_
                | refine vc_weakf [] ?_ ?_ ?_ | refine vc_and ?_ ?_ | refine vc_ret [] [] ?_)
        | ((with_reducible first | refine vc_caseD (fun h => ?_) (fun h => ?_) | refine vc_caseN (fun h => ?_) (fun h => ?_)) <;> try (exfalso; omega))
        | ((with_reducible refine vc_case (fun h => ?_) (fun h => ?_)) <;> (try simp at h) <;> try (exfalso; omega))
        | (conv in Vc _ => arg 1; whnf
           first
            | (with_reducible refine vc_side0 ?_; rfl)
            | (with_reducible first
                | refine vc_true ?_ | refine vc_true2 ?_ | refine vc_side ?_ ?_ | refine vc_triv | refine vc_later ?_ | refine vc_caseT ?_ | refine vc_caseF ?_ | refine vc_cons ?_ | refine vc_nil ?_ ?_ | refine vc_seq ?_
                   | refine vc_region ?_ | refine vc_cond ?_ | refine vc_block ?_ | refine vc_retc ?_ | refine vc_exit ?_ | refine vc_skip ?_ | refine vc_scope ?_ | refine vc_label ?_ | refine vc_goto ?_ | refine vc_wkSl0
                   | refine vc_wkHp0 | refine vc_eqAVs0 | refine vc_preG0 | refine vc_wkSl ?_ ?_ | refine vc_wkHp ?_ ?_ | refine vc_eqAVs ?_ ?_ | refine vc_preG ?_ ?_ | refine vc_side0 ?_ | refine vc_call [] hcl ?_
                   | refine vc_weakf [] ?_ ?_ ?_ | refine vc_and ?_ ?_ | refine vc_ret [] [] ?_)
            | ((with_reducible first | refine vc_caseD (fun h => ?_) (fun h => ?_) | refine vc_caseN (fun h => ?_) (fun h => ?_)) <;> try (exfalso; omega))
            | ((with_reducible refine vc_case (fun h => ?_) (fun h => ?_)) <;> (try simp at h) <;> try (exfalso; omega))))
    all_goals rfl

theorem req_more (B : List D) (bs : List UInt8) (hB : B = bs.map byteD) (hl : bs.length < 2 ^ 63) (a : Req × Nat) (h : rdReq bs = some a) (he : ¬ a.2 = bs.length) :
    LocalCall Try.prog 62 [.d (.sl B), .fn (.func 66) [.ptr 8 [], .ptr 7 []]] [(8, .var (.fn (.func 53) [])), (7, .var (.d (.st [.int .i64 0, .str ByteArray.empty, .nils, digD zero32])))] [] (one [.d (.int .i64 3)]) [(7, .dead)] := by
  have hlen : B.length = bs.length := by rw [hB]; simp
  refine local_recovers mixed (sl2 := [(0, .d (.sl B)), (1, .fn (.func 66) [.ptr 8 [], .ptr 7 []]), (4, .ptr 1000 [])]) (hp2 := [(8, .var (.fn (.func 53) [])), (7, .var (.d (.st [.int .i64 0, .str ByteArray.empty, .nils, digD zero32]))), (1000, .var (.d (.int .i64 0)))]) (N := 1000) Try.func62 rfl rfl rfl rfl rfl rfl rfl rfl rfl rfl [] catch_idle catch_pan rfl (vc_chk rfl) rfl (by decide) (by decide) rfl ?_ ?_
  · skip
    repeat' (first
        | ((with_reducible refine vc_chk ?_); first | decide +kernel | rfl)
        | (with_reducible refine vc_side0 ?_; rfl)
        | (with_reducible first
             | refine vc_true ?_ | refine vc_true2 ?_ | refine vc_side ?_ ?_ | refine vc_triv | refine vc_later ?_ | refine vc_caseT ?_ | refine vc_caseF ?_ | refine vc_cons ?_ | refine vc_nil ?_ ?_ | refine vc_seq ?_
                | refine vc_region ?_ | refine vc_cond ?_ | refine vc_block ?_ | refine vc_retc ?_ | refine vc_exit ?_ | refine vc_skip ?_ | refine vc_scope ?_ | refine vc_label ?_ | refine vc_goto ?_ | refine vc_wkSl0
                | refine vc_wkHp0 | refine vc_eqAVs0 | refine vc_preG0 | refine vc_wkSl ?_ ?_ | refine vc_wkHp ?_ ?_ | refine vc_eqAVs ?_ ?_ | refine vc_preG ?_ ?_ | refine vc_side0 ?_ | refine vc_mid [] ?_ ?_ ?_ ?_
                | refine vc_weakf [] ?_ ?_ ?_ | refine vc_and ?_ ?_ | refine vc_ret [] [] ?_)
        | ((with_reducible first | refine vc_caseD (fun h => ?_) (fun h => ?_) | refine vc_caseN (fun h => ?_) (fun h => ?_)) <;> try (exfalso; omega))
        | ((with_reducible refine vc_case (fun h => ?_) (fun h => ?_)) <;> (try simp at h) <;> try (exfalso; omega))
        | (conv in Vc _ => arg 1; whnf
           first
            | (with_reducible refine vc_side0 ?_; rfl)
            | (with_reducible first
                | refine vc_true ?_ | refine vc_true2 ?_ | refine vc_side ?_ ?_ | refine vc_triv | refine vc_later ?_ | refine vc_caseT ?_ | refine vc_caseF ?_ | refine vc_cons ?_ | refine vc_nil ?_ ?_ | refine vc_seq ?_
                   | refine vc_region ?_ | refine vc_cond ?_ | refine vc_block ?_ | refine vc_retc ?_ | refine vc_exit ?_ | refine vc_skip ?_ | refine vc_scope ?_ | refine vc_label ?_ | refine vc_goto ?_ | refine vc_wkSl0
                   | refine vc_wkHp0 | refine vc_eqAVs0 | refine vc_preG0 | refine vc_wkSl ?_ ?_ | refine vc_wkHp ?_ ?_ | refine vc_eqAVs ?_ ?_ | refine vc_preG ?_ ?_ | refine vc_side0 ?_ | refine vc_mid [] ?_ ?_ ?_ ?_
                   | refine vc_weakf [] ?_ ?_ ?_ | refine vc_and ?_ ?_ | refine vc_ret [] [] ?_)
            | ((with_reducible first | refine vc_caseD (fun h => ?_) (fun h => ?_) | refine vc_caseN (fun h => ?_) (fun h => ?_)) <;> try (exfalso; omega))
            | ((with_reducible refine vc_case (fun h => ?_) (fun h => ?_)) <;> (try simp at h) <;> try (exfalso; omega))))
    all_goals rfl
  · have hcl := local_ren [(9, 3008)] [(3008, 9)] ((req_cl B bs hB hl).ok a h) rfl
    repeat' (first
        | ((with_reducible refine vc_chk ?_); first | decide +kernel | rfl)
        | (with_reducible refine vc_side0 ?_; rfl)
        | (with_reducible first
             | refine vc_true ?_ | refine vc_true2 ?_ | refine vc_side ?_ ?_ | refine vc_triv | refine vc_later ?_ | refine vc_caseT ?_ | refine vc_caseF ?_ | refine vc_cons ?_ | refine vc_nil ?_ ?_ | refine vc_seq ?_
                | refine vc_region ?_ | refine vc_cond ?_ | refine vc_block ?_ | refine vc_retc ?_ | refine vc_exit ?_ | refine vc_skip ?_ | refine vc_scope ?_ | refine vc_label ?_ | refine vc_goto ?_ | refine vc_wkSl0
                | refine vc_wkHp0 | refine vc_eqAVs0 | refine vc_preG0 | refine vc_wkSl ?_ ?_ | refine vc_wkHp ?_ ?_ | refine vc_eqAVs ?_ ?_ | refine vc_preG ?_ ?_ | refine vc_side0 ?_ | refine vc_call [] hcl ?_
                | refine vc_retK [] [] [7] ?_ | refine vc_weakf [] ?_ ?_ ?_ | refine vc_and ?_ ?_ | refine vc_ret [] [] ?_)
        | ((with_reducible first | refine vc_caseD (fun h => ?_) (fun h => ?_) | refine vc_caseN (fun h => ?_) (fun h => ?_)) <;> try (exfalso; omega))
        | ((with_reducible refine vc_case (fun h => ?_) (fun h => ?_)) <;> (try simp at h) <;> try (exfalso; omega))
        | (conv in Vc _ => arg 1; whnf
           first
            | (with_reducible refine vc_side0 ?_; rfl)
            | (with_reducible first
                | refine vc_true ?_ | refine vc_true2 ?_ | refine vc_side ?_ ?_ | refine vc_triv | refine vc_later ?_ | refine vc_caseT ?_ | refine vc_caseF ?_ | refine vc_cons ?_ | refine vc_nil ?_ ?_ | refine vc_seq ?_
                   | refine vc_region ?_ | refine vc_cond ?_ | refine vc_block ?_ | refine vc_retc ?_ | refine vc_exit ?_ | refine vc_skip ?_ | refine vc_scope ?_ | refine vc_label ?_ | refine vc_goto ?_ | refine vc_wkSl0
                   | refine vc_wkHp0 | refine vc_eqAVs0 | refine vc_preG0 | refine vc_wkSl ?_ ?_ | refine vc_wkHp ?_ ?_ | refine vc_eqAVs ?_ ?_ | refine vc_preG ?_ ?_ | refine vc_side0 ?_ | refine vc_call [] hcl ?_
                   | refine vc_retK [] [] [7] ?_ | refine vc_weakf [] ?_ ?_ ?_ | refine vc_and ?_ ?_ | refine vc_ret [] [] ?_)
            | ((with_reducible first | refine vc_caseD (fun h => ?_) (fun h => ?_) | refine vc_caseN (fun h => ?_) (fun h => ?_)) <;> try (exfalso; omega))
            | ((with_reducible refine vc_case (fun h => ?_) (fun h => ?_)) <;> (try simp at h) <;> try (exfalso; omega))))
    all_goals rfl

theorem req_not (B : List D) (bs : List UInt8) (hB : B = bs.map byteD) (hl : bs.length < 2 ^ 63) (h : rdReq bs = none) :
    LocalCall Try.prog 62 [.d (.sl B), .fn (.func 66) [.ptr 8 [], .ptr 7 []]] [(8, .var (.fn (.func 53) [])), (7, .var (.d (.st [.int .i64 0, .str ByteArray.empty, .nils, digD zero32])))] [] (one [.d (.int .i64 3)]) [(7, .dead)] := by
  have hlen : B.length = bs.length := by rw [hB]; simp
  refine local_recovers mixed (sl2 := [(0, .d (.sl B)), (1, .fn (.func 66) [.ptr 8 [], .ptr 7 []]), (4, .ptr 1000 [])]) (hp2 := [(8, .var (.fn (.func 53) [])), (7, .var (.d (.st [.int .i64 0, .str ByteArray.empty, .nils, digD zero32]))), (1000, .var (.d (.int .i64 0)))]) (N := 1000) Try.func62 rfl rfl rfl rfl rfl rfl rfl rfl rfl rfl [] catch_idle catch_pan rfl (vc_chk rfl) rfl (by decide) (by decide) rfl ?_ ?_
  · skip
    repeat' (first
        | ((with_reducible refine vc_chk ?_); first | decide +kernel | rfl)
        | (with_reducible refine vc_side0 ?_; rfl)
        | (with_reducible first
             | refine vc_true ?_ | refine vc_true2 ?_ | refine vc_side ?_ ?_ | refine vc_triv | refine vc_later ?_ | refine vc_caseT ?_ | refine vc_caseF ?_ | refine vc_cons ?_ | refine vc_nil ?_ ?_ | refine vc_seq ?_
                | refine vc_region ?_ | refine vc_cond ?_ | refine vc_block ?_ | refine vc_retc ?_ | refine vc_exit ?_ | refine vc_skip ?_ | refine vc_scope ?_ | refine vc_label ?_ | refine vc_goto ?_ | refine vc_wkSl0
                | refine vc_wkHp0 | refine vc_eqAVs0 | refine vc_preG0 | refine vc_wkSl ?_ ?_ | refine vc_wkHp ?_ ?_ | refine vc_eqAVs ?_ ?_ | refine vc_preG ?_ ?_ | refine vc_side0 ?_ | refine vc_mid [] ?_ ?_ ?_ ?_
                | refine vc_weakf [] ?_ ?_ ?_ | refine vc_and ?_ ?_ | refine vc_ret [] [] ?_)
        | ((with_reducible first | refine vc_caseD (fun h => ?_) (fun h => ?_) | refine vc_caseN (fun h => ?_) (fun h => ?_)) <;> try (exfalso; omega))
        | ((with_reducible refine vc_case (fun h => ?_) (fun h => ?_)) <;> (try simp at h) <;> try (exfalso; omega))
        | (conv in Vc _ => arg 1; whnf
           first
            | (with_reducible refine vc_side0 ?_; rfl)
            | (with_reducible first
                | refine vc_true ?_ | refine vc_true2 ?_ | refine vc_side ?_ ?_ | refine vc_triv | refine vc_later ?_ | refine vc_caseT ?_ | refine vc_caseF ?_ | refine vc_cons ?_ | refine vc_nil ?_ ?_ | refine vc_seq ?_
                   | refine vc_region ?_ | refine vc_cond ?_ | refine vc_block ?_ | refine vc_retc ?_ | refine vc_exit ?_ | refine vc_skip ?_ | refine vc_scope ?_ | refine vc_label ?_ | refine vc_goto ?_ | refine vc_wkSl0
                   | refine vc_wkHp0 | refine vc_eqAVs0 | refine vc_preG0 | refine vc_wkSl ?_ ?_ | refine vc_wkHp ?_ ?_ | refine vc_eqAVs ?_ ?_ | refine vc_preG ?_ ?_ | refine vc_side0 ?_ | refine vc_mid [] ?_ ?_ ?_ ?_
                   | refine vc_weakf [] ?_ ?_ ?_ | refine vc_and ?_ ?_ | refine vc_ret [] [] ?_)
            | ((with_reducible first | refine vc_caseD (fun h => ?_) (fun h => ?_) | refine vc_caseN (fun h => ?_) (fun h => ?_)) <;> try (exfalso; omega))
            | ((with_reducible refine vc_case (fun h => ?_) (fun h => ?_)) <;> (try simp at h) <;> try (exfalso; omega))))
    all_goals rfl
  · have hcl := localPan_ren [(9, 3008)] [(3008, 9)] ((req_cl B bs hB hl).pan h) rfl
    repeat' (first
        | ((with_reducible refine vc_chk ?_); first | decide +kernel | rfl)
        | (with_reducible refine vc_side0 ?_; rfl)
        | (with_reducible first
             | refine vc_true ?_ | refine vc_true2 ?_ | refine vc_side ?_ ?_ | refine vc_triv | refine vc_later ?_ | refine vc_caseT ?_ | refine vc_caseF ?_ | refine vc_cons ?_ | refine vc_nil ?_ ?_ | refine vc_seq ?_
                | refine vc_region ?_ | refine vc_cond ?_ | refine vc_block ?_ | refine vc_retc ?_ | refine vc_exit ?_ | refine vc_skip ?_ | refine vc_scope ?_ | refine vc_label ?_ | refine vc_goto ?_ | refine vc_wkSl0
                | refine vc_wkHp0 | refine vc_eqAVs0 | refine vc_preG0 | refine vc_wkSl ?_ ?_ | refine vc_wkHp ?_ ?_ | refine vc_eqAVs ?_ ?_ | refine vc_preG ?_ ?_ | refine vc_side0 ?_ | refine vc_pan [] hcl ?_
                | refine vc_retK [] [] [7] ?_ | refine vc_weakf [] ?_ ?_ ?_ | refine vc_and ?_ ?_ | refine vc_ret [] [] ?_)
        | ((with_reducible first | refine vc_caseD (fun h => ?_) (fun h => ?_) | refine vc_caseN (fun h => ?_) (fun h => ?_)) <;> try (exfalso; omega))
        | ((with_reducible refine vc_case (fun h => ?_) (fun h => ?_)) <;> (try simp at h) <;> try (exfalso; omega))
        | (conv in Vc _ => arg 1; whnf
           first
            | (with_reducible refine vc_side0 ?_; rfl)
            | (with_reducible first
                | refine vc_true ?_ | refine vc_true2 ?_ | refine vc_side ?_ ?_ | refine vc_triv | refine vc_later ?_ | refine vc_caseT ?_ | refine vc_caseF ?_ | refine vc_cons ?_ | refine vc_nil ?_ ?_ | refine vc_seq ?_
                   | refine vc_region ?_ | refine vc_cond ?_ | refine vc_block ?_ | refine vc_retc ?_ | refine vc_exit ?_ | refine vc_skip ?_ | refine vc_scope ?_ | refine vc_label ?_ | refine vc_goto ?_ | refine vc_wkSl0
                   | refine vc_wkHp0 | refine vc_eqAVs0 | refine vc_preG0 | refine vc_wkSl ?_ ?_ | refine vc_wkHp ?_ ?_ | refine vc_eqAVs ?_ ?_ | refine vc_preG ?_ ?_ | refine vc_side0 ?_ | refine vc_pan [] hcl ?_
                   | refine vc_retK [] [] [7] ?_ | refine vc_weakf [] ?_ ?_ ?_ | refine vc_and ?_ ?_ | refine vc_ret [] [] ?_)
            | ((with_reducible first | refine vc_caseD (fun h => ?_) (fun h => ?_) | refine vc_caseN (fun h => ?_) (fun h => ?_)) <;> try (exfalso; omega))
            | ((with_reducible refine vc_case (fun h => ?_) (fun h => ?_)) <;> (try simp at h) <;> try (exfalso; omega))))
    all_goals rfl

theorem req_T (B : List D) (bs : List UInt8) (hB : B = bs.map byteD) (hl : bs.length < 2 ^ 63) (O : Option Req) (hO : toFin bs.length (rdReq bs) = O) :
    LocalCall Try.prog 52 [.d (.sl B), .fn (.func 53) []] [] [] (one [.d (qD (O.getD q0)), .d (.int .i64 (errI O))]) [] := by
  subst hO
  rcases toFin_cases bs.length (rdReq bs) with ⟨a, h, he, hq⟩ | ⟨hn, hq⟩
  · rw [hq]
    have hr := local_ren [(8, 1000), (7, 2000)] [(1000, 8), (2000, 7)] (req_yes B bs hB hl a h he) rfl
    refine vc_fn mixed Try.func52 rfl rfl [] (vc_chk rfl) ?_
    repeat' (first
        | ((with_reducible refine vc_chk ?_); first | decide +kernel | rfl)
        | (with_reducible refine vc_side0 ?_; rfl)
        | (with_reducible first
             | refine vc_true ?_ | refine vc_true2 ?_ | refine vc_side ?_ ?_ | refine vc_triv | refine vc_later ?_ | refine vc_caseT ?_ | refine vc_caseF ?_ | refine vc_cons ?_ | refine vc_nil ?_ ?_ | refine vc_seq ?_
                | refine vc_region ?_ | refine vc_cond ?_ | refine vc_block ?_ | refine vc_retc ?_ | refine vc_exit ?_ | refine vc_skip ?_ | refine vc_scope ?_ | refine vc_label ?_ | refine vc_goto ?_ | refine vc_wkSl0
                | refine vc_wkHp0 | refine vc_eqAVs0 | refine vc_preG0 | refine vc_wkSl ?_ ?_ | refine vc_wkHp ?_ ?_ | refine vc_eqAVs ?_ ?_ | refine vc_preG ?_ ?_ | refine vc_side0 ?_ | refine vc_call [] hr ?_
                | refine vc_weakf [] ?_ ?_ ?_ | refine vc_and ?_ ?_ | refine vc_ret [] [] ?_)
        | ((with_reducible first | refine vc_caseD (fun h => ?_) (fun h => ?_) | refine vc_caseN (fun h => ?_) (fun h => ?_)) <;> try (exfalso; omega))
        | ((with_reducible refine vc_case (fun h => ?_) (fun h => ?_)) <;> (try simp only [Bool.cond_true_left, Bool.cond_false_right, Bool.cond_true_right, Bool.cond_false_left, Bool.and_eq_true, Bool.or_eq_true, Bool.and_eq_false_iff, Bool.or_eq_false_iff, Bool.not_eq_true', Bool.not_eq_false', Bool.not_eq_true, Bool.not_eq_false, Bool.not_not, decide_eq_true_eq, decide_eq_false_iff_not, beq_iff_eq, beq_eq_false_iff_ne, bne_iff_ne, bne_eq_false_iff_eq, ne_eq, Classical.not_not, reduceCtorEq, false_or, or_false, true_and, and_true, Bool.false_eq_true, Bool.true_eq_false] at h) <;> try (exfalso; first | omega | (simp at h; done)))
        | (conv in Vc _ => arg 1; whnf
           first
            | (with_reducible refine vc_side0 ?_; rfl)
            | (with_reducible first
                | refine vc_true ?_ | refine vc_true2 ?_ | refine vc_side ?_ ?_ | refine vc_triv | refine vc_later ?_ | refine vc_caseT ?_ | refine vc_caseF ?_ | refine vc_cons ?_ | refine vc_nil ?_ ?_ | refine vc_seq ?_
                   | refine vc_region ?_ | refine vc_cond ?_ | refine vc_block ?_ | refine vc_retc ?_ | refine vc_exit ?_ | refine vc_skip ?_ | refine vc_scope ?_ | refine vc_label ?_ | refine vc_goto ?_ | refine vc_wkSl0
                   | refine vc_wkHp0 | refine vc_eqAVs0 | refine vc_preG0 | refine vc_wkSl ?_ ?_ | refine vc_wkHp ?_ ?_ | refine vc_eqAVs ?_ ?_ | refine vc_preG ?_ ?_ | refine vc_side0 ?_ | refine vc_call [] hr ?_
                   | refine vc_weakf [] ?_ ?_ ?_ | refine vc_and ?_ ?_ | refine vc_ret [] [] ?_)
            | ((with_reducible first | refine vc_caseD (fun h => ?_) (fun h => ?_) | refine vc_caseN (fun h => ?_) (fun h => ?_)) <;> try (exfalso; omega))
            | ((with_reducible refine vc_case (fun h => ?_) (fun h => ?_)) <;> (try simp only [Bool.cond_true_left, Bool.cond_false_right, Bool.cond_true_right, Bool.cond_false_left, Bool.and_eq_true, Bool.or_eq_true, Bool.and_eq_false_iff, Bool.or_eq_false_iff, Bool.not_eq_true', Bool.not_eq_false', Bool.not_eq_true, Bool.not_eq_false, Bool.not_not, decide_eq_true_eq, decide_eq_false_iff_not, beq_iff_eq, beq_eq_false_iff_ne, bne_iff_ne, bne_eq_false_iff_eq, ne_eq, Classical.not_not, reduceCtorEq, false_or, or_false, true_and, and_true, Bool.false_eq_true, Bool.true_eq_false] at h) <;> try (exfalso; first | omega | (simp at h; done)))))
    all_goals first | rfl | exact ⟨trivial, trivial, trivial⟩
  · rw [hq]
    have hr0 : LocalCall Try.prog 62 [.d (.sl B), .fn (.func 66) [.ptr 8 [], .ptr 7 []]] [(8, .var (.fn (.func 53) [])), (7, .var (.d (.st [.int .i64 0, .str ByteArray.empty, .nils, digD zero32])))] [] (one [.d (.int .i64 3)]) [(7, .dead)] := by
      rcases hn with h | ⟨a, h, he⟩
      · exact req_not B bs hB hl h
      · exact req_more B bs hB hl a h he
    have hr := local_ren [(8, 1000), (7, 2000)] [(1000, 8), (2000, 7)] hr0 rfl
    have key : LocalCall Try.prog 52 [.d (.sl B), .fn (.func 53) []] [] [] (one [.d (.st [.int .i64 0, .str ByteArray.empty, .nils, digD zero32]), .d (.int .i64 3)]) [] := by
      refine vc_fn mixed Try.func52 rfl rfl [] (vc_chk rfl) ?_
      repeat' (first
          | ((with_reducible refine vc_chk ?_); first | decide +kernel | rfl)
          | (with_reducible refine vc_side0 ?_; rfl)
          | (with_reducible first
               | refine vc_true ?_ | refine vc_true2 ?_ | refine vc_side ?_ ?_ | refine vc_triv | refine vc_later ?_ | refine vc_caseT ?_ | refine vc_caseF ?_ | refine vc_cons ?_ | refine vc_nil ?_ ?_ | refine vc_seq ?_
                  | refine vc_region ?_ | refine vc_cond ?_ | refine vc_block ?_ | refine vc_retc ?_ | refine vc_exit ?_ | refine vc_skip ?_ | refine vc_scope ?_ | refine vc_label ?_ | refine vc_goto ?_ | refine vc_wkSl0
                  | refine vc_wkHp0 | refine vc_eqAVs0 | refine vc_preG0 | refine vc_wkSl ?_ ?_ | refine vc_wkHp ?_ ?_ | refine vc_eqAVs ?_ ?_ | refine vc_preG ?_ ?_ | refine vc_side0 ?_ | refine vc_call [] hr ?_
                  | refine vc_weakf [] ?_ ?_ ?_ | refine vc_and ?_ ?_ | refine vc_ret [] [] ?_)
          | ((with_reducible first | refine vc_caseD (fun h => ?_) (fun h => ?_) | refine vc_caseN (fun h => ?_) (fun h => ?_)) <;> try (exfalso; omega))
          | ((with_reducible refine vc_case (fun h => ?_) (fun h => ?_)) <;> (try simp only [Bool.cond_true_left, Bool.cond_false_right, Bool.cond_true_right, Bool.cond_false_left, Bool.and_eq_true, Bool.or_eq_true, Bool.and_eq_false_iff, Bool.or_eq_false_iff, Bool.not_eq_true', Bool.not_eq_false', Bool.not_eq_true, Bool.not_eq_false, Bool.not_not, decide_eq_true_eq, decide_eq_false_iff_not, beq_iff_eq, beq_eq_false_iff_ne, bne_iff_ne, bne_eq_false_iff_eq, ne_eq, Classical.not_not, reduceCtorEq, false_or, or_false, true_and, and_true, Bool.false_eq_true, Bool.true_eq_false] at h) <;> try (exfalso; first | omega | (simp at h; done)))
          | (conv in Vc _ => arg 1; whnf
             first
              | (with_reducible refine vc_side0 ?_; rfl)
              | (with_reducible first
                  | refine vc_true ?_ | refine vc_true2 ?_ | refine vc_side ?_ ?_ | refine vc_triv | refine vc_later ?_ | refine vc_caseT ?_ | refine vc_caseF ?_ | refine vc_cons ?_ | refine vc_nil ?_ ?_ | refine vc_seq ?_
                     | refine vc_region ?_ | refine vc_cond ?_ | refine vc_block ?_ | refine vc_retc ?_ | refine vc_exit ?_ | refine vc_skip ?_ | refine vc_scope ?_ | refine vc_label ?_ | refine vc_goto ?_ | refine vc_wkSl0
                     | refine vc_wkHp0 | refine vc_eqAVs0 | refine vc_preG0 | refine vc_wkSl ?_ ?_ | refine vc_wkHp ?_ ?_ | refine vc_eqAVs ?_ ?_ | refine vc_preG ?_ ?_ | refine vc_side0 ?_ | refine vc_call [] hr ?_
                     | refine vc_weakf [] ?_ ?_ ?_ | refine vc_and ?_ ?_ | refine vc_ret [] [] ?_)
              | ((with_reducible first | refine vc_caseD (fun h => ?_) (fun h => ?_) | refine vc_caseN (fun h => ?_) (fun h => ?_)) <;> try (exfalso; omega))
              | ((with_reducible refine vc_case (fun h => ?_) (fun h => ?_)) <;> (try simp only [Bool.cond_true_left, Bool.cond_false_right, Bool.cond_true_right, Bool.cond_false_left, Bool.and_eq_true, Bool.or_eq_true, Bool.and_eq_false_iff, Bool.or_eq_false_iff, Bool.not_eq_true', Bool.not_eq_false', Bool.not_eq_true, Bool.not_eq_false, Bool.not_not, decide_eq_true_eq, decide_eq_false_iff_not, beq_iff_eq, beq_eq_false_iff_ne, bne_iff_ne, bne_eq_false_iff_eq, ne_eq, Classical.not_not, reduceCtorEq, false_or, or_false, true_and, and_true, Bool.false_eq_true, Bool.true_eq_false] at h) <;> try (exfalso; first | omega | (simp at h; done)))))
      all_goals first | rfl | exact ⟨trivial, trivial, trivial⟩
    exact local_dn key

theorem req_ok (B : List D) (bs : List UInt8) (hB : B = bs.map byteD) (hl : bs.length < 2 ^ 63) (O : Option Req) (hO : toFin bs.length (rdReq bs) = O) :
    LocalCall Try.prog 30 [.d (.sl B)] [] [] (one [.d (qD (O.getD q0)), .d (.int .i64 (errI O))]) [] := by
  refine vc_fn mixed Try.func30 rfl rfl [] (vc_chk rfl) ?_
  repeat' (first
      | ((with_reducible refine vc_chk ?_); first | decide +kernel | rfl)
      | (with_reducible refine vc_side0 ?_; rfl)
      | (with_reducible first
           | refine vc_true ?_ | refine vc_true2 ?_ | refine vc_side ?_ ?_ | refine vc_triv | refine vc_later ?_ | refine vc_caseT ?_ | refine vc_caseF ?_ | refine vc_cons ?_ | refine vc_nil ?_ ?_ | refine vc_seq ?_
              | refine vc_region ?_ | refine vc_cond ?_ | refine vc_block ?_ | refine vc_retc ?_ | refine vc_exit ?_ | refine vc_skip ?_ | refine vc_scope ?_ | refine vc_label ?_ | refine vc_goto ?_ | refine vc_wkSl0
              | refine vc_wkHp0 | refine vc_eqAVs0 | refine vc_preG0 | refine vc_wkSl ?_ ?_ | refine vc_wkHp ?_ ?_ | refine vc_eqAVs ?_ ?_ | refine vc_preG ?_ ?_ | refine vc_side0 ?_ | refine vc_call [] (req_T B bs hB hl O hO) ?_
              | refine vc_weakf [] ?_ ?_ ?_ | refine vc_and ?_ ?_ | refine vc_ret [] [] ?_)
      | ((with_reducible first | refine vc_caseD (fun h => ?_) (fun h => ?_) | refine vc_caseN (fun h => ?_) (fun h => ?_)) <;> try (exfalso; omega))
      | ((with_reducible refine vc_case (fun h => ?_) (fun h => ?_)) <;> (try simp only [Bool.cond_true_left, Bool.cond_false_right, Bool.cond_true_right, Bool.cond_false_left, Bool.and_eq_true, Bool.or_eq_true, Bool.and_eq_false_iff, Bool.or_eq_false_iff, Bool.not_eq_true', Bool.not_eq_false', Bool.not_eq_true, Bool.not_eq_false, Bool.not_not, decide_eq_true_eq, decide_eq_false_iff_not, beq_iff_eq, beq_eq_false_iff_ne, bne_iff_ne, bne_eq_false_iff_eq, ne_eq, Classical.not_not, reduceCtorEq, false_or, or_false, true_and, and_true, Bool.false_eq_true, Bool.true_eq_false] at h) <;> try (exfalso; first | omega | (simp at h; done)))
      | (conv in Vc _ => arg 1; whnf
         first
          | (with_reducible refine vc_side0 ?_; rfl)
          | (with_reducible first
              | refine vc_true ?_ | refine vc_true2 ?_ | refine vc_side ?_ ?_ | refine vc_triv | refine vc_later ?_ | refine vc_caseT ?_ | refine vc_caseF ?_ | refine vc_cons ?_ | refine vc_nil ?_ ?_ | refine vc_seq ?_
                 | refine vc_region ?_ | refine vc_cond ?_ | refine vc_block ?_ | refine vc_retc ?_ | refine vc_exit ?_ | refine vc_skip ?_ | refine vc_scope ?_ | refine vc_label ?_ | refine vc_goto ?_ | refine vc_wkSl0
                 | refine vc_wkHp0 | refine vc_eqAVs0 | refine vc_preG0 | refine vc_wkSl ?_ ?_ | refine vc_wkHp ?_ ?_ | refine vc_eqAVs ?_ ?_ | refine vc_preG ?_ ?_ | refine vc_side0 ?_
                 | refine vc_call [] (req_T B bs hB hl O hO) ?_ | refine vc_weakf [] ?_ ?_ ?_ | refine vc_and ?_ ?_ | refine vc_ret [] [] ?_)
          | ((with_reducible first | refine vc_caseD (fun h => ?_) (fun h => ?_) | refine vc_caseN (fun h => ?_) (fun h => ?_)) <;> try (exfalso; omega))
          | ((with_reducible refine vc_case (fun h => ?_) (fun h => ?_)) <;> (try simp only [Bool.cond_true_left, Bool.cond_false_right, Bool.cond_true_right, Bool.cond_false_left, Bool.and_eq_true, Bool.or_eq_true, Bool.and_eq_false_iff, Bool.or_eq_false_iff, Bool.not_eq_true', Bool.not_eq_false', Bool.not_eq_true, Bool.not_eq_false, Bool.not_not, decide_eq_true_eq, decide_eq_false_iff_not, beq_iff_eq, beq_eq_false_iff_ne, bne_iff_ne, bne_eq_false_iff_eq, ne_eq, Classical.not_not, reduceCtorEq, false_or, or_false, true_and, and_true, Bool.false_eq_true, Bool.true_eq_false] at h) <;> try (exfalso; first | omega | (simp at h; done)))))
  all_goals first | rfl | exact ⟨trivial, trivial, trivial⟩

end Go.Proofs.Ytogncghpngmjpaa

/-
record.ReadSigned, record.ReadProof.
-/
set_option linter.unusedSimpArgs false
set_option linter.unusedVariables false
namespace Go.Proofs.Ytogncghpngmjpaa
open Go.Sym
set_option maxRecDepth 10000
set_option maxHeartbeats 4000000

theorem sgn_cl (B : List D) (bs : List UInt8) (hB : B = bs.map byteD) (hl : bs.length < 2 ^ 63) :
    LocalE (rdSgn bs) Try.prog 67 [.ptr 9 [], .ptr 8 [], .ptr 7 []] [(9, rd B 0), (8, .var (.fn (.func 59) [])), (7, .var (.d (.st [.st [.int .u64 0, digD zero32, digD zero32, digD zero32], .nils])))] [] (fun _ => []) (fun a => [(9, rd B a.2), (7, .var (.d (sD a.1)))]) [] fault [(9, .dead), (7, .dead)] := by
  refine vc_fnE mixed Try.func67 rfl rfl [] (rdSgn bs) (vc_chk rfl) ?_
  repeat' (first
      | ((with_reducible refine vc_chk ?_); first | decide +kernel | rfl)
      | (with_reducible refine vc_side0 ?_; rfl)
      | (with_reducible first
           | refine vc_true ?_ | refine vc_true2 ?_ | refine vc_side ?_ ?_ | refine vc_triv | refine vc_later ?_ | refine vc_caseT ?_ | refine vc_caseF ?_ | refine vc_cons ?_ | refine vc_nil ?_ ?_ | refine vc_seq ?_
              | refine vc_region ?_ | refine vc_cond ?_ | refine vc_block ?_ | refine vc_retc ?_ | refine vc_exit ?_ | refine vc_skip ?_ | refine vc_scope ?_ | refine vc_label ?_ | refine vc_goto ?_ | refine vc_wkSl0
              | refine vc_wkHp0 | refine vc_eqAVs0 | refine vc_preG0 | refine vc_wkSl ?_ ?_ | refine vc_wkHp ?_ ?_ | refine vc_eqAVs ?_ ?_ | refine vc_preG ?_ ?_ | refine vc_side0 ?_
              | refine vc_eAt [] 9 (by with_unfolding_all rfl) (sgn_in B bs hB hl) (fun a h => ?_) (fun h => ?_) | refine vc_ek a h ?_ | refine vc_ep h ?_ | refine vc_panc [] [7] ?_ ?_ | refine vc_weakf [] ?_ ?_ ?_
              | refine vc_and ?_ ?_ | refine vc_ret [] [] ?_)
      | ((with_reducible first | refine vc_caseD (fun h => ?_) (fun h => ?_) | refine vc_caseN (fun h => ?_) (fun h => ?_)) <;> try (exfalso; omega))
      | ((with_reducible refine vc_case (fun h => ?_) (fun h => ?_)) <;> (try simp only [Bool.cond_true_left, Bool.cond_false_right, Bool.cond_true_right, Bool.cond_false_left, Bool.and_eq_true, Bool.or_eq_true, Bool.and_eq_false_iff, Bool.or_eq_false_iff, Bool.not_eq_true', Bool.not_eq_false', Bool.not_eq_true, Bool.not_eq_false, Bool.not_not, decide_eq_true_eq, decide_eq_false_iff_not, beq_iff_eq, beq_eq_false_iff_ne, bne_iff_ne, bne_eq_false_iff_eq, ne_eq, Classical.not_not, reduceCtorEq, false_or, or_false, true_and, and_true, Bool.false_eq_true, Bool.true_eq_false] at h) <;> try (exfalso; first | omega | (simp at h; done)))
      | (conv in Vc _ => arg 1; whnf
         first
          | (with_reducible refine vc_side0 ?_; rfl)
          | (with_reducible first
              | refine vc_true ?_ | refine vc_true2 ?_ | refine vc_side ?_ ?_ | refine vc_triv | refine vc_later ?_ | refine vc_caseT ?_ | refine vc_caseF ?_ | refine vc_cons ?_ | refine vc_nil ?_ ?_ | refine vc_seq ?_
                 | refine vc_region ?_ | refine vc_cond ?_ | refine vc_block ?_ | refine vc_retc ?_ | refine vc_exit ?_ | refine vc_skip ?_ | refine vc_scope ?_ | refine vc_label ?_ | refine vc_goto ?_ | refine vc_wkSl0
                 | refine vc_wkHp0 | refine vc_eqAVs0 | refine vc_preG0 | refine vc_wkSl ?_ ?_ | refine vc_wkHp ?_ ?_ | refine vc_eqAVs ?_ ?_ | refine vc_preG ?_ ?_ | refine vc_side0 ?_
                 | refine vc_eAt [] 9 (by with_unfolding_all rfl) (sgn_in B bs hB hl) (fun a h => ?_) (fun h => ?_) | refine vc_ek a h ?_ | refine vc_ep h ?_ | refine vc_panc [] [7] ?_ ?_ | refine vc_weakf [] ?_ ?_ ?_
                 | refine vc_and ?_ ?_ | refine vc_ret [] [] ?_)
          | ((with_reducible first | refine vc_caseD (fun h => ?_) (fun h => ?_) | refine vc_caseN (fun h => ?_) (fun h => ?_)) <;> try (exfalso; omega))
          | ((with_reducible refine vc_case (fun h => ?_) (fun h => ?_)) <;> (try simp only [Bool.cond_true_left, Bool.cond_false_right, Bool.cond_true_right, Bool.cond_false_left, Bool.and_eq_true, Bool.or_eq_true, Bool.and_eq_false_iff, Bool.or_eq_false_iff, Bool.not_eq_true', Bool.not_eq_false', Bool.not_eq_true, Bool.not_eq_false, Bool.not_not, decide_eq_true_eq, decide_eq_false_iff_not, beq_iff_eq, beq_eq_false_iff_ne, bne_iff_ne, bne_eq_false_iff_eq, ne_eq, Classical.not_not, reduceCtorEq, false_or, or_false, true_and, and_true, Bool.false_eq_true, Bool.true_eq_false] at h) <;> try (exfalso; first | omega | (simp at h; done)))))
  all_goals rfl

theorem sgn_yes (B : List D) (bs : List UInt8) (hB : B = bs.map byteD) (hl : bs.length < 2 ^ 63) (a : Sgn × Nat) (h : rdSgn bs = some a) (he : a.2 = bs.length) :
    LocalCall Try.prog 62 [.d (.sl B), .fn (.func 67) [.ptr 8 [], .ptr 7 []]] [(8, .var (.fn (.func 59) [])), (7, .var (.d (.st [.st [.int .u64 0, digD zero32, digD zero32, digD zero32], .nils])))] [] (one [.d (.int .i64 0)]) [(7, .var (.d (sD a.1)))] := by
  have hlen : B.length = bs.length := by rw [hB]; simp
  refine local_recovers mixed (sl2 := [(0, .d (.sl B)), (1, .fn (.func 67) [.ptr 8 [], .ptr 7 []]), (4, .ptr 1000 [])]) (hp2 := [(8, .var (.fn (.func 59) [])), (7, .var (.d (.st [.st [.int .u64 0, digD zero32, digD zero32, digD zero32], .nils]))), (1000, .var (.d (.int .i64 0)))]) (N := 1000) Try.func62 rfl rfl rfl rfl rfl rfl rfl rfl rfl rfl [] catch_idle catch_pan rfl (vc_chk rfl) rfl (by decide) (by decide) rfl ?_ ?_
  · skip
    repeat' (first
        | ((with_reducible refine vc_chk ?_); first | decide +kernel | rfl)
        | (with_reducible refine vc_side0 ?_; rfl)
        | (with_reducible first
             | refine vc_true ?_ | refine vc_true2 ?_ | refine vc_side ?_ ?_ | refine vc_triv | refine vc_later ?_ | refine vc_caseT ?_ | refine vc_caseF ?_ | refine vc_cons ?_ | refine vc_nil ?_ ?_ | refine vc_seq ?_
                | refine vc_region ?_ | refine vc_cond ?_ | refine vc_block ?_ | refine vc_retc ?_ | refine vc_exit ?_ | refine vc_skip ?_ | refine vc_scope ?_ | refine vc_label ?_ | refine vc_goto ?_ | refine vc_wkSl0
                | refine vc_wkHp0 | refine vc_eqAVs0 | refine vc_preG0 | refine vc_wkSl ?_ ?_ | refine vc_wkHp ?_ ?_ | refine vc_eqAVs ?_ ?_ | refine vc_preG ?_ ?_ | refine vc_side0 ?_ | refine vc_mid [] ?_ ?_ ?_ ?_
                | refine vc_weakf [] ?_ ?_ ?_ | refine vc_and ?_ ?_ | refine vc_ret [] [] ?_)
        | ((with_reducible first | refine vc_caseD (fun h => ?_) (fun h => ?_) | refine vc_caseN (fun h => ?_) (fun h => ?_)) <;> try (exfalso; omega))
        | ((with_reducible refine vc_case (fun h => ?_) (fun h => ?_)) <;> (try simp at h) <;> try (exfalso; omega))
        | (conv in Vc _ => arg 1; whnf
           first
            | (with_reducible refine vc_side0 ?_; rfl)
            | (with_reducible first
                | refine vc_true ?_ | refine vc_true2 ?_ | refine vc_side ?_ ?_ | refine vc_triv | refine vc_later ?_ | refine vc_caseT ?_ | refine vc_caseF ?_ | refine vc_cons ?_ | refine vc_nil ?_ ?_ | refine vc_seq ?_
                   | refine vc_region ?_ | refine vc_cond ?_ | refine vc_block ?_ | refine vc_retc ?_ | refine vc_exit ?_ | refine vc_skip ?_ | refine vc_scope ?_ | refine vc_label ?_ | refine vc_goto ?_ | refine vc_wkSl0
                   | refine vc_wkHp0 | refine vc_eqAVs0 | refine vc_preG0 | refine vc_wkSl ?_ ?_ | refine vc_wkHp ?_ ?_ | refine vc_eqAVs ?_ ?_ | refine vc_preG ?_ ?_ | refine vc_side0 ?_ | refine vc_mid [] ?_ ?_ ?_ ?_
                   | refine vc_weakf [] ?_ ?_ ?_ | refine vc_and ?_ ?_ | refine vc_ret [] [] ?_)
            | ((with_reducible first | refine vc_caseD (fun h => ?_) (fun h => ?_) | refine vc_caseN (fun h => ?_) (fun h => ?_)) <;> try (exfalso; omega))
            | ((with_reducible refine vc_case (fun h => ?_) (fun h => ?_)) <;> (try simp at h) <;> try (exfalso; omega))))
    all_goals rfl
  · have hcl := local_ren [(9, 3008)] [(3008, 9)] ((sgn_cl B bs hB hl).ok a h) rfl
    repeat' (first
        | ((with_reducible refine vc_chk ?_); first | decide +kernel | rfl)
        | (with_reducible refine vc_side0 ?_; rfl)
        | (with_reducible first
             | refine vc_true ?_ | refine vc_true2 ?_ | refine vc_side ?_ ?_ | refine vc_triv | refine vc_later ?_ | refine vc_caseT ?_ | refine vc_caseF ?_ | refine vc_cons ?_ | refine vc_nil ?_ ?_ | refine vc_seq ?_
                | refine vc_region ?_ | refine vc_cond ?_ | refine vc_block ?_ | refine vc_retc ?_ | refine vc_exit ?_ | refine vc_skip ?_ | refine vc_scope ?_ | refine vc_label ?_ | refine vc_goto ?_ | refine vc_wkSl0
                | refine vc_wkHp0 | refine vc_eqAVs0 | refine vc_preG0 | refine vc_wkSl ?_ ?_ | refine vc_wkHp ?_ ?_ | refine vc_eqAVs ?_ ?_ | refine vc_preG ?_ ?_ | refine vc_side0 ?_ | refine vc_call [] hcl ?_
                | refine vc_weakf [] ?_ ?_ ?_ | refine vc_and ?_ ?_ | refine vc_ret [] [] ?_)
        | ((with_reducible first | refine vc_caseD (fun h => ?_) (fun h => ?_) | refine vc_caseN (fun h => ?_) (fun h => ?_)) <;> try (exfalso; omega))
        | ((with_reducible refine vc_case (fun h => ?_) (fun h => ?_)) <;> (try simp at h) <;> try (exfalso; omega))
        | (conv in Vc _ => arg 1; whnf
           first
            | (with_reducible refine vc_side0 ?_; rfl)
            | (with_reducible first
                | refine vc_true ?_ | refine vc_true2 ?_ | refine vc_side ?_ ?_ | refine vc_triv | refine vc_later ?_ | refine vc_caseT ?_ | refine vc_caseF ?_ | refine vc_cons ?_ | refine vc_nil ?_ ?_ | refine vc_seq ?_
                   | refine vc_region ?_ | refine vc_cond ?_ | refine vc_block ?_ | refine vc_retc ?_ | refine vc_exit ?_ | refine vc_skip ?_ | refine vc_scope ?_ | refine vc_label ?_ | refine vc_goto ?_ | refine vc_wkSl0
                   | refine vc_wkHp0 | refine vc_eqAVs0 | refine vc_preG0 | refine vc_wkSl ?_ ?_ | refine vc_wkHp ?_ ?_ | refine vc_eqAVs ?_ ?_ | refine vc_preG ?_ ?_ | refine vc_side0 ?_ | refine vc_call [] hcl ?_
                   | refine vc_weakf [] ?_ ?_ ?_ | refine vc_and ?_ ?_ | refine vc_ret [] [] ?_)
            | ((with_reducible first | refine vc_caseD (fun h => ?_) (fun h => ?_) | refine vc_caseN (fun h => ?_) (fun h => ?_)) <;> try (exfalso; omega))
            | ((with_reducible refine vc_case (fun h => ?_) (fun h => ?_)) <;> (try simp at h) <;> try (exfalso; omega))))
    all_goals rfl

theorem sgn_more (B : List D) (bs : List UInt8) (hB : B = bs.map byteD) (hl : bs.length < 2 ^ 63) (a : Sgn × Nat) (h : rdSgn bs = some a) (he : ¬ a.2 = bs.length) :
    LocalCall Try.prog 62 [.d (.sl B), .fn (.func 67) [.ptr 8 [], .ptr 7 []]] [(8, .var (.fn (.func 59) [])), (7, .var (.d (.st [.st [.int .u64 0, digD zero32, digD zero32, digD zero32], .nils])))] [] (one [.d (.int .i64 3)]) [(7, .dead)] := by
  have hlen : B.length = bs.length := by rw [hB]; simp
  refine local_recovers mixed (sl2 := [(0, .d (.sl B)), (1, .fn (.func 67) [.ptr 8 [], .ptr 7 []]), (4, .ptr 1000 [])]) (hp2 := [(8, .var (.fn (.func 59) [])), (7, .var (.d (.st [.st [.int .u64 0, digD zero32, digD zero32, digD zero32], .nils]))), (1000, .var (.d (.int .i64 0)))]) (N := 1000) Try.func62 rfl rfl rfl rfl rfl rfl rfl rfl rfl rfl [] catch_idle catch_pan rfl (vc_chk rfl) rfl (by decide) (by decide) rfl ?_ ?_
  · skip
    repeat' (first
        | ((with_reducible refine vc_chk ?_); first | decide +kernel | rfl)
        | (with_reducible refine vc_side0 ?_; rfl)
        | (with_reducible first
             | refine vc_true ?_ | refine vc_true2 ?_ | refine vc_side ?_ ?_ | refine vc_triv | refine vc_later ?_ | refine vc_caseT ?_ | refine vc_caseF ?_ | refine vc_cons ?_ | refine vc_nil ?_ ?_ | refine vc_seq ?_
                | refine vc_region ?_ | refine vc_cond ?_ | refine vc_block ?_ | refine vc_retc ?_ | refine vc_exit ?_ | refine vc_skip ?_ | refine vc_scope ?_ | refine vc_label ?_ | refine vc_goto ?_ | refine vc_wkSl0
                | refine vc_wkHp0 | refine vc_eqAVs0 | refine vc_preG0 | refine vc_wkSl ?_ ?_ | refine vc_wkHp ?_ ?_ | refine vc_eqAVs ?_ ?_ | refine vc_preG ?_ ?_ | refine vc_side0 ?_ | refine vc_mid [] ?_ ?_ ?_ ?_
                | refine vc_weakf [] ?_ ?_ ?_ | refine vc_and ?_ ?_ | refine vc_ret [] [] ?_)
        | ((with_reducible first | refine vc_caseD (fun h => ?_) (fun h => ?_) | refine vc_caseN (fun h => ?_) (fun h => ?_)) <;> try (exfalso; omega))
        | ((with_reducible refine vc_case (fun h => ?_) (fun h => ?_)) <;> (try simp at h) <;> try (exfalso; omega))
        | (conv in Vc _ => arg 1; whnf
           first
            | (with_reducible refine vc_side0 ?_; rfl)
            | (with_reducible first
                | refine vc_true ?_ | refine vc_true2 ?_ | refine vc_side ?_ ?_ | refine vc_triv | refine vc_later ?_ | refine vc_caseT ?_ | refine vc_caseF ?_ | refine vc_cons ?_ | refine vc_nil ?_ ?_ | refine vc_seq ?_
                   | refine vc_region ?_ | refine vc_cond ?_ | refine vc_block ?_ | refine vc_retc ?_ | refine vc_exit ?_ | refine vc_skip ?_ | refine vc_scope ?_ | refine vc_label ?_ | refine vc_goto ?_ | refine vc_wkSl0
                   | refine vc_wkHp0 | refine vc_eqAVs0 | refine vc_preG0 | refine vc_wkSl ?_ ?_ | refine vc_wkHp ?_ ?_ | refine vc_eqAVs ?_ ?_ | refine vc_preG ?_ ?_ | refine vc_side0 ?_ | refine vc_mid [] ?_ ?_ ?_ ?_
                   | refine vc_weakf [] ?_ ?_ ?_ | refine vc_and ?_ ?_ | refine vc_ret [] [] ?_)
            | ((with_reducible first | refine vc_caseD (fun h => ?_) (fun h => ?_) | refine vc_caseN (fun h => ?_) (fun h => ?_)) <;> try (exfalso; omega))
            | ((with_reducible refine vc_case (fun h => ?_) (fun h => ?_)) <;> (try simp at h) <;> try (exfalso; omega))))
    all_goals rfl
  · have hcl := local_ren [(9, 3008)] [(3008, 9)] ((sgn_cl B bs hB hl).ok a h) rfl
    repeat' (first
        | ((with_reducible refine vc_chk ?_); first | decide +kernel | rfl)
        | (with_reducible refine vc_side0 ?_; rfl)
        | (with_reducible first
             | refine vc_true ?_ | refine vc_true2 ?_ | refine vc_side ?_ ?_ | refine vc_triv | refine vc_later ?_ | refine vc_caseT ?_ | refine vc_caseF ?_ | refine vc_cons ?_ | refine vc_nil ?_ ?_ | refine vc_seq ?_
                | refine vc_region ?_ | refine vc_cond ?_ | refine vc_block ?_ | refine vc_retc ?_ | refine vc_exit ?_ | refine vc_skip ?_ | refine vc_scope ?_ | refine vc_label ?_ | refine vc_goto ?_ | refine vc_wkSl0
                | refine vc_wkHp0 | refine vc_eqAVs0 | refine vc_preG0 | refine vc_wkSl ?_ ?_ | refine vc_wkHp ?_ ?_ | refine vc_eqAVs ?_ ?_ | refine vc_preG ?_ ?_ | refine vc_side0 ?_ | refine vc_call [] hcl ?_
                | refine vc_retK [] [] [7] ?_ | refine vc_weakf [] ?_ ?_ ?_ | refine vc_and ?_ ?_ | refine vc_ret [] [] ?_)
        | ((with_reducible first | refine vc_caseD (fun h => ?_) (fun h => ?_) | refine vc_caseN (fun h => ?_) (fun h => ?_)) <;> try (exfalso; omega))
        | ((with_reducible refine vc_case (fun h => ?_) (fun h => ?_)) <;> (try simp at h) <;> try (exfalso; omega))
        | (conv in Vc _ => arg 1; whnf
           first
            | (with_reducible refine vc_side0 ?_; rfl)
            | (with_reducible first
                | refine vc_true ?_ | refine vc_true2 ?_ | refine vc_side ?_ ?_ | refine vc_triv | refine vc_later ?_ | refine vc_caseT ?_ | refine vc_caseF ?_ | refine vc_cons ?_ | refine vc_nil ?_ ?_ | refine vc_seq ?_
                   | refine vc_region ?_ | refine vc_cond ?_ | refine vc_block ?_ | refine vc_retc ?_ | refine vc_exit ?_ | refine vc_skip ?_ | refine vc_scope ?_ | refine vc_label ?_ | refine vc_goto ?_ | refine vc_wkSl0
                   | refine vc_wkHp0 | refine vc_eqAVs0 | refine vc_preG0 | refine vc_wkSl ?_ ?_ | refine vc_wkHp ?_ ?_ | refine vc_eqAVs ?_ ?_ | refine vc_preG ?_ ?_ | refine vc_side0 ?_ | refine vc_call [] hcl ?_
                   | refine vc_retK [] [] [7] ?_ | refine vc_weakf [] ?_ ?_ ?_ | refine vc_and ?_ ?_ | refine vc_ret [] [] ?_)
            | ((with_reducible first | refine vc_caseD (fun h => ?_) (fun h => ?_) | refine vc_caseN (fun h => ?_) (fun h => ?_)) <;> try (exfalso; omega))
            | ((with_reducible refine vc_case (fun h => ?_) (fun h => ?_)) <;> (try simp at h) <;> try (exfalso; omega))))
    all_goals rfl

theorem sgn_not (B : List D) (bs : List UInt8) (hB : B = bs.map byteD) (hl : bs.length < 2 ^ 63) (h : rdSgn bs = none) :
    LocalCall Try.prog 62 [.d (.sl B), .fn (.func 67) [.ptr 8 [], .ptr 7 []]] [(8, .var (.fn (.func 59) [])), (7, .var (.d (.st [.st [.int .u64 0, digD zero32, digD zero32, digD zero32], .nils])))] [] (one [.d (.int .i64 3)]) [(7, .dead)] := by
  have hlen : B.length = bs.length := by rw [hB]; simp
  refine local_recovers mixed (sl2 := [(0, .d (.sl B)), (1, .fn (.func 67) [.ptr 8 [], .ptr 7 []]), (4, .ptr 1000 [])]) (hp2 := [(8, .var (.fn (.func 59) [])), (7, .var (.d (.st [.st [.int .u64 0, digD zero32, digD zero32, digD zero32], .nils]))), (1000, .var (.d (.int .i64 0)))]) (N := 1000) Try.func62 rfl rfl rfl rfl rfl rfl rfl rfl rfl rfl [] catch_idle catch_pan rfl (vc_chk rfl) rfl (by decide) (by decide) rfl ?_ ?_
  · skip
    repeat' (first
        | ((with_reducible refine vc_chk ?_); first | decide +kernel | rfl)
        | (with_reducible refine vc_side0 ?_; rfl)
        | (with_reducible first
             | refine vc_true ?_ | refine vc_true2 ?_ | refine vc_side ?_ ?_ | refine vc_triv | refine vc_later ?_ | refine vc_caseT ?_ | refine vc_caseF ?_ | refine vc_cons ?_ | refine vc_nil ?_ ?_ | refine vc_seq ?_
                | refine vc_region ?_ | refine vc_cond ?_ | refine vc_block ?_ | refine vc_retc ?_ | refine vc_exit ?_ | refine vc_skip ?_ | refine vc_scope ?_ | refine vc_label ?_ | refine vc_goto ?_ | refine vc_wkSl0
                | refine vc_wkHp0 | refine vc_eqAVs0 | refine vc_preG0 | refine vc_wkSl ?_ ?_ | refine vc_wkHp ?_ ?_ | refine vc_eqAVs ?_ ?_ | refine vc_preG ?_ ?_ | refine vc_side0 ?_ | refine vc_mid [] ?_ ?_ ?_ ?_
                | refine vc_weakf [] ?_ ?_ ?_ | refine vc_and ?_ ?_ | refine vc_ret [] [] ?_)
        | ((with_reducible first | refine vc_caseD (fun h => ?_) (fun h => ?_) | refine vc_caseN (fun h => ?_) (fun h => ?_)) <;> try (exfalso; omega))
        | ((with_reducible refine vc_case (fun h => ?_) (fun h => ?_)) <;> (try simp at h) <;> try (exfalso; omega))
        | (conv in Vc _ => arg 1; whnf
           first
            | (with_reducible refine vc_side0 ?_; rfl)
            | (with_reducible first
                | refine vc_true ?_ | refine vc_true2 ?_ | refine vc_side ?_ ?_ | refine vc_triv | refine vc_later ?_ | refine vc_caseT ?_ | refine vc_caseF ?_ | refine vc_cons ?_ | refine vc_nil ?_ ?_ | refine vc_seq ?_
                   | refine vc_region ?_ | refine vc_cond ?_ | refine vc_block ?_ | refine vc_retc ?_ | refine vc_exit ?_ | refine vc_skip ?_ | refine vc_scope ?_ | refine vc_label ?_ | refine vc_goto ?_ | refine vc_wkSl0
                   | refine vc_wkHp0 | refine vc_eqAVs0 | refine vc_preG0 | refine vc_wkSl ?_ ?_ | refine vc_wkHp ?_ ?_ | refine vc_eqAVs ?_ ?_ | refine vc_preG ?_ ?_ | refine vc_side0 ?_ | refine vc_mid [] ?_ ?_ ?_ ?_
                   | refine vc_weakf [] ?_ ?_ ?_ | refine vc_and ?_ ?_ | refine vc_ret [] [] ?_)
            | ((with_reducible first | refine vc_caseD (fun h => ?_) (fun h => ?_) | refine vc_caseN (fun h => ?_) (fun h => ?_)) <;> try (exfalso; omega))
            | ((with_reducible refine vc_case (fun h => ?_) (fun h => ?_)) <;> (try simp at h) <;> try (exfalso; omega))))
    all_goals rfl
  · have hcl := localPan_ren [(9, 3008)] [(3008, 9)] ((sgn_cl B bs hB hl).pan h) rfl
    repeat' (first
        | ((with_reducible refine vc_chk ?_); first | decide +kernel | rfl)
        | (with_reducible refine vc_side0 ?_; rfl)
        | (with_reducible first
             | refine vc_true ?_ | refine vc_true2 ?_ | refine vc_side ?_ ?_ | refine vc_triv | refine vc_later ?_ | refine vc_caseT ?_ | refine vc_caseF ?_ | refine vc_cons ?_ | refine vc_nil ?_ ?_ | refine vc_seq ?_
                | refine vc_region ?_ | refine vc_cond ?_ | refine vc_block ?_ | refine vc_retc ?_ | refine vc_exit ?_ | refine vc_skip ?_ | refine vc_scope ?_ | refine vc_label ?_ | refine vc_goto ?_ | refine vc_wkSl0
                | refine vc_wkHp0 | refine vc_eqAVs0 | refine vc_preG0 | refine vc_wkSl ?_ ?_ | refine vc_wkHp ?_ ?_ | refine vc_eqAVs ?_ ?_ | refine vc_preG ?_ ?_ | refine vc_side0 ?_ | refine vc_pan [] hcl ?_
                | refine vc_retK [] [] [7] ?_ | refine vc_weakf [] ?_ ?_ ?_ | refine vc_and ?_ ?_ | refine vc_ret [] [] ?_)
        | ((with_reducible first | refine vc_caseD (fun h => ?_) (fun h => ?_) | refine vc_caseN (fun h => ?_) (fun h => ?_)) <;> try (exfalso; omega))
        | ((with_reducible refine vc_case (fun h => ?_) (fun h => ?_)) <;> (try simp at h) <;> try (exfalso; omega))
        | (conv in Vc _ => arg 1; whnf
           first
            | (with_reducible refine vc_side0 ?_; rfl)
            | (with_reducible first
                | refine vc_true ?_ | refine vc_true2 ?_ | refine vc_side ?_ ?_ | refine vc_triv | refine vc_later ?_ | refine vc_caseT ?_ | refine vc_caseF ?_ | refine vc_cons ?_ | refine vc_nil ?_ ?_ | refine vc_seq ?_
                   | refine vc_region ?_ | refine vc_cond ?_ | refine vc_block ?_ | refine vc_retc ?_ | refine vc_exit ?_ | refine vc_skip ?_ | refine vc_scope ?_ | refine vc_label ?_ | refine vc_goto ?_ | refine vc_wkSl0
                   | refine vc_wkHp0 | refine vc_eqAVs0 | refine vc_preG0 | refine vc_wkSl ?_ ?_ | refine vc_wkHp ?_ ?_ | refine vc_eqAVs ?_ ?_ | refine vc_preG ?_ ?_ | refine vc_side0 ?_ | refine vc_pan [] hcl ?_
                   | refine vc_retK [] [] [7] ?_ | refine vc_weakf [] ?_ ?_ ?_ | refine vc_and ?_ ?_ | refine vc_ret [] [] ?_)
            | ((with_reducible first | refine vc_caseD (fun h => ?_) (fun h => ?_) | refine vc_caseN (fun h => ?_) (fun h => ?_)) <;> try (exfalso; omega))
            | ((with_reducible refine vc_case (fun h => ?_) (fun h => ?_)) <;> (try simp at h) <;> try (exfalso; omega))))
    all_goals rfl

theorem sgn_T (B : List D) (bs : List UInt8) (hB : B = bs.map byteD) (hl : bs.length < 2 ^ 63) (O : Option Sgn) (hO : toFin bs.length (rdSgn bs) = O) :
    LocalCall Try.prog 58 [.d (.sl B), .fn (.func 59) []] [] [] (one [.d (sD (O.getD s0)), .d (.int .i64 (errI O))]) [] := by
  subst hO
  rcases toFin_cases bs.length (rdSgn bs) with ⟨a, h, he, hq⟩ | ⟨hn, hq⟩
  · rw [hq]
    have hr := local_ren [(8, 1000), (7, 2000)] [(1000, 8), (2000, 7)] (sgn_yes B bs hB hl a h he) rfl
    refine vc_fn mixed Try.func58 rfl rfl [] (vc_chk rfl) ?_
    repeat' (first
        | ((with_reducible refine vc_chk ?_); first | decide +kernel | rfl)
        | (with_reducible refine vc_side0 ?_; rfl)
        | (with_reducible first
             | refine vc_true ?_ | refine vc_true2 ?_ | refine vc_side ?_ ?_ | refine vc_triv | refine vc_later ?_ | refine vc_caseT ?_ | refine vc_caseF ?_ | refine vc_cons ?_ | refine vc_nil ?_ ?_ | refine vc_seq ?_
                | refine vc_region ?_ | refine vc_cond ?_ | refine vc_block ?_ | refine vc_retc ?_ | refine vc_exit ?_ | refine vc_skip ?_ | refine vc_scope ?_ | refine vc_label ?_ | refine vc_goto ?_ | refine vc_wkSl0
                | refine vc_wkHp0 | refine vc_eqAVs0 | refine vc_preG0 | refine vc_wkSl ?_ ?_ | refine vc_wkHp ?_ ?_ | refine vc_eqAVs ?_ ?_ | refine vc_preG ?_ ?_ | refine vc_side0 ?_ | refine vc_call [] hr ?_
                | refine vc_weakf [] ?_ ?_ ?_ | refine vc_and ?_ ?_ | refine vc_ret [] [] ?_)
        | ((with_reducible first | refine vc_caseD (fun h => ?_) (fun h => ?_) | refine vc_caseN (fun h => ?_) (fun h => ?_)) <;> try (exfalso; omega))
        | ((with_reducible refine vc_case (fun h => ?_) (fun h => ?_)) <;> (try simp only [Bool.cond_true_left, Bool.cond_false_right, Bool.cond_true_right, Bool.cond_false_left, Bool.and_eq_true, Bool.or_eq_true, Bool.and_eq_false_iff, Bool.or_eq_false_iff, Bool.not_eq_true', Bool.not_eq_false', Bool.not_eq_true, Bool.not_eq_false, Bool.not_not, decide_eq_true_eq, decide_eq_false_iff_not, beq_iff_eq, beq_eq_false_iff_ne, bne_iff_ne, bne_eq_false_iff_eq, ne_eq, Classical.not_not, reduceCtorEq, false_or, or_false, true_and, and_true, Bool.false_eq_true, Bool.true_eq_false] at h) <;> try (exfalso; first | omega | (simp at h; done)))
        | (conv in Vc _ => arg 1; whnf
           first
            | (with_reducible refine vc_side0 ?_; rfl)
            | (with_reducible first
                | refine vc_true ?_ | refine vc_true2 ?_ | refine vc_side ?_ ?_ | refine vc_triv | refine vc_later ?_ | refine vc_caseT ?_ | refine vc_caseF ?_ | refine vc_cons ?_ | refine vc_nil ?_ ?_ | refine vc_seq ?_
                   | refine vc_region ?_ | refine vc_cond ?_ | refine vc_block ?_ | refine vc_retc ?_ | refine vc_exit ?_ | refine vc_skip ?_ | refine vc_scope ?_ | refine vc_label ?_ | refine vc_goto ?_ | refine vc_wkSl0
                   | refine vc_wkHp0 | refine vc_eqAVs0 | refine vc_preG0 | refine vc_wkSl ?_ ?_ | refine vc_wkHp ?_ ?_ | refine vc_eqAVs ?_ ?_ | refine vc_preG ?_ ?_ | refine vc_side0 ?_ | refine vc_call [] hr ?_
                   | refine vc_weakf [] ?_ ?_ ?_ | refine vc_and ?_ ?_ | refine vc_ret [] [] ?_)
            | ((with_reducible first | refine vc_caseD (fun h => ?_) (fun h => ?_) | refine vc_caseN (fun h => ?_) (fun h => ?_)) <;> try (exfalso; omega))
            | ((with_reducible refine vc_case (fun h => ?_) (fun h => ?_)) <;> (try simp only [Bool.cond_true_left, Bool.cond_false_right, Bool.cond_true_right, Bool.cond_false_left, Bool.and_eq_true, Bool.or_eq_true, Bool.and_eq_false_iff, Bool.or_eq_false_iff, Bool.not_eq_true', Bool.not_eq_false', Bool.not_eq_true, Bool.not_eq_false, Bool.not_not, decide_eq_true_eq, decide_eq_false_iff_not, beq_iff_eq, beq_eq_false_iff_ne, bne_iff_ne, bne_eq_false_iff_eq, ne_eq, Classical.not_not, reduceCtorEq, false_or, or_false, true_and, and_true, Bool.false_eq_true, Bool.true_eq_false] at h) <;> try (exfalso; first | omega | (simp at h; done)))))
    all_goals first | rfl | exact ⟨trivial, trivial, trivial⟩
  · rw [hq]
    have hr0 : LocalCall Try.prog 62 [.d (.sl B), .fn (.func 67) [.ptr 8 [], .ptr 7 []]] [(8, .var (.fn (.func 59) [])), (7, .var (.d (.st [.st [.int .u64 0, digD zero32, digD zero32, digD zero32], .nils])))] [] (one [.d (.int .i64 3)]) [(7, .dead)] := by
      rcases hn with h | ⟨a, h, he⟩
      · exact sgn_not B bs hB hl h
      · exact sgn_more B bs hB hl a h he
    have hr := local_ren [(8, 1000), (7, 2000)] [(1000, 8), (2000, 7)] hr0 rfl
    have key : LocalCall Try.prog 58 [.d (.sl B), .fn (.func 59) []] [] [] (one [.d (.st [.st [.int .u64 0, digD zero32, digD zero32, digD zero32], .nils]), .d (.int .i64 3)]) [] := by
      refine vc_fn mixed Try.func58 rfl rfl [] (vc_chk rfl) ?_
      repeat' (first
          | ((with_reducible refine vc_chk ?_); first | decide +kernel | rfl)
          | (with_reducible refine vc_side0 ?_; rfl)
          | (with_reducible first
               | refine vc_true ?_ | refine vc_true2 ?_ | refine vc_side ?_ ?_ | refine vc_triv | refine vc_later ?_ | refine vc_caseT ?_ | refine vc_caseF ?_ | refine vc_cons ?_ | refine vc_nil ?_ ?_ | refine vc_seq ?_
                  | refine vc_region ?_ | refine vc_cond ?_ | refine vc_block ?_ | refine vc_retc ?_ | refine vc_exit ?_ | refine vc_skip ?_ | refine vc_scope ?_ | refine vc_label ?_ | refine vc_goto ?_ | refine vc_wkSl0
                  | refine vc_wkHp0 | refine vc_eqAVs0 | refine vc_preG0 | refine vc_wkSl ?_ ?_ | refine vc_wkHp ?_ ?_ | refine vc_eqAVs ?_ ?_ | refine vc_preG ?_ ?_ | refine vc_side0 ?_ | refine vc_call [] hr ?_
                  | refine vc_weakf [] ?_ ?_ ?_ | refine vc_and ?_ ?_ | refine vc_ret [] [] ?_)
          | ((with_reducible first | refine vc_caseD (fun h => ?_) (fun h => ?_) | refine vc_caseN (fun h => ?_) (fun h => ?_)) <;> try (exfalso; omega))
          | ((with_reducible refine vc_case (fun h => ?_) (fun h => ?_)) <;> (try simp only [Bool.cond_true_left, Bool.cond_false_right, Bool.cond_true_right, Bool.cond_false_left, Bool.and_eq_true, Bool.or_eq_true, Bool.and_eq_false_iff, Bool.or_eq_false_iff, Bool.not_eq_true', Bool.not_eq_false', Bool.not_eq_true, Bool.not_eq_false, Bool.not_not, decide_eq_true_eq, decide_eq_false_iff_not, beq_iff_eq, beq_eq_false_iff_ne, bne_iff_ne, bne_eq_false_iff_eq, ne_eq, Classical.not_not, reduceCtorEq, false_or, or_false, true_and, and_true, Bool.false_eq_true, Bool.true_eq_false] at h) <;> try (exfalso; first | omega | (simp at h; done)))
          | (conv in Vc _ => arg 1; whnf
             first
              | (with_reducible refine vc_side0 ?_; rfl)
              | (with_reducible first
                  | refine vc_true ?_ | refine vc_true2 ?_ | refine vc_side ?_ ?_ | refine vc_triv | refine vc_later ?_ | refine vc_caseT ?_ | refine vc_caseF ?_ | refine vc_cons ?_ | refine vc_nil ?_ ?_ | refine vc_seq ?_
                     | refine vc_region ?_ | refine vc_cond ?_ | refine vc_block ?_ | refine vc_retc ?_ | refine vc_exit ?_ | refine vc_skip ?_ | refine vc_scope ?_ | refine vc_label ?_ | refine vc_goto ?_ | refine vc_wkSl0
                     | refine vc_wkHp0 | refine vc_eqAVs0 | refine vc_preG0 | refine vc_wkSl ?_ ?_ | refine vc_wkHp ?_ ?_ | refine vc_eqAVs ?_ ?_ | refine vc_preG ?_ ?_ | refine vc_side0 ?_ | refine vc_call [] hr ?_
                     | refine vc_weakf [] ?_ ?_ ?_ | refine vc_and ?_ ?_ | refine vc_ret [] [] ?_)
              | ((with_reducible first | refine vc_caseD (fun h => ?_) (fun h => ?_) | refine vc_caseN (fun h => ?_) (fun h => ?_)) <;> try (exfalso; omega))
              | ((with_reducible refine vc_case (fun h => ?_) (fun h => ?_)) <;> (try simp only [Bool.cond_true_left, Bool.cond_false_right, Bool.cond_true_right, Bool.cond_false_left, Bool.and_eq_true, Bool.or_eq_true, Bool.and_eq_false_iff, Bool.or_eq_false_iff, Bool.not_eq_true', Bool.not_eq_false', Bool.not_eq_true, Bool.not_eq_false, Bool.not_not, decide_eq_true_eq, decide_eq_false_iff_not, beq_iff_eq, beq_eq_false_iff_ne, bne_iff_ne, bne_eq_false_iff_eq, ne_eq, Classical.not_not, reduceCtorEq, false_or, or_false, true_and, and_true, Bool.false_eq_true, Bool.true_eq_false] at h) <;> try (exfalso; first | omega | (simp at h; done)))))
      all_goals first | rfl | exact ⟨trivial, trivial, trivial⟩
    exact local_dn key

theorem sgn_ok (B : List D) (bs : List UInt8) (hB : B = bs.map byteD) (hl : bs.length < 2 ^ 63) (O : Option Sgn) (hO : toFin bs.length (rdSgn bs) = O) :
    LocalCall Try.prog 32 [.d (.sl B)] [] [] (one [.d (sD (O.getD s0)), .d (.int .i64 (errI O))]) [] := by
  refine vc_fn mixed Try.func32 rfl rfl [] (vc_chk rfl) ?_
  repeat' (first
      | ((with_reducible refine vc_chk ?_); first | decide +kernel | rfl)
      | (with_reducible refine vc_side0 ?_; rfl)
      | (with_reducible first
           | refine vc_true ?_ | refine vc_true2 ?_ | refine vc_side ?_ ?_ | refine vc_triv | refine vc_later ?_ | refine vc_caseT ?_ | refine vc_caseF ?_ | refine vc_cons ?_ | refine vc_nil ?_ ?_ | refine vc_seq ?_
              | refine vc_region ?_ | refine vc_cond ?_ | refine vc_block ?_ | refine vc_retc ?_ | refine vc_exit ?_ | refine vc_skip ?_ | refine vc_scope ?_ | refine vc_label ?_ | refine vc_goto ?_ | refine vc_wkSl0
              | refine vc_wkHp0 | refine vc_eqAVs0 | refine vc_preG0 | refine vc_wkSl ?_ ?_ | refine vc_wkHp ?_ ?_ | refine vc_eqAVs ?_ ?_ | refine vc_preG ?_ ?_ | refine vc_side0 ?_ | refine vc_call [] (sgn_T B bs hB hl O hO) ?_
              | refine vc_weakf [] ?_ ?_ ?_ | refine vc_and ?_ ?_ | refine vc_ret [] [] ?_)
      | ((with_reducible first | refine vc_caseD (fun h => ?_) (fun h => ?_) | refine vc_caseN (fun h => ?_) (fun h => ?_)) <;> try (exfalso; omega))
      | ((with_reducible refine vc_case (fun h => ?_) (fun h => ?_)) <;> (try simp only [Bool.cond_true_left, Bool.cond_false_right, Bool.cond_true_right, Bool.cond_false_left, Bool.and_eq_true, Bool.or_eq_true, Bool.and_eq_false_iff, Bool.or_eq_false_iff, Bool.not_eq_true', Bool.not_eq_false', Bool.not_eq_true, Bool.not_eq_false, Bool.not_not, decide_eq_true_eq, decide_eq_false_iff_not, beq_iff_eq, beq_eq_false_iff_ne, bne_iff_ne, bne_eq_false_iff_eq, ne_eq, Classical.not_not, reduceCtorEq, false_or, or_false, true_and, and_true, Bool.false_eq_true, Bool.true_eq_false] at h) <;> try (exfalso; first | omega | (simp at h; done)))
      | (conv in Vc _ => arg 1; whnf
         first
          | (with_reducible refine vc_side0 ?_; rfl)
          | (with_reducible first
              | refine vc_true ?_ | refine vc_true2 ?_ | refine vc_side ?_ ?_ | refine vc_triv | refine vc_later ?_ | refine vc_caseT ?_ | refine vc_caseF ?_ | refine vc_cons ?_ | refine vc_nil ?_ ?_ | refine vc_seq ?_
                 | refine vc_region ?_ | refine vc_cond ?_ | refine vc_block ?_ | refine vc_retc ?_ | refine vc_exit ?_ | refine vc_skip ?_ | refine vc_scope ?_ | refine vc_label ?_ | refine vc_goto ?_ | refine vc_wkSl0
                 | refine vc_wkHp0 | refine vc_eqAVs0 | refine vc_preG0 | refine vc_wkSl ?_ ?_ | refine vc_wkHp ?_ ?_ | refine vc_eqAVs ?_ ?_ | refine vc_preG ?_ ?_ | refine vc_side0 ?_
                 | refine vc_call [] (sgn_T B bs hB hl O hO) ?_ | refine vc_weakf [] ?_ ?_ ?_ | refine vc_and ?_ ?_ | refine vc_ret [] [] ?_)
          | ((with_reducible first | refine vc_caseD (fun h => ?_) (fun h => ?_) | refine vc_caseN (fun h => ?_) (fun h => ?_)) <;> try (exfalso; omega))
          | ((with_reducible refine vc_case (fun h => ?_) (fun h => ?_)) <;> (try simp only [Bool.cond_true_left, Bool.cond_false_right, Bool.cond_true_right, Bool.cond_false_left, Bool.and_eq_true, Bool.or_eq_true, Bool.and_eq_false_iff, Bool.or_eq_false_iff, Bool.not_eq_true', Bool.not_eq_false', Bool.not_eq_true, Bool.not_eq_false, Bool.not_not, decide_eq_true_eq, decide_eq_false_iff_not, beq_iff_eq, beq_eq_false_iff_ne, bne_iff_ne, bne_eq_false_iff_eq, ne_eq, Classical.not_not, reduceCtorEq, false_or, or_false, true_and, and_true, Bool.false_eq_true, Bool.true_eq_false] at h) <;> try (exfalso; first | omega | (simp at h; done)))))
  all_goals first | rfl | exact ⟨trivial, trivial, trivial⟩

theorem prf_cl (B : List D) (bs : List UInt8) (hB : B = bs.map byteD) (hl : bs.length < 2 ^ 63) :
    LocalE (rdPrf bs) Try.prog 68 [.ptr 9 [], .ptr 8 [], .ptr 7 []] [(9, rd B 0), (8, .var (.fn (.func 61) [])), (7, .var (.d (.st [.nils, .int .i64 0, digD zero32, digD zero32])))] [] (fun _ => []) (fun a => [(9, rd B a.2), (7, .var (.d (pD a.1)))]) [] fault [(9, .dead), (7, .dead)] := by
  refine vc_fnE mixed Try.func68 rfl rfl [] (rdPrf bs) (vc_chk rfl) ?_
  repeat' (first
      | ((with_reducible refine vc_chk ?_); first | decide +kernel | rfl)
      | (with_reducible refine vc_side0 ?_; rfl)
      | (with_reducible first
           | refine vc_true ?_ | refine vc_true2 ?_ | refine vc_side ?_ ?_ | refine vc_triv | refine vc_later ?_ | refine vc_caseT ?_ | refine vc_caseF ?_ | refine vc_cons ?_ | refine vc_nil ?_ ?_ | refine vc_seq ?_
              | refine vc_region ?_ | refine vc_cond ?_ | refine vc_block ?_ | refine vc_retc ?_ | refine vc_exit ?_ | refine vc_skip ?_ | refine vc_scope ?_ | refine vc_label ?_ | refine vc_goto ?_ | refine vc_wkSl0
              | refine vc_wkHp0 | refine vc_eqAVs0 | refine vc_preG0 | refine vc_wkSl ?_ ?_ | refine vc_wkHp ?_ ?_ | refine vc_eqAVs ?_ ?_ | refine vc_preG ?_ ?_ | refine vc_side0 ?_
              | refine vc_eAt [] 9 (by with_unfolding_all rfl) (prf_in B bs hB hl) (fun a h => ?_) (fun h => ?_) | refine vc_ek a h ?_ | refine vc_ep h ?_ | refine vc_panc [] [7] ?_ ?_ | refine vc_weakf [] ?_ ?_ ?_
              | refine vc_and ?_ ?_ | refine vc_ret [] [] ?_)
      | ((with_reducible first | refine vc_caseD (fun h => ?_) (fun h => ?_) | refine vc_caseN (fun h => ?_) (fun h => ?_)) <;> try (exfalso; omega))
      | ((with_reducible refine vc_case (fun h => ?_) (fun h => ?_)) <;> (try simp only [Bool.cond_true_left, Bool.cond_false_right, Bool.cond_true_right, Bool.cond_false_left, Bool.and_eq_true, Bool.or_eq_true, Bool.and_eq_false_iff, Bool.or_eq_false_iff, Bool.not_eq_true', Bool.not_eq_false', Bool.not_eq_true, Bool.not_eq_false, Bool.not_not, decide_eq_true_eq, decide_eq_false_iff_not, beq_iff_eq, beq_eq_false_iff_ne, bne_iff_ne, bne_eq_false_iff_eq, ne_eq, Classical.not_not, reduceCtorEq, false_or, or_false, true_and, and_true, Bool.false_eq_true, Bool.true_eq_false] at h) <;> try (exfalso; first | omega | (simp at h; done)))
      | (conv in Vc _ => arg 1; whnf
         first
          | (with_reducible refine vc_side0 ?_; rfl)
          | (with_reducible first
              | refine vc_true ?_ | refine vc_true2 ?_ | refine vc_side ?_ ?_ | refine vc_triv | refine vc_later ?_ | refine vc_caseT ?_ | refine vc_caseF ?_ | refine vc_cons ?_ | refine vc_nil ?_ ?_ | refine vc_seq ?_
                 | refine vc_region ?_ | refine vc_cond ?_ | refine vc_block ?_ | refine vc_retc ?_ | refine vc_exit ?_ | refine vc_skip ?_ | refine vc_scope ?_ | refine vc_label ?_ | refine vc_goto ?_ | refine vc_wkSl0
                 | refine vc_wkHp0 | refine vc_eqAVs0 | refine vc_preG0 | refine vc_wkSl ?_ ?_ | refine vc_wkHp ?_ ?_ | refine vc_eqAVs ?_ ?_ | refine vc_preG ?_ ?_ | refine vc_side0 ?_
                 | refine vc_eAt [] 9 (by with_unfolding_all rfl) (prf_in B bs hB hl) (fun a h => ?_) (fun h => ?_) | refine vc_ek a h ?_ | refine vc_ep h ?_ | refine vc_panc [] [7] ?_ ?_ | refine vc_weakf [] ?_ ?_ ?_
                 | refine vc_and ?_ ?_ | refine vc_ret [] [] ?_)
          | ((with_reducible first | refine vc_caseD (fun h => ?_) (fun h => ?_) | refine vc_caseN (fun h => ?_) (fun h => ?_)) <;> try (exfalso; omega))
          | ((with_reducible refine vc_case (fun h => ?_) (fun h => ?_)) <;> (try simp only [Bool.cond_true_left, Bool.cond_false_right, Bool.cond_true_right, Bool.cond_false_left, Bool.and_eq_true, Bool.or_eq_true, Bool.and_eq_false_iff, Bool.or_eq_false_iff, Bool.not_eq_true', Bool.not_eq_false', Bool.not_eq_true, Bool.not_eq_false, Bool.not_not, decide_eq_true_eq, decide_eq_false_iff_not, beq_iff_eq, beq_eq_false_iff_ne, bne_iff_ne, bne_eq_false_iff_eq, ne_eq, Classical.not_not, reduceCtorEq, false_or, or_false, true_and, and_true, Bool.false_eq_true, Bool.true_eq_false] at h) <;> try (exfalso; first | omega | (simp at h; done)))))
  all_goals rfl

theorem prf_yes (B : List D) (bs : List UInt8) (hB : B = bs.map byteD) (hl : bs.length < 2 ^ 63) (a : Prf × Nat) (h : rdPrf bs = some a) (he : a.2 = bs.length) :
    LocalCall Try.prog 62 [.d (.sl B), .fn (.func 68) [.ptr 8 [], .ptr 7 []]] [(8, .var (.fn (.func 61) [])), (7, .var (.d (.st [.nils, .int .i64 0, digD zero32, digD zero32])))] [] (one [.d (.int .i64 0)]) [(7, .var (.d (pD a.1)))] := by
  have hlen : B.length = bs.length := by rw [hB]; simp
  refine local_recovers mixed (sl2 := [(0, .d (.sl B)), (1, .fn (.func 68) [.ptr 8 [], .ptr 7 []]), (4, .ptr 1000 [])]) (hp2 := [(8, .var (.fn (.func 61) [])), (7, .var (.d (.st [.nils, .int .i64 0, digD zero32, digD zero32]))), (1000, .var (.d (.int .i64 0)))]) (N := 1000) Try.func62 rfl rfl rfl rfl rfl rfl rfl rfl rfl rfl [] catch_idle catch_pan rfl (vc_chk rfl) rfl (by decide) (by decide) rfl ?_ ?_
  · skip
    repeat' (first
        | ((with_reducible refine vc_chk ?_); first | decide +kernel | rfl)
        | (with_reducible refine vc_side0 ?_; rfl)
        | (with_reducible first
             | refine vc_true ?_ | refine vc_true2 ?_ | refine vc_side ?_ ?_ | refine vc_triv | refine vc_later ?_ | refine vc_caseT ?_ | refine vc_caseF ?_ | refine vc_cons ?_ | refine vc_nil ?_ ?_ | refine vc_seq ?_
                | refine vc_region ?_ | refine vc_cond ?_ | refine vc_block ?_ | refine vc_retc ?_ | refine vc_exit ?_ | refine vc_skip ?_ | refine vc_scope ?_ | refine vc_label ?_ | refine vc_goto ?_ | refine vc_wkSl0
                | refine vc_wkHp0 | refine vc_eqAVs0 | refine vc_preG0 | refine vc_wkSl ?_ ?_ | refine vc_wkHp ?_ ?_ | refine vc_eqAVs ?_ ?_ | refine vc_preG ?_ ?_ | refine vc_side0 ?_ | refine vc_mid [] ?_ ?_ ?_ ?_
                | refine vc_weakf [] ?_ ?_ ?_ | refine vc_and ?_ ?_ | refine vc_ret [] [] ?_)
        | ((with_reducible first | refine vc_caseD (fun h => ?_) (fun h => ?_) | refine vc_caseN (fun h => ?_) (fun h => ?_)) <;> try (exfalso; omega))
        | ((with_reducible refine vc_case (fun h => ?_) (fun h => ?_)) <;> (try simp at h) <;> try (exfalso; omega))
        | (conv in Vc _ => arg 1; whnf
           first
            | (with_reducible refine vc_side0 ?_; rfl)
            | (with_reducible first
                | refine vc_true ?_ | refine vc_true2 ?_ | refine vc_side ?_ ?_ | refine vc_triv | refine vc_later ?_ | refine vc_caseT ?_ | refine vc_caseF ?_ | refine vc_cons ?_ | refine vc_nil ?_ ?_ | refine vc_seq ?_
                   | refine vc_region ?_ | refine vc_cond ?_ | refine vc_block ?_ | refine vc_retc ?_ | refine vc_exit ?_ | refine vc_skip ?_ | refine vc_scope ?_ | refine vc_label ?_ | refine vc_goto ?_ | refine vc_wkSl0
                   | refine vc_wkHp0 | refine vc_eqAVs0 | refine vc_preG0 | refine vc_wkSl ?_ ?_ | refine vc_wkHp ?_ ?_ | refine vc_eqAVs ?_ ?_ | refine vc_preG ?_ ?_ | refine vc_side0 ?_ | refine vc_mid [] ?_ ?_ ?_ ?_
                   | refine vc_weakf [] ?_ ?_ ?_ | refine vc_and ?_ ?_ | refine vc_ret [] [] ?_)
            | ((with_reducible first | refine vc_caseD (fun h => ?_) (fun h => ?_) | refine vc_caseN (fun h => ?_) (fun h => ?_)) <;> try (exfalso; omega))
            | ((with_reducible refine vc_case (fun h => ?_) (fun h => ?_)) <;> (try simp at h) <;> try (exfalso; omega))))
    all_goals rfl
  · have hcl := local_ren [(9, 3008)] [(3008, 9)] ((prf_cl B bs hB hl).ok a h) rfl
    repeat' (first
        | ((with_reducible refine vc_chk ?_); first | decide +kernel | rfl)
        | (with_reducible refine vc_side0 ?_; rfl)
        | (with_reducible first
             | refine vc_true ?_ | refine vc_true2 ?_ | refine vc_side ?_ ?_ | refine vc_triv | refine vc_later ?_ | refine vc_caseT ?_ | refine vc_caseF ?_ | refine vc_cons ?_ | refine vc_nil ?_ ?_ | refine vc_seq ?_
                | refine vc_region ?_ | refine vc_cond ?_ | refine vc_block ?_ | refine vc_retc ?_ | refine vc_exit ?_ | refine vc_skip ?_ | refine vc_scope ?_ | refine vc_label ?_ | refine vc_goto ?_ | refine vc_wkSl0
                | refine vc_wkHp0 | refine vc_eqAVs0 | refine vc_preG0 | refine vc_wkSl ?_ ?_ | refine vc_wkHp ?_ ?_ | refine vc_eqAVs ?_ ?_ | refine vc_preG ?_ ?_ | refine vc_side0 ?_ | refine vc_call [] hcl ?_
                | refine vc_weakf [] ?_ ?_ ?_ | refine vc_and ?_ ?_ | refine vc_ret [] [] ?_)
        | ((with_reducible first | refine vc_caseD (fun h => ?_) (fun h => ?_) | refine vc_caseN (fun h => ?_) (fun h => ?_)) <;> try (exfalso; omega))
        | ((with_reducible refine vc_case (fun h => ?_) (fun h => ?_)) <;> (try simp at h) <;> try (exfalso; omega))
        | (conv in Vc _ => arg 1; whnf
           first
            | (with_reducible refine vc_side0 ?_; rfl)
            | (with_reducible first
                | refine vc_true ?_ | refine vc_true2 ?_ | refine vc_side ?_ ?_ | refine vc_triv | refine vc_later ?_ | refine vc_caseT ?_ | refine vc_caseF ?_ | refine vc_cons ?_ | refine vc_nil ?_ ?_ | refine vc_seq ?_
                   | refine vc_region ?_ | refine vc_cond ?_ | refine vc_block ?_ | refine vc_retc ?_ | refine vc_exit ?_ | refine vc_skip ?_ | refine vc_scope ?_ | refine vc_label ?_ | refine vc_goto ?_ | refine vc_wkSl0
                   | refine vc_wkHp0 | refine vc_eqAVs0 | refine vc_preG0 | refine vc_wkSl ?_ ?_ | refine vc_wkHp ?_ ?_ | refine vc_eqAVs ?_ ?_ | refine vc_preG ?_ ?_ | refine vc_side0 ?_ | refine vc_call [] hcl ?_
                   | refine vc_weakf [] ?_ ?_ ?_ | refine vc_and ?_ ?_ | refine vc_ret [] [] ?_)
            | ((with_reducible first | refine vc_caseD (fun h => ?_) (fun h => ?_) | refine vc_caseN (fun h => ?_) (fun h => ?_)) <;> try (exfalso; omega))
            | ((with_reducible refine vc_case (fun h => ?_) (fun h => ?_)) <;> (try simp at h) <;> try (exfalso; omega))))
    all_goals rfl

theorem prf_more (B : List D) (bs : List UInt8) (hB : B = bs.map byteD) (hl : bs.length < 2 ^ 63) (a : Prf × Nat) (h : rdPrf bs = some a) (he : ¬ a.2 = bs.length) :
    LocalCall Try.prog 62 [.d (.sl B), .fn (.func 68) [.ptr 8 [], .ptr 7 []]] [(8, .var (.fn (.func 61) [])), (7, .var (.d (.st [.nils, .int .i64 0, digD zero32, digD zero32])))] [] (one [.d (.int .i64 3)]) [(7, .dead)] := by
  have hlen : B.length = bs.length := by rw [hB]; simp
  refine local_recovers mixed (sl2 := [(0, .d (.sl B)), (1, .fn (.func 68) [.ptr 8 [], .ptr 7 []]), (4, .ptr 1000 [])]) (hp2 := [(8, .var (.fn (.func 61) [])), (7, .var (.d (.st [.nils, .int .i64 0, digD zero32, digD zero32]))), (1000, .var (.d (.int .i64 0)))]) (N := 1000) Try.func62 rfl rfl rfl rfl rfl rfl rfl rfl rfl rfl [] catch_idle catch_pan rfl (vc_chk rfl) rfl (by decide) (by decide) rfl ?_ ?_
  · skip
    repeat' (first
        | ((with_reducible refine vc_chk ?_); first | decide +kernel | rfl)
        | (with_reducible refine vc_side0 ?_; rfl)
        | (with_reducible first
             | refine vc_true ?_ | refine vc_true2 ?_ | refine vc_side ?_ ?_ | refine vc_triv | refine vc_later ?_ | refine vc_caseT ?_ | refine vc_caseF ?_ | refine vc_cons ?_ | refine vc_nil ?_ ?_ | refine vc_seq ?_
                | refine vc_region ?_ | refine vc_cond ?_ | refine vc_block ?_ | refine vc_retc ?_ | refine vc_exit ?_ | refine vc_skip ?_ | refine vc_scope ?_ | refine vc_label ?_ | refine vc_goto ?_ | refine vc_wkSl0
                | refine vc_wkHp0 | refine vc_eqAVs0 | refine vc_preG0 | refine vc_wkSl ?_ ?_ | refine vc_wkHp ?_ ?_ | refine vc_eqAVs ?_ ?_ | refine vc_preG ?_ ?_ | refine vc_side0 ?_ | refine vc_mid [] ?_ ?_ ?_ ?_
                | refine vc_weakf [] ?_ ?_ ?_ | refine vc_and ?_ ?_ | refine vc_ret [] [] ?_)
        | ((with_reducible first | refine vc_caseD (fun h => ?_) (fun h => ?_) | refine vc_caseN (fun h => ?_) (fun h => ?_)) <;> try (exfalso; omega))
        | ((with_reducible refine vc_case (fun h => ?_) (fun h => ?_)) <;> (try simp at h) <;> try (exfalso; omega))
        | (conv in Vc _ => arg 1; whnf
           first
            | (with_reducible refine vc_side0 ?_; rfl)
            | (with_reducible first
                | refine vc_true ?_ | refine vc_true2 ?_ | refine vc_side ?_ ?_ | refine vc_triv | refine vc_later ?_ | refine vc_caseT ?_ | refine vc_caseF ?_ | refine vc_cons ?_ | refine vc_nil ?_ ?_ | refine vc_seq ?_
                   | refine vc_region ?_ | refine vc_cond ?_ | refine vc_block ?_ | refine vc_retc ?_ | refine vc_exit ?_ | refine vc_skip ?_ | refine vc_scope ?_ | refine vc_label ?_ | refine vc_goto ?_ | refine vc_wkSl0
                   | refine vc_wkHp0 | refine vc_eqAVs0 | refine vc_preG0 | refine vc_wkSl ?_ ?_ | refine vc_wkHp ?_ ?_ | refine vc_eqAVs ?_ ?_ | refine vc_preG ?_ ?_ | refine vc_side0 ?_ | refine vc_mid [] ?_ ?_ ?_ ?_
                   | refine vc_weakf [] ?_ ?_ ?_ | refine vc_and ?_ ?_ | refine vc_ret [] [] ?_)
            | ((with_reducible first | refine vc_caseD (fun h => ?_) (fun h => ?_) | refine vc_caseN (fun h => ?_) (fun h => ?_)) <;> try (exfalso; omega))
            | ((with_reducible refine vc_case (fun h => ?_) (fun h => ?_)) <;> (try simp at h) <;> try (exfalso; omega))))
    all_goals rfl
  · have hcl := local_ren [(9, 3008)] [(3008, 9)] ((prf_cl B bs hB hl).ok a h) rfl
    repeat' (first
        | ((with_reducible refine vc_chk ?_); first | decide +kernel | rfl)
        | (with_reducible refine vc_side0 ?_; rfl)
        | (with_reducible first
             | refine vc_true ?_ | refine vc_true2 ?_ | refine vc_side ?_ ?_ | refine vc_triv | refine vc_later ?_ | refine vc_caseT ?_ | refine vc_caseF ?_ | refine vc_cons ?_ | refine vc_nil ?_ ?_ | refine vc_seq ?_
                | refine vc_region ?_ | refine vc_cond ?_ | refine vc_block ?_ | refine vc_retc ?_ | refine vc_exit ?_ | refine vc_skip ?_ | refine vc_scope ?_ | refine vc_label ?_ | refine vc_goto ?_ | refine vc_wkSl0
                | refine vc_wkHp0 | refine vc_eqAVs0 | refine vc_preG0 | refine vc_wkSl ?_ ?_ | refine vc_wkHp ?_ ?_ | refine vc_eqAVs ?_ ?_ | refine vc_preG ?_ ?_ | refine vc_side0 ?_ | refine vc_call [] hcl ?_
                | refine vc_retK [] [] [7] ?_ | refine vc_weakf [] ?_ ?_ ?_ | refine vc_and ?_ ?_ | refine vc_ret [] [] ?_)
        | ((with_reducible first | refine vc_caseD (fun h => ?_) (fun h => ?_) | refine vc_caseN (fun h => ?_) (fun h => ?_)) <;> try (exfalso; omega))
        | ((with_reducible refine vc_case (fun h => ?_) (fun h => ?_)) <;> (try simp at h) <;> try (exfalso; omega))
        | (conv in Vc _ => arg 1; whnf
           first
            | (with_reducible refine vc_side0 ?_; rfl)
            | (with_reducible first
                | refine vc_true ?_ | refine vc_true2 ?_ | refine vc_side ?_ ?_ | refine vc_triv | refine vc_later ?_ | refine vc_caseT ?_ | refine vc_caseF ?_ | refine vc_cons ?_ | refine vc_nil ?_ ?_ | refine vc_seq ?_
                   | refine vc_region ?_ | refine vc_cond ?_ | refine vc_block ?_ | refine vc_retc ?_ | refine vc_exit ?_ | refine vc_skip ?_ | refine vc_scope ?_ | refine vc_label ?_ | refine vc_goto ?_ | refine vc_wkSl0
                   | refine vc_wkHp0 | refine vc_eqAVs0 | refine vc_preG0 | refine vc_wkSl ?_ ?_ | refine vc_wkHp ?_ ?_ | refine vc_eqAVs ?_ ?_ | refine vc_preG ?_ ?_ | refine vc_side0 ?_ | refine vc_call [] hcl ?_
                   | refine vc_retK [] [] [7] ?_ | refine vc_weakf [] ?_ ?_ ?_ | refine vc_and ?_ ?_ | refine vc_ret [] [] ?_)
            | ((with_reducible first | refine vc_caseD (fun h => ?_) (fun h => ?_) | refine vc_caseN (fun h => ?_) (fun h => ?_)) <;> try (exfalso; omega))
            | ((with_reducible refine vc_case (fun h => ?_) (fun h => ?_)) <;> (try simp at h) <;> try (exfalso; omega))))
    all_goals rfl

theorem prf_not (B : List D) (bs : List UInt8) (hB : B = bs.map byteD) (hl : bs.length < 2 ^ 63) (h : rdPrf bs = none) :
    LocalCall Try.prog 62 [.d (.sl B), .fn (.func 68) [.ptr 8 [], .ptr 7 []]] [(8, .var (.fn (.func 61) [])), (7, .var (.d (.st [.nils, .int .i64 0, digD zero32, digD zero32])))] [] (one [.d (.int .i64 3)]) [(7, .dead)] := by
  have hlen : B.length = bs.length := by rw [hB]; simp
  refine local_recovers mixed (sl2 := [(0, .d (.sl B)), (1, .fn (.func 68) [.ptr 8 [], .ptr 7 []]), (4, .ptr 1000 [])]) (hp2 := [(8, .var (.fn (.func 61) [])), (7, .var (.d (.st [.nils, .int .i64 0, digD zero32, digD zero32]))), (1000, .var (.d (.int .i64 0)))]) (N := 1000) Try.func62 rfl rfl rfl rfl rfl rfl rfl rfl rfl rfl [] catch_idle catch_pan rfl (vc_chk rfl) rfl (by decide) (by decide) rfl ?_ ?_
  · skip
    repeat' (first
        | ((with_reducible refine vc_chk ?_); first | decide +kernel | rfl)
        | (with_reducible refine vc_side0 ?_; rfl)
        | (with_reducible first
             | refine vc_true ?_ | refine vc_true2 ?_ | refine vc_side ?_ ?_ | refine vc_triv | refine vc_later ?_ | refine vc_caseT ?_ | refine vc_caseF ?_ | refine vc_cons ?_ | refine vc_nil ?_ ?_ | refine vc_seq ?_
                | refine vc_region ?_ | refine vc_cond ?_ | refine vc_block ?_ | refine vc_retc ?_ | refine vc_exit ?_ | refine vc_skip ?_ | refine vc_scope ?_ | refine vc_label ?_ | refine vc_goto ?_ | refine vc_wkSl0
                | refine vc_wkHp0 | refine vc_eqAVs0 | refine vc_preG0 | refine vc_wkSl ?_ ?_ | refine vc_wkHp ?_ ?_ | refine vc_eqAVs ?_ ?_ | refine vc_preG ?_ ?_ | refine vc_side0 ?_ | refine vc_mid [] ?_ ?_ ?_ ?_
                | refine vc_weakf [] ?_ ?_ ?_ | refine vc_and ?_ ?_ | refine vc_ret [] [] ?_)
        | ((with_reducible first | refine vc_caseD (fun h => ?_) (fun h => ?_) | refine vc_caseN (fun h => ?_) (fun h => ?_)) <;> try (exfalso; omega))
        | ((with_reducible refine vc_case (fun h => ?_) (fun h => ?_)) <;> (try simp at h) <;> try (exfalso; omega))
        | (conv in Vc _ => arg 1; whnf
           first
            | (with_reducible refine vc_side0 ?_; rfl)
            | (with_reducible first
                | refine vc_true ?_ | refine vc_true2 ?_ | refine vc_side ?_ ?_ | refine vc_triv | refine vc_later ?_ | refine vc_caseT ?_ | refine vc_caseF ?_ | refine vc_cons ?_ | refine vc_nil ?_ ?_ | refine vc_seq ?_
                   | refine vc_region ?_ | refine vc_cond ?_ | refine vc_block ?_ | refine vc_retc ?_ | refine vc_exit ?_ | refine vc_skip ?_ | refine vc_scope ?_ | refine vc_label ?_ | refine vc_goto ?_ | refine vc_wkSl0
                   | refine vc_wkHp0 | refine vc_eqAVs0 | refine vc_preG0 | refine vc_wkSl ?_ ?_ | refine vc_wkHp ?_ ?_ | refine vc_eqAVs ?_ ?_ | refine vc_preG ?_ ?_ | refine vc_side0 ?_ | refine vc_mid [] ?_ ?_ ?_ ?_
                   | refine vc_weakf [] ?_ ?_ ?_ | refine vc_and ?_ ?_ | refine vc_ret [] [] ?_)
            | ((with_reducible first | refine vc_caseD (fun h => ?_) (fun h => ?_) | refine vc_caseN (fun h => ?_) (fun h => ?_)) <;> try (exfalso; omega))
            | ((with_reducible refine vc_case (fun h => ?_) (fun h => ?_)) <;> (try simp at h) <;> try (exfalso; omega))))
    all_goals rfl
  · have hcl := localPan_ren [(9, 3008)] [(3008, 9)] ((prf_cl B bs hB hl).pan h) rfl
    repeat' (first
        | ((with_reducible refine vc_chk ?_); first | decide +kernel | rfl)
        | (with_reducible refine vc_side0 ?_; rfl)
        | (with_reducible first
             | refine vc_true ?_ | refine vc_true2 ?_ | refine vc_side ?_ ?_ | refine vc_triv | refine vc_later ?_ | refine vc_caseT ?_ | refine vc_caseF ?_ | refine vc_cons ?_ | refine vc_nil ?_ ?_ | refine vc_seq ?_
                | refine vc_region ?_ | refine vc_cond ?_ | refine vc_block ?_ | refine vc_retc ?_ | refine vc_exit ?_ | refine vc_skip ?_ | refine vc_scope ?_ | refine vc_label ?_ | refine vc_goto ?_ | refine vc_wkSl0
                | refine vc_wkHp0 | refine vc_eqAVs0 | refine vc_preG0 | refine vc_wkSl ?_ ?_ | refine vc_wkHp ?_ ?_ | refine vc_eqAVs ?_ ?_ | refine vc_preG ?_ ?_ | refine vc_side0 ?_ | refine vc_pan [] hcl ?_
                | refine vc_retK [] [] [7] ?_ | refine vc_weakf [] ?_ ?_ ?_ | refine vc_and ?_ ?_ | refine vc_ret [] [] ?_)
        | ((with_reducible first | refine vc_caseD (fun h => ?_) (fun h => ?_) | refine vc_caseN (fun h => ?_) (fun h => ?_)) <;> try (exfalso; omega))
        | ((with_reducible refine vc_case (fun h => ?_) (fun h => ?_)) <;> (try simp at h) <;> try (exfalso; omega))
        | (conv in Vc _ => arg 1; whnf
           first
            | (with_reducible refine vc_side0 ?_; rfl)
            | (with_reducible first
                | refine vc_true ?_ | refine vc_true2 ?_ | refine vc_side ?_ ?_ | refine vc_triv | refine vc_later ?_ | refine vc_caseT ?_ | refine vc_caseF ?_ | refine vc_cons ?_ | refine vc_nil ?_ ?_ | refine vc_seq ?_
                   | refine vc_region ?_ | refine vc_cond ?_ | refine vc_block ?_ | refine vc_retc ?_ | refine vc_exit ?_ | refine vc_skip ?_ | refine vc_scope ?_ | refine vc_label ?_ | refine vc_goto ?_ | refine vc_wkSl0
                   | refine vc_wkHp0 | refine vc_eqAVs0 | refine vc_preG0 | refine vc_wkSl ?_ ?_ | refine vc_wkHp ?_ ?_ | refine vc_eqAVs ?_ ?_ | refine vc_preG ?_ ?_ | refine vc_side0 ?_ | refine vc_pan [] hcl ?_
                   | refine vc_retK [] [] [7] ?_ | refine vc_weakf [] ?_ ?_ ?_ | refine vc_and ?_ ?_ | refine vc_ret [] [] ?_)
            | ((with_reducible first | refine vc_caseD (fun h => ?_) (fun h => ?_) | refine vc_caseN (fun h => ?_) (fun h => ?_)) <;> try (exfalso; omega))
            | ((with_reducible refine vc_case (fun h => ?_) (fun h => ?_)) <;> (try simp at h) <;> try (exfalso; omega))))
    all_goals rfl

theorem prf_T (B : List D) (bs : List UInt8) (hB : B = bs.map byteD) (hl : bs.length < 2 ^ 63) (O : Option Prf) (hO : toFin bs.length (rdPrf bs) = O) :
    LocalCall Try.prog 60 [.d (.sl B), .fn (.func 61) []] [] [] (one [.d (pD (O.getD p0)), .d (.int .i64 (errI O))]) [] := by
  subst hO
  rcases toFin_cases bs.length (rdPrf bs) with ⟨a, h, he, hq⟩ | ⟨hn, hq⟩
  · rw [hq]
    have hr := local_ren [(8, 1000), (7, 2000)] [(1000, 8), (2000, 7)] (prf_yes B bs hB hl a h he) rfl
    refine vc_fn mixed Try.func60 rfl rfl [] (vc_chk rfl) ?_
    repeat' (first
        | ((with_reducible refine vc_chk ?_); first | decide +kernel | rfl)
        | (with_reducible refine vc_side0 ?_; rfl)
        | (with_reducible first
             | refine vc_true ?_ | refine vc_true2 ?_ | refine vc_side ?_ ?_ | refine vc_triv | refine vc_later ?_ | refine vc_caseT ?_ | refine vc_caseF ?_ | refine vc_cons ?_ | refine vc_nil ?_ ?_ | refine vc_seq ?_
                | refine vc_region ?_ | refine vc_cond ?_ | refine vc_block ?_ | refine vc_retc ?_ | refine vc_exit ?_ | refine vc_skip ?_ | refine vc_scope ?_ | refine vc_label ?_ | refine vc_goto ?_ | refine vc_wkSl0
                | refine vc_wkHp0 | refine vc_eqAVs0 | refine vc_preG0 | refine vc_wkSl ?_ ?_ | refine vc_wkHp ?_ ?_ | refine vc_eqAVs ?_ ?_ | refine vc_preG ?_ ?_ | refine vc_side0 ?_ | refine vc_call [] hr ?_
                | refine vc_weakf [] ?_ ?_ ?_ | refine vc_and ?_ ?_ | refine vc_ret [] [] ?_)
        | ((with_reducible first | refine vc_caseD (fun h => ?_) (fun h => ?_) | refine vc_caseN (fun h => ?_) (fun h => ?_)) <;> try (exfalso; omega))
        | ((with_reducible refine vc_case (fun h => ?_) (fun h => ?_)) <;> (try simp only [Bool.cond_true_left, Bool.cond_false_right, Bool.cond_true_right, Bool.cond_false_left, Bool.and_eq_true, Bool.or_eq_true, Bool.and_eq_false_iff, Bool.or_eq_false_iff, Bool.not_eq_true', Bool.not_eq_false', Bool.not_eq_true, Bool.not_eq_false, Bool.not_not, decide_eq_true_eq, decide_eq_false_iff_not, beq_iff_eq, beq_eq_false_iff_ne, bne_iff_ne, bne_eq_false_iff_eq, ne_eq, Classical.not_not, reduceCtorEq, false_or, or_false, true_and, and_true, Bool.false_eq_true, Bool.true_eq_false] at h) <;> try (exfalso; first | omega | (simp at h; done)))
        | (conv in Vc _ => arg 1; whnf
           first
            | (with_reducible refine vc_side0 ?_; rfl)
            | (with_reducible first
                | refine vc_true ?_ | refine vc_true2 ?_ | refine vc_side ?_ ?_ | refine vc_triv | refine vc_later ?_ | refine vc_caseT ?_ | refine vc_caseF ?_ | refine vc_cons ?_ | refine vc_nil ?_ ?_ | refine vc_seq ?_
                   | refine vc_region ?_ | refine vc_cond ?_ | refine vc_block ?_ | refine vc_retc ?_ | refine vc_exit ?_ | refine vc_skip ?_ | refine vc_scope ?_ | refine vc_label ?_ | refine vc_goto ?_ | refine vc_wkSl0
                   | refine vc_wkHp0 | refine vc_eqAVs0 | refine vc_preG0 | refine vc_wkSl ?_ ?_ | refine vc_wkHp ?_ ?_ | refine vc_eqAVs ?_ ?_ | refine vc_preG ?_ ?_ | refine vc_side0 ?_ | refine vc_call [] hr ?_
                   | refine vc_weakf [] ?_ ?_ ?_ | refine vc_and ?_ ?_ | refine vc_ret [] [] ?_)
            | ((with_reducible first | refine vc_caseD (fun h => ?_) (fun h => ?_) | refine vc_caseN (fun h => ?_) (fun h => ?_)) <;> try (exfalso; omega))
            | ((with_reducible refine vc_case (fun h => ?_) (fun h => ?_)) <;> (try simp only [Bool.cond_true_left, Bool.cond_false_right, Bool.cond_true_right, Bool.cond_false_left, Bool.and_eq_true, Bool.or_eq_true, Bool.and_eq_false_iff, Bool.or_eq_false_iff, Bool.not_eq_true', Bool.not_eq_false', Bool.not_eq_true, Bool.not_eq_false, Bool.not_not, decide_eq_true_eq, decide_eq_false_iff_not, beq_iff_eq, beq_eq_false_iff_ne, bne_iff_ne, bne_eq_false_iff_eq, ne_eq, Classical.not_not, reduceCtorEq, false_or, or_false, true_and, and_true, Bool.false_eq_true, Bool.true_eq_false] at h) <;> try (exfalso; first | omega | (simp at h; done)))))
    all_goals first | rfl | exact ⟨trivial, trivial, trivial⟩
  · rw [hq]
    have hr0 : LocalCall Try.prog 62 [.d (.sl B), .fn (.func 68) [.ptr 8 [], .ptr 7 []]] [(8, .var (.fn (.func 61) [])), (7, .var (.d (.st [.nils, .int .i64 0, digD zero32, digD zero32])))] [] (one [.d (.int .i64 3)]) [(7, .dead)] := by
      rcases hn with h | ⟨a, h, he⟩
      · exact prf_not B bs hB hl h
      · exact prf_more B bs hB hl a h he
    have hr := local_ren [(8, 1000), (7, 2000)] [(1000, 8), (2000, 7)] hr0 rfl
    have key : LocalCall Try.prog 60 [.d (.sl B), .fn (.func 61) []] [] [] (one [.d (.st [.nils, .int .i64 0, digD zero32, digD zero32]), .d (.int .i64 3)]) [] := by
      refine vc_fn mixed Try.func60 rfl rfl [] (vc_chk rfl) ?_
      repeat' (first
          | ((with_reducible refine vc_chk ?_); first | decide +kernel | rfl)
          | (with_reducible refine vc_side0 ?_; rfl)
          | (with_reducible first
               | refine vc_true ?_ | refine vc_true2 ?_ | refine vc_side ?_ ?_ | refine vc_triv | refine vc_later ?_ | refine vc_caseT ?_ | refine vc_caseF ?_ | refine vc_cons ?_ | refine vc_nil ?_ ?_ | refine vc_seq ?_
                  | refine vc_region ?_ | refine vc_cond ?_ | refine vc_block ?_ | refine vc_retc ?_ | refine vc_exit ?_ | refine vc_skip ?_ | refine vc_scope ?_ | refine vc_label ?_ | refine vc_goto ?_ | refine vc_wkSl0
                  | refine vc_wkHp0 | refine vc_eqAVs0 | refine vc_preG0 | refine vc_wkSl ?_ ?_ | refine vc_wkHp ?_ ?_ | refine vc_eqAVs ?_ ?_ | refine vc_preG ?_ ?_ | refine vc_side0 ?_ | refine vc_call [] hr ?_
                  | refine vc_weakf [] ?_ ?_ ?_ | refine vc_and ?_ ?_ | refine vc_ret [] [] ?_)
          | ((with_reducible first | refine vc_caseD (fun h => ?_) (fun h => ?_) | refine vc_caseN (fun h => ?_) (fun h => ?_)) <;> try (exfalso; omega))
          | ((with_reducible refine vc_case (fun h => ?_) (fun h => ?_)) <;> (try simp only [Bool.cond_true_left, Bool.cond_false_right, Bool.cond_true_right, Bool.cond_false_left, Bool.and_eq_true, Bool.or_eq_true, Bool.and_eq_false_iff, Bool.or_eq_false_iff, Bool.not_eq_true', Bool.not_eq_false', Bool.not_eq_true, Bool.not_eq_false, Bool.not_not, decide_eq_true_eq, decide_eq_false_iff_not, beq_iff_eq, beq_eq_false_iff_ne, bne_iff_ne, bne_eq_false_iff_eq, ne_eq, Classical.not_not, reduceCtorEq, false_or, or_false, true_and, and_true, Bool.false_eq_true, Bool.true_eq_false] at h) <;> try (exfalso; first | omega | (simp at h; done)))
          | (conv in Vc _ => arg 1; whnf
             first
              | (with_reducible refine vc_side0 ?_; rfl)
              | (with_reducible first
                  | refine vc_true ?_ | refine vc_true2 ?_ | refine vc_side ?_ ?_ | refine vc_triv | refine vc_later ?_ | refine vc_caseT ?_ | refine vc_caseF ?_ | refine vc_cons ?_ | refine vc_nil ?_ ?_ | refine vc_seq ?_
                     | refine vc_region ?_ | refine vc_cond ?_ | refine vc_block ?_ | refine vc_retc ?_ | refine vc_exit ?_ | refine vc_skip ?_ | refine vc_scope ?_ | refine vc_label ?_ | refine vc_goto ?_ | refine vc_wkSl0
                     | refine vc_wkHp0 | refine vc_eqAVs0 | refine vc_preG0 | refine vc_wkSl ?_ ?_ | refine vc_wkHp ?_ ?_ | refine vc_eqAVs ?_ ?_ | refine vc_preG ?_ ?_ | refine vc_side0 ?_ | refine vc_call [] hr ?_
                     | refine vc_weakf [] ?_ ?_ ?_ | refine vc_and ?_ ?_ | refine vc_ret [] [] ?_)
              | ((with_reducible first | refine vc_caseD (fun h => ?_) (fun h => ?_) | refine vc_caseN (fun h => ?_) (fun h => ?_)) <;> try (exfalso; omega))
              | ((with_reducible refine vc_case (fun h => ?_) (fun h => ?_)) <;> (try simp only [Bool.cond_true_left, Bool.cond_false_right, Bool.cond_true_right, Bool.cond_false_left, Bool.and_eq_true, Bool.or_eq_true, Bool.and_eq_false_iff, Bool.or_eq_false_iff, Bool.not_eq_true', Bool.not_eq_false', Bool.not_eq_true, Bool.not_eq_false, Bool.not_not, decide_eq_true_eq, decide_eq_false_iff_not, beq_iff_eq, beq_eq_false_iff_ne, bne_iff_ne, bne_eq_false_iff_eq, ne_eq, Classical.not_not, reduceCtorEq, false_or, or_false, true_and, and_true, Bool.false_eq_true, Bool.true_eq_false] at h) <;> try (exfalso; first | omega | (simp at h; done)))))
      all_goals first | rfl | exact ⟨trivial, trivial, trivial⟩
    exact local_dn key

theorem prf_ok (B : List D) (bs : List UInt8) (hB : B = bs.map byteD) (hl : bs.length < 2 ^ 63) (O : Option Prf) (hO : toFin bs.length (rdPrf bs) = O) :
    LocalCall Try.prog 34 [.d (.sl B)] [] [] (one [.d (pD (O.getD p0)), .d (.int .i64 (errI O))]) [] := by
  refine vc_fn mixed Try.func34 rfl rfl [] (vc_chk rfl) ?_
  repeat' (first
      | ((with_reducible refine vc_chk ?_); first | decide +kernel | rfl)
      | (with_reducible refine vc_side0 ?_; rfl)
      | (with_reducible first
           | refine vc_true ?_ | refine vc_true2 ?_ | refine vc_side ?_ ?_ | refine vc_triv | refine vc_later ?_ | refine vc_caseT ?_ | refine vc_caseF ?_ | refine vc_cons ?_ | refine vc_nil ?_ ?_ | refine vc_seq ?_
              | refine vc_region ?_ | refine vc_cond ?_ | refine vc_block ?_ | refine vc_retc ?_ | refine vc_exit ?_ | refine vc_skip ?_ | refine vc_scope ?_ | refine vc_label ?_ | refine vc_goto ?_ | refine vc_wkSl0
              | refine vc_wkHp0 | refine vc_eqAVs0 | refine vc_preG0 | refine vc_wkSl ?_ ?_ | refine vc_wkHp ?_ ?_ | refine vc_eqAVs ?_ ?_ | refine vc_preG ?_ ?_ | refine vc_side0 ?_ | refine vc_call [] (prf_T B bs hB hl O hO) ?_
              | refine vc_weakf [] ?_ ?_ ?_ | refine vc_and ?_ ?_ | refine vc_ret [] [] ?_)
      | ((with_reducible first | refine vc_caseD (fun h => ?_) (fun h => ?_) | refine vc_caseN (fun h => ?_) (fun h => ?_)) <;> try (exfalso; omega))
      | ((with_reducible refine vc_case (fun h => ?_) (fun h => ?_)) <;> (try simp only [Bool.cond_true_left, Bool.cond_false_right, Bool.cond_true_right, Bool.cond_false_left, Bool.and_eq_true, Bool.or_eq_true, Bool.and_eq_false_iff, Bool.or_eq_false_iff, Bool.not_eq_true', Bool.not_eq_false', Bool.not_eq_true, Bool.not_eq_false, Bool.not_not, decide_eq_true_eq, decide_eq_false_iff_not, beq_iff_eq, beq_eq_false_iff_ne, bne_iff_ne, bne_eq_false_iff_eq, ne_eq, Classical.not_not, reduceCtorEq, false_or, or_false, true_and, and_true, Bool.false_eq_true, Bool.true_eq_false] at h) <;> try (exfalso; first | omega | (simp at h; done)))
      | (conv in Vc _ => arg 1; whnf
         first
          | (with_reducible refine vc_side0 ?_; rfl)
          | (with_reducible first
              | refine vc_true ?_ | refine vc_true2 ?_ | refine vc_side ?_ ?_ | refine vc_triv | refine vc_later ?_ | refine vc_caseT ?_ | refine vc_caseF ?_ | refine vc_cons ?_ | refine vc_nil ?_ ?_ | refine vc_seq ?_
                 | refine vc_region ?_ | refine vc_cond ?_ | refine vc_block ?_ | refine vc_retc ?_ | refine vc_exit ?_ | refine vc_skip ?_ | refine vc_scope ?_ | refine vc_label ?_ | refine vc_goto ?_ | refine vc_wkSl0
                 | refine vc_wkHp0 | refine vc_eqAVs0 | refine vc_preG0 | refine vc_wkSl ?_ ?_ | refine vc_wkHp ?_ ?_ | refine vc_eqAVs ?_ ?_ | refine vc_preG ?_ ?_ | refine vc_side0 ?_
                 | refine vc_call [] (prf_T B bs hB hl O hO) ?_ | refine vc_weakf [] ?_ ?_ ?_ | refine vc_and ?_ ?_ | refine vc_ret [] [] ?_)
          | ((with_reducible first | refine vc_caseD (fun h => ?_) (fun h => ?_) | refine vc_caseN (fun h => ?_) (fun h => ?_)) <;> try (exfalso; omega))
          | ((with_reducible refine vc_case (fun h => ?_) (fun h => ?_)) <;> (try simp only [Bool.cond_true_left, Bool.cond_false_right, Bool.cond_true_right, Bool.cond_false_left, Bool.and_eq_true, Bool.or_eq_true, Bool.and_eq_false_iff, Bool.or_eq_false_iff, Bool.not_eq_true', Bool.not_eq_false', Bool.not_eq_true, Bool.not_eq_false, Bool.not_not, decide_eq_true_eq, decide_eq_false_iff_not, beq_iff_eq, beq_eq_false_iff_ne, bne_iff_ne, bne_eq_false_iff_eq, ne_eq, Classical.not_not, reduceCtorEq, false_or, or_false, true_and, and_true, Bool.false_eq_true, Bool.true_eq_false] at h) <;> try (exfalso; first | omega | (simp at h; done)))))
  all_goals first | rfl | exact ⟨trivial, trivial, trivial⟩

end Go.Proofs.Ytogncghpngmjpaa

/-
What the references of the record layer read: bindings, requests, signed roots.
-/
set_option linter.unusedSimpArgs false
set_option linter.unusedVariables false
namespace Go.Proofs.Ytogncghpngmjpaa
open Go.Sym
set_option maxRecDepth 10000
set_option maxHeartbeats 4000000

def optR {α : Type} (r : α × Nat × Bool) : Option (α × Nat) := bif r.2.2 then none else some (r.1, r.2.1)

def inGs (bs : List UInt8) (b : Bool) (k : Nat) : List UInt8 × Nat × Bool := bif b then (zero32, k, true) else (padB (inK bs 32 k).1 (inK bs 32 k).1.length, (inK bs 32 k).2)

theorem inTs_opt (bs : List UInt8) (b : Bool) (k : Nat) : optR (inTs bs b k) = bif b then none else rdT bs k := by
  cases b with
  | true => rfl
  | false => rw [cond_false, inT_rdT]; rfl
theorem inNs_opt (bs : List UInt8) (b : Bool) (k : Nat) : optR (inNs bs b k) = bif b then none else rdN bs 10 k 0 0 := by
  cases b with
  | true => rfl
  | false => rw [cond_false, inN_rdN]; rfl
theorem inCs_opt (bs : List UInt8) (most : Nat) (b : Bool) (k : Nat) : optR (inCs bs most b k) = bif b then none else rdC bs (most : Int) k := by
  cases b with
  | true => rfl
  | false => rw [cond_false, inC_rdC]; rfl
theorem inGs_opt (bs : List UInt8) (b : Bool) (k : Nat) : optR (inGs bs b k) = bif b then none else rdG bs k := by
  cases b with
  | true => rfl
  | false =>
    rw [cond_false]
    unfold inGs rdG inK
    by_cases h : k + 32 ≤ bs.length
    · have hl : ((bs.drop k).take 32).length = 32 := by rw [List.length_take, List.length_drop]; omega
      simp only [decide_eq_true h, cond_true, cond_false, optR]
      rw [hl, padB_full hl]
    · simp only [decide_eq_false h, cond_false, optR, cond_true]

theorem inCs_le (bs : List UInt8) (most : Nat) (b : Bool) (k : Nat) (h : k ≤ bs.length) : (inCs bs most b k).2.1 ≤ bs.length := by
  cases b with
  | true => exact h
  | false => exact inC_le bs most k h
theorem inGs_le (bs : List UInt8) (b : Bool) (k : Nat) (h : k ≤ bs.length) : (inGs bs b k).2.1 ≤ bs.length := by
  cases b with
  | true => exact h
  | false => exact inK_le bs 32 k h
theorem inGs_len (bs : List UInt8) (b : Bool) (k : Nat) : (inGs bs b k).1.length = 32 := by
  cases b with
  | true => rfl
  | false =>
    show (padB (inK bs 32 k).1 (inK bs 32 k).1.length).length = 32
    refine padB_length (Nat.le_refl _) ?_
    unfold inK
    cases decide (k + 32 ≤ bs.length) with
    | true => simp only [cond_true, List.length_take]; omega
    | false => simp

theorem inDig_bad (B : List D) (k : Nat) :
    LocalCall Try.prog 57 [.ptr 9 []] [(9, rIn B k true)] [] (one [.d (.arr 32 1 (zero32.map byteD))]) [(9, rIn B k true)] := by
  have hc := inTake_bad B k 32
  refine vc_fn mixed Try.func57 rfl rfl [] (vc_chk rfl) ?_
  repeat' (first
      | ((with_reducible refine vc_chk ?_); first | decide +kernel | rfl)
      | (with_reducible refine vc_side0 ?_; rfl)
      | (with_reducible first
           | refine vc_true ?_ | refine vc_true2 ?_ | refine vc_side ?_ ?_ | refine vc_triv | refine vc_later ?_ | refine vc_caseT ?_ | refine vc_caseF ?_ | refine vc_cons ?_ | refine vc_nil ?_ ?_ | refine vc_seq ?_
              | refine vc_region ?_ | refine vc_cond ?_ | refine vc_block ?_ | refine vc_retc ?_ | refine vc_exit ?_ | refine vc_skip ?_ | refine vc_scope ?_ | refine vc_label ?_ | refine vc_goto ?_ | refine vc_wkSl0
              | refine vc_wkHp0 | refine vc_eqAVs0 | refine vc_preG0 | refine vc_wkSl ?_ ?_ | refine vc_wkHp ?_ ?_ | refine vc_eqAVs ?_ ?_ | refine vc_preG ?_ ?_ | refine vc_side0 ?_ | refine vc_call [] hc ?_
              | refine vc_loopI 21 (fun (_ : Unit) => [(0, .ptr 9 []), (2, .ptr 1000 []), (3, .ptr 2000 []), (4, .d (.sl [])), (5, .d (.int .i64 0))]) (fun _ => [(9, rIn B k true), (1000, .var (.d (.arr 32 1 (List.replicate 32 (.int .u8 0))))), (2000, .var (.d (.arr 32 1 (zero32.map byteD))))]) (fun _ => 0) (fun _ => True) () [] ?_ ?_ ?_ ?_ ?_ (fun x hI => ?_)
              | refine vc_weakf [] ?_ ?_ ?_ | refine vc_and ?_ ?_ | refine vc_ret [] [] ?_)
      | ((with_reducible first | refine vc_caseD (fun h => ?_) (fun h => ?_) | refine vc_caseN (fun h => ?_) (fun h => ?_)) <;> try (exfalso; omega))
      | ((with_reducible refine vc_case (fun h => ?_) (fun h => ?_)) <;> (try simp at h) <;> try (exfalso; omega))
      | (conv in Vc _ => arg 1; whnf
         first
          | (with_reducible refine vc_side0 ?_; rfl)
          | (with_reducible first
              | refine vc_true ?_ | refine vc_true2 ?_ | refine vc_side ?_ ?_ | refine vc_triv | refine vc_later ?_ | refine vc_caseT ?_ | refine vc_caseF ?_ | refine vc_cons ?_ | refine vc_nil ?_ ?_ | refine vc_seq ?_
                 | refine vc_region ?_ | refine vc_cond ?_ | refine vc_block ?_ | refine vc_retc ?_ | refine vc_exit ?_ | refine vc_skip ?_ | refine vc_scope ?_ | refine vc_label ?_ | refine vc_goto ?_ | refine vc_wkSl0
                 | refine vc_wkHp0 | refine vc_eqAVs0 | refine vc_preG0 | refine vc_wkSl ?_ ?_ | refine vc_wkHp ?_ ?_ | refine vc_eqAVs ?_ ?_ | refine vc_preG ?_ ?_ | refine vc_side0 ?_ | refine vc_call [] hc ?_
                 | refine vc_loopI 21 (fun (_ : Unit) => [(0, .ptr 9 []), (2, .ptr 1000 []), (3, .ptr 2000 []), (4, .d (.sl [])), (5, .d (.int .i64 0))]) (fun _ => [(9, rIn B k true), (1000, .var (.d (.arr 32 1 (List.replicate 32 (.int .u8 0))))), (2000, .var (.d (.arr 32 1 (zero32.map byteD))))]) (fun _ => 0) (fun _ => True) () [] ?_ ?_ ?_ ?_ ?_ (fun x hI => ?_)
                 | refine vc_weakf [] ?_ ?_ ?_ | refine vc_and ?_ ?_ | refine vc_ret [] [] ?_)
          | ((with_reducible first | refine vc_caseD (fun h => ?_) (fun h => ?_) | refine vc_caseN (fun h => ?_) (fun h => ?_)) <;> try (exfalso; omega))
          | ((with_reducible refine vc_case (fun h => ?_) (fun h => ?_)) <;> (try simp at h) <;> try (exfalso; omega))))
  all_goals first
    | rfl
    | trivial

theorem inText_8 (B : List D) (bs : List UInt8) (hB : B = bs.map byteD) (k : Nat) (b : Bool) (hk : k ≤ bs.length) (hl : bs.length < 2 ^ 63) :
    LocalCall Try.prog 49 [.ptr 2008 []] [(2008, rIn B k b)] [] (one [.d (.sl ((inTs bs b k).1.map byteD))]) [(2008, rIn B (inTs bs b k).2.1 (inTs bs b k).2.2)] :=
  local_ren [(9, 2008)] [(2008, 9)] (inText_any B bs hB k b hk hl) rfl

theorem inNum_8 (B : List D) (bs : List UInt8) (hB : B = bs.map byteD) (k : Nat) (b : Bool) (hk : k ≤ bs.length) (hl : bs.length < 2 ^ 63) :
    LocalCall Try.prog 50 [.ptr 2008 []] [(2008, rIn B k b)] [] (one [.d (.int .u64 ((inNs bs b k).1 : Int))]) [(2008, rIn B (inNs bs b k).2.1 (inNs bs b k).2.2)] :=
  local_ren [(9, 2008)] [(2008, 9)] (inNum_any B bs hB k b hk hl) rfl

theorem inCnt_8 (B : List D) (bs : List UInt8) (hB : B = bs.map byteD) (most : Nat) (k : Nat) (b : Bool) (hm : most < 2 ^ 63) (hk : k ≤ bs.length) (hl : bs.length < 2 ^ 63) :
    LocalCall Try.prog 56 [.ptr 2008 [], .d (.int .i64 (most : Int))] [(2008, rIn B k b)] [] (one [.d (.int .i64 ((inCs bs most b k).1 : Int))]) [(2008, rIn B (inCs bs most b k).2.1 (inCs bs most b k).2.2)] := by
  cases b with
  | true => exact local_ren [(9, 2008)] [(2008, 9)] (inCnt_bad B k (most : Int)) rfl
  | false => exact local_ren [(9, 2008)] [(2008, 9)] (inCnt_ok B bs hB most k hm hk hl _ rfl) rfl

theorem inDig_8 (B : List D) (bs : List UInt8) (hB : B = bs.map byteD) (k : Nat) (b : Bool) (hk : k ≤ bs.length) (hl : bs.length < 2 ^ 63) :
    LocalCall Try.prog 57 [.ptr 2008 []] [(2008, rIn B k b)] [] (one [.d (.arr 32 1 ((inGs bs b k).1.map byteD))]) [(2008, rIn B (inGs bs b k).2.1 (inGs bs b k).2.2)] := by
  cases b with
  | true => exact local_ren [(9, 2008)] [(2008, 9)] (inDig_bad B k) rfl
  | false => exact local_ren [(9, 2008)] [(2008, 9)] (inDig_ok B bs hB k hk hl _ rfl) rfl

theorem inDone_8 (B : List D) (k : Nat) (b q : Bool) (hq : (!b && decide (k = B.length)) = q) :
    LocalCall Try.prog 51 [.ptr 2008 []] [(2008, rIn B k b)] [] (one [.d (.bool q)]) [(2008, rIn B k b)] := by
  subst hq
  exact local_ren [(9, 2008)] [(2008, 9)] (inDone_ok B k b) rfl

theorem rCheck_b (n k : List UInt8) (hl : n.length < 2 ^ 63) : LocalCall Try.prog 10 [.d (.str ⟨(bytesOf (n.map byteD)).toArray⟩), .d (.sl (k.map byteD))] [] [] (one [.d (.int .i64 (checkI n k))]) [] := by
  rw [bytesOf_map]; exact rCheck_ok n k hl

theorem inTs_len (bs : List UInt8) (b : Bool) (k : Nat) : (inTs bs b k).1.length < 2 ^ 63 := by
  have h := inTs_opt bs b k
  rcases hr : inTs bs b k with ⟨x, e, c⟩
  rw [hr] at h
  cases b with
  | true => cases hr; simp
  | false =>
    cases c with
    | false =>
      simp only [optR, cond_false] at h
      exact rdT_len h.symm
    | true =>
      have : (inTs bs false k).2.2 = true := by rw [hr]
      unfold inTs inT inK at hr
      simp only [cond_false] at hr
      cases h1 : (inC bs 1048576 k).2.2 with
      | true => rw [h1] at hr; cases hr; simp
      | false =>
        rw [h1] at hr
        simp only [cond_false] at hr
        by_cases h2 : (inC bs 1048576 k).2.1 + (inC bs 1048576 k).1 ≤ bs.length
        · rw [decide_eq_true h2] at hr; cases hr
        · rw [decide_eq_false h2] at hr; cases hr; simp

theorem rBnd_ok (B : List D) (bs : List UInt8) (hB : B = bs.map byteD) (hl : bs.length < 2 ^ 63) (O : Option Bnd) (hO : toFin bs.length (rdBnd bs) = O) :
    LocalCall Try.prog 29 [.d (.sl B)] [] [] (one [.d (bD (O.getD b0)), .d (.int .i64 (errI O))]) [] := by
  have hlen : B.length = bs.length := by rw [hB]; simp
  have c1 := inText_8 B bs hB 0 false (Nat.zero_le _) hl
  have l1 := inTs_le bs false 0 (Nat.zero_le _)
  have q1 := inTs_opt bs false 0
  have m1 := inTs_len bs false 0
  generalize inTs bs false 0 = r1 at c1 l1 q1 m1
  obtain ⟨x1, k1, b1⟩ := r1
  have c2 := inText_8 B bs hB k1 b1 l1 hl
  have l2 := inTs_le bs b1 k1 l1
  have q2 := inTs_opt bs b1 k1
  generalize inTs bs b1 k1 = r2 at c2 l2 q2
  obtain ⟨x2, k2, b2⟩ := r2
  have c3 := inNum_8 B bs hB k2 b2 l2 hl
  have q3 := inNs_opt bs b2 k2
  generalize inNs bs b2 k2 = r3 at c3 q3
  obtain ⟨x3, k3, b3⟩ := r3
  have hR : rdBnd bs = bif b3 then none else bif decide (checkI x1 x2 = 0) then some (⟨x1, x2, x3⟩, k3) else none := by
    cases b1 <;> cases b2 <;> cases b3 <;> simp only [optR, cond_true, cond_false, reduceCtorEq] at q1 q2 q3 <;> first
      | (simp [rdBnd, ← q1]; done)
      | (simp [rdBnd, ← q1, ← q2]; done)
      | (simp [rdBnd, ← q1, ← q2, ← q3]; done)
  rw [hR] at hO
  generalize hq : (!b3 && decide (k3 = B.length)) = q
  have c4 := inDone_8 B k3 b3 q hq
  have c5 := rCheck_b x1 x2 m1
  dsimp only at c1 c2 c3 m1
  by_cases hy : q = true ∧ checkI x1 x2 = 0
  · obtain ⟨rfl, hc⟩ := hy
    simp only [Bool.and_eq_true, Bool.not_eq_true', decide_eq_true_eq] at hq
    obtain ⟨rfl, hk⟩ := hq
    rw [cond_false, decide_eq_true hc, cond_true] at hO
    have : O = some ⟨x1, x2, x3⟩ := by rw [← hO]; simp [toFin, hk, hlen]
    subst this
    refine vc_fn mixed Try.func29 rfl rfl [] (vc_chk rfl) ?_
    repeat' (first
        | ((with_reducible refine vc_chk ?_); first | decide +kernel | rfl)
        | (with_reducible refine vc_side0 ?_; rfl)
        | (with_reducible first
             | refine vc_true ?_ | refine vc_true2 ?_ | refine vc_side ?_ ?_ | refine vc_triv | refine vc_later ?_ | refine vc_caseT ?_ | refine vc_caseF ?_ | refine vc_cons ?_ | refine vc_nil ?_ ?_ | refine vc_seq ?_
                | refine vc_region ?_ | refine vc_cond ?_ | refine vc_block ?_ | refine vc_retc ?_ | refine vc_exit ?_ | refine vc_skip ?_ | refine vc_scope ?_ | refine vc_label ?_ | refine vc_goto ?_ | refine vc_wkSl0
                | refine vc_wkHp0 | refine vc_eqAVs0 | refine vc_preG0 | refine vc_wkSl ?_ ?_ | refine vc_wkHp ?_ ?_ | refine vc_eqAVs ?_ ?_ | refine vc_preG ?_ ?_ | refine vc_side0 ?_
                | refine vc_callAt [] 2008 (by with_unfolding_all rfl) (c1) ?_ | refine vc_callAt [] 2008 (by with_unfolding_all rfl) (c2) ?_ | refine vc_callAt [] 2008 (by with_unfolding_all rfl) (c3) ?_
                | refine vc_callAt [] 2008 (by with_unfolding_all rfl) (c4) ?_ | refine vc_pure c5 ?_ ?_ ?_ | refine vc_weakf [] ?_ ?_ ?_ | refine vc_and ?_ ?_ | refine vc_ret [] [] ?_)
        | ((with_reducible first | refine vc_caseD (fun h => ?_) (fun h => ?_) | refine vc_caseN (fun h => ?_) (fun h => ?_)) <;> try (exfalso; omega))
        | ((with_reducible refine vc_case (fun h => ?_) (fun h => ?_)) <;> (try simp only [Bool.cond_true_left, Bool.cond_false_right, Bool.cond_true_right, Bool.cond_false_left, Bool.and_eq_true, Bool.or_eq_true, Bool.and_eq_false_iff, Bool.or_eq_false_iff, Bool.not_eq_true', Bool.not_eq_false', Bool.not_eq_true, Bool.not_eq_false, Bool.not_not, decide_eq_true_eq, decide_eq_false_iff_not, beq_iff_eq, beq_eq_false_iff_ne, bne_iff_ne, bne_eq_false_iff_eq, ne_eq, Classical.not_not, reduceCtorEq, false_or, or_false, true_and, and_true, Bool.false_eq_true, Bool.true_eq_false] at h) <;> try (exfalso; first | omega | (simp at h; done)))
        | (conv in Vc _ => arg 1; whnf
           first
            | (with_reducible refine vc_side0 ?_; rfl)
            | (with_reducible first
                | refine vc_true ?_ | refine vc_true2 ?_ | refine vc_side ?_ ?_ | refine vc_triv | refine vc_later ?_ | refine vc_caseT ?_ | refine vc_caseF ?_ | refine vc_cons ?_ | refine vc_nil ?_ ?_ | refine vc_seq ?_
                   | refine vc_region ?_ | refine vc_cond ?_ | refine vc_block ?_ | refine vc_retc ?_ | refine vc_exit ?_ | refine vc_skip ?_ | refine vc_scope ?_ | refine vc_label ?_ | refine vc_goto ?_ | refine vc_wkSl0
                   | refine vc_wkHp0 | refine vc_eqAVs0 | refine vc_preG0 | refine vc_wkSl ?_ ?_ | refine vc_wkHp ?_ ?_ | refine vc_eqAVs ?_ ?_ | refine vc_preG ?_ ?_ | refine vc_side0 ?_
                   | refine vc_callAt [] 2008 (by with_unfolding_all rfl) (c1) ?_ | refine vc_callAt [] 2008 (by with_unfolding_all rfl) (c2) ?_ | refine vc_callAt [] 2008 (by with_unfolding_all rfl) (c3) ?_
                   | refine vc_callAt [] 2008 (by with_unfolding_all rfl) (c4) ?_ | refine vc_pure c5 ?_ ?_ ?_ | refine vc_weakf [] ?_ ?_ ?_ | refine vc_and ?_ ?_ | refine vc_ret [] [] ?_)
            | ((with_reducible first | refine vc_caseD (fun h => ?_) (fun h => ?_) | refine vc_caseN (fun h => ?_) (fun h => ?_)) <;> try (exfalso; omega))
            | ((with_reducible refine vc_case (fun h => ?_) (fun h => ?_)) <;> (try simp only [Bool.cond_true_left, Bool.cond_false_right, Bool.cond_true_right, Bool.cond_false_left, Bool.and_eq_true, Bool.or_eq_true, Bool.and_eq_false_iff, Bool.or_eq_false_iff, Bool.not_eq_true', Bool.not_eq_false', Bool.not_eq_true, Bool.not_eq_false, Bool.not_not, decide_eq_true_eq, decide_eq_false_iff_not, beq_iff_eq, beq_eq_false_iff_ne, bne_iff_ne, bne_eq_false_iff_eq, ne_eq, Classical.not_not, reduceCtorEq, false_or, or_false, true_and, and_true, Bool.false_eq_true, Bool.true_eq_false] at h) <;> try (exfalso; first | omega | (simp at h; done)))))
    all_goals (try simp only [bytesOf_map])
    all_goals first | rfl | exact ⟨trivial, rfl⟩ | exact ⟨trivial, trivial⟩ | exact ⟨trivial, trivial, trivial⟩ | exact ⟨trivial, trivial, trivial, trivial⟩
  · have : O = none := by
      rw [← hO]
      cases b3 with
      | true => rfl
      | false =>
        rw [cond_false]
        by_cases hc : checkI x1 x2 = 0
        · rw [decide_eq_true hc, cond_true]
          have : ¬ k3 = bs.length := fun hk => hy ⟨by rw [← hq, hk, hlen]; simp, hc⟩
          simp [toFin, this]
        · rw [decide_eq_false hc]; rfl
    subst this
    have key : LocalCall Try.prog 29 [.d (.sl B)] [] [] (one [.d (.st [.str ByteArray.empty, .nils, .int .u64 0]), .d (.int .i64 3)]) [] := by
      refine vc_fn mixed Try.func29 rfl rfl [] (vc_chk rfl) ?_
      cases q
      · skip
        repeat' (first
            | ((with_reducible refine vc_chk ?_); first | decide +kernel | rfl)
            | (with_reducible refine vc_side0 ?_; rfl)
            | (with_reducible first
                 | refine vc_true ?_ | refine vc_true2 ?_ | refine vc_side ?_ ?_ | refine vc_triv | refine vc_later ?_ | refine vc_caseT ?_ | refine vc_caseF ?_ | refine vc_cons ?_ | refine vc_nil ?_ ?_ | refine vc_seq ?_
                    | refine vc_region ?_ | refine vc_cond ?_ | refine vc_block ?_ | refine vc_retc ?_ | refine vc_exit ?_ | refine vc_skip ?_ | refine vc_scope ?_ | refine vc_label ?_ | refine vc_goto ?_ | refine vc_wkSl0
                    | refine vc_wkHp0 | refine vc_eqAVs0 | refine vc_preG0 | refine vc_wkSl ?_ ?_ | refine vc_wkHp ?_ ?_ | refine vc_eqAVs ?_ ?_ | refine vc_preG ?_ ?_ | refine vc_side0 ?_
                    | refine vc_callAt [] 2008 (by with_unfolding_all rfl) (c1) ?_ | refine vc_callAt [] 2008 (by with_unfolding_all rfl) (c2) ?_ | refine vc_callAt [] 2008 (by with_unfolding_all rfl) (c3) ?_
                    | refine vc_callAt [] 2008 (by with_unfolding_all rfl) (c4) ?_ | refine vc_pure c5 ?_ ?_ ?_ | refine vc_weakf [] ?_ ?_ ?_ | refine vc_and ?_ ?_ | refine vc_ret [] [] ?_)
            | ((with_reducible first | refine vc_caseD (fun h => ?_) (fun h => ?_) | refine vc_caseN (fun h => ?_) (fun h => ?_)) <;> try (exfalso; omega))
            | ((with_reducible refine vc_case (fun h => ?_) (fun h => ?_)) <;> (try simp only [Bool.cond_true_left, Bool.cond_false_right, Bool.cond_true_right, Bool.cond_false_left, Bool.and_eq_true, Bool.or_eq_true, Bool.and_eq_false_iff, Bool.or_eq_false_iff, Bool.not_eq_true', Bool.not_eq_false', Bool.not_eq_true, Bool.not_eq_false, Bool.not_not, decide_eq_true_eq, decide_eq_false_iff_not, beq_iff_eq, beq_eq_false_iff_ne, bne_iff_ne, bne_eq_false_iff_eq, ne_eq, Classical.not_not, reduceCtorEq, false_or, or_false, true_and, and_true, Bool.false_eq_true, Bool.true_eq_false] at h) <;> try (exfalso; first | omega | (simp at h; done)))
            | (conv in Vc _ => arg 1; whnf
               first
                | (with_reducible refine vc_side0 ?_; rfl)
                | (with_reducible first
                    | refine vc_true ?_ | refine vc_true2 ?_ | refine vc_side ?_ ?_ | refine vc_triv | refine vc_later ?_ | refine vc_caseT ?_ | refine vc_caseF ?_ | refine vc_cons ?_ | refine vc_nil ?_ ?_ | refine vc_seq ?_
                       | refine vc_region ?_ | refine vc_cond ?_ | refine vc_block ?_ | refine vc_retc ?_ | refine vc_exit ?_ | refine vc_skip ?_ | refine vc_scope ?_ | refine vc_label ?_ | refine vc_goto ?_ | refine vc_wkSl0
                       | refine vc_wkHp0 | refine vc_eqAVs0 | refine vc_preG0 | refine vc_wkSl ?_ ?_ | refine vc_wkHp ?_ ?_ | refine vc_eqAVs ?_ ?_ | refine vc_preG ?_ ?_ | refine vc_side0 ?_
                       | refine vc_callAt [] 2008 (by with_unfolding_all rfl) (c1) ?_ | refine vc_callAt [] 2008 (by with_unfolding_all rfl) (c2) ?_ | refine vc_callAt [] 2008 (by with_unfolding_all rfl) (c3) ?_
                       | refine vc_callAt [] 2008 (by with_unfolding_all rfl) (c4) ?_ | refine vc_pure c5 ?_ ?_ ?_ | refine vc_weakf [] ?_ ?_ ?_ | refine vc_and ?_ ?_ | refine vc_ret [] [] ?_)
                | ((with_reducible first | refine vc_caseD (fun h => ?_) (fun h => ?_) | refine vc_caseN (fun h => ?_) (fun h => ?_)) <;> try (exfalso; omega))
                | ((with_reducible refine vc_case (fun h => ?_) (fun h => ?_)) <;> (try simp only [Bool.cond_true_left, Bool.cond_false_right, Bool.cond_true_right, Bool.cond_false_left, Bool.and_eq_true, Bool.or_eq_true, Bool.and_eq_false_iff, Bool.or_eq_false_iff, Bool.not_eq_true', Bool.not_eq_false', Bool.not_eq_true, Bool.not_eq_false, Bool.not_not, decide_eq_true_eq, decide_eq_false_iff_not, beq_iff_eq, beq_eq_false_iff_ne, bne_iff_ne, bne_eq_false_iff_eq, ne_eq, Classical.not_not, reduceCtorEq, false_or, or_false, true_and, and_true, Bool.false_eq_true, Bool.true_eq_false] at h) <;> try (exfalso; first | omega | (simp at h; done)))))
        all_goals (try simp only [bytesOf_map])
        all_goals first | rfl | exact ⟨trivial, rfl⟩ | exact ⟨trivial, trivial⟩ | exact ⟨trivial, trivial, trivial⟩ | exact ⟨trivial, trivial, trivial, trivial⟩ | (exfalso; exact hy ⟨rfl, by assumption⟩)
      · skip
        repeat' (first
            | ((with_reducible refine vc_chk ?_); first | decide +kernel | rfl)
            | (with_reducible refine vc_side0 ?_; rfl)
            | (with_reducible first
                 | refine vc_true ?_ | refine vc_true2 ?_ | refine vc_side ?_ ?_ | refine vc_triv | refine vc_later ?_ | refine vc_caseT ?_ | refine vc_caseF ?_ | refine vc_cons ?_ | refine vc_nil ?_ ?_ | refine vc_seq ?_
                    | refine vc_region ?_ | refine vc_cond ?_ | refine vc_block ?_ | refine vc_retc ?_ | refine vc_exit ?_ | refine vc_skip ?_ | refine vc_scope ?_ | refine vc_label ?_ | refine vc_goto ?_ | refine vc_wkSl0
                    | refine vc_wkHp0 | refine vc_eqAVs0 | refine vc_preG0 | refine vc_wkSl ?_ ?_ | refine vc_wkHp ?_ ?_ | refine vc_eqAVs ?_ ?_ | refine vc_preG ?_ ?_ | refine vc_side0 ?_
                    | refine vc_callAt [] 2008 (by with_unfolding_all rfl) (c1) ?_ | refine vc_callAt [] 2008 (by with_unfolding_all rfl) (c2) ?_ | refine vc_callAt [] 2008 (by with_unfolding_all rfl) (c3) ?_
                    | refine vc_callAt [] 2008 (by with_unfolding_all rfl) (c4) ?_ | refine vc_pure c5 ?_ ?_ ?_ | refine vc_weakf [] ?_ ?_ ?_ | refine vc_and ?_ ?_ | refine vc_ret [] [] ?_)
            | ((with_reducible first | refine vc_caseD (fun h => ?_) (fun h => ?_) | refine vc_caseN (fun h => ?_) (fun h => ?_)) <;> try (exfalso; omega))
            | ((with_reducible refine vc_case (fun h => ?_) (fun h => ?_)) <;> (try simp only [Bool.cond_true_left, Bool.cond_false_right, Bool.cond_true_right, Bool.cond_false_left, Bool.and_eq_true, Bool.or_eq_true, Bool.and_eq_false_iff, Bool.or_eq_false_iff, Bool.not_eq_true', Bool.not_eq_false', Bool.not_eq_true, Bool.not_eq_false, Bool.not_not, decide_eq_true_eq, decide_eq_false_iff_not, beq_iff_eq, beq_eq_false_iff_ne, bne_iff_ne, bne_eq_false_iff_eq, ne_eq, Classical.not_not, reduceCtorEq, false_or, or_false, true_and, and_true, Bool.false_eq_true, Bool.true_eq_false] at h) <;> try (exfalso; first | omega | (simp at h; done)))
            | (conv in Vc _ => arg 1; whnf
               first
                | (with_reducible refine vc_side0 ?_; rfl)
                | (with_reducible first
                    | refine vc_true ?_ | refine vc_true2 ?_ | refine vc_side ?_ ?_ | refine vc_triv | refine vc_later ?_ | refine vc_caseT ?_ | refine vc_caseF ?_ | refine vc_cons ?_ | refine vc_nil ?_ ?_ | refine vc_seq ?_
                       | refine vc_region ?_ | refine vc_cond ?_ | refine vc_block ?_ | refine vc_retc ?_ | refine vc_exit ?_ | refine vc_skip ?_ | refine vc_scope ?_ | refine vc_label ?_ | refine vc_goto ?_ | refine vc_wkSl0
                       | refine vc_wkHp0 | refine vc_eqAVs0 | refine vc_preG0 | refine vc_wkSl ?_ ?_ | refine vc_wkHp ?_ ?_ | refine vc_eqAVs ?_ ?_ | refine vc_preG ?_ ?_ | refine vc_side0 ?_
                       | refine vc_callAt [] 2008 (by with_unfolding_all rfl) (c1) ?_ | refine vc_callAt [] 2008 (by with_unfolding_all rfl) (c2) ?_ | refine vc_callAt [] 2008 (by with_unfolding_all rfl) (c3) ?_
                       | refine vc_callAt [] 2008 (by with_unfolding_all rfl) (c4) ?_ | refine vc_pure c5 ?_ ?_ ?_ | refine vc_weakf [] ?_ ?_ ?_ | refine vc_and ?_ ?_ | refine vc_ret [] [] ?_)
                | ((with_reducible first | refine vc_caseD (fun h => ?_) (fun h => ?_) | refine vc_caseN (fun h => ?_) (fun h => ?_)) <;> try (exfalso; omega))
                | ((with_reducible refine vc_case (fun h => ?_) (fun h => ?_)) <;> (try simp only [Bool.cond_true_left, Bool.cond_false_right, Bool.cond_true_right, Bool.cond_false_left, Bool.and_eq_true, Bool.or_eq_true, Bool.and_eq_false_iff, Bool.or_eq_false_iff, Bool.not_eq_true', Bool.not_eq_false', Bool.not_eq_true, Bool.not_eq_false, Bool.not_not, decide_eq_true_eq, decide_eq_false_iff_not, beq_iff_eq, beq_eq_false_iff_ne, bne_iff_ne, bne_eq_false_iff_eq, ne_eq, Classical.not_not, reduceCtorEq, false_or, or_false, true_and, and_true, Bool.false_eq_true, Bool.true_eq_false] at h) <;> try (exfalso; first | omega | (simp at h; done)))))
        all_goals (try simp only [bytesOf_map])
        all_goals first | rfl | exact ⟨trivial, rfl⟩ | exact ⟨trivial, trivial⟩ | exact ⟨trivial, trivial, trivial⟩ | exact ⟨trivial, trivial, trivial, trivial⟩ | (exfalso; exact hy ⟨rfl, by assumption⟩)
    exact local_dn key

end Go.Proofs.Ytogncghpngmjpaa
