/-
The references' joins and texts.
-/
import Derived.Test.YthedcaopedbpdaaCodeb
namespace Go.Proofs.Ythedcaopedbpdaa
open Go.Sym
set_option maxRecDepth 10000
set_option maxHeartbeats 1000000

/-- Rows of bytes, one behind the other. -/
def joinD (ls : List D) : List D := ls.flatMap D.els

theorem joinD_take (ls : List D) {i : Nat} (h : i < ls.length) : joinD (ls.take i) ++ (ls.getD i .nilp).els = joinD (ls.take (i + 1)) := by
  unfold joinD
  rw [List.take_succ_eq_append_getElem h, List.flatMap_append, List.getD_eq_getElem?_getD, List.getElem?_eq_getElem h]
  simp

theorem joinD_sub (ls : List D) (i : Nat) : (joinD (ls.take i)).length ≤ (joinD ls).length := by
  have : joinD ls = joinD (ls.take i) ++ joinD (ls.drop i) := by
    unfold joinD
    rw [← List.flatMap_append, List.take_append_drop]
  rw [this]; simp

theorem join_ok (ls : List D) (hs : ∀ y, y ∈ ls → ∃ l, y = .sl l) (hl : ls.length < 2 ^ 62) (h1 : ∀ y, y ∈ joinD ls → y.size = 1) (hroom : Room (joinD ls).length 1) : LocalCall Try.prog 14 [.d (.sl ls)] [] [] (one [.d (.sl (joinD ls))]) [] := by
  refine vc_fn mixed Try.func14 rfl rfl [(500001, [7001003])] (vc_chk rfl) ?_
  repeat' (first
      | ((with_reducible refine vc_chk ?_); first | decide +kernel | rfl)
      | (with_reducible refine vc_side0 ?_; rfl)
      | (with_reducible first
          
              | refine vc_loopI 18 (fun (i : Nat) => [(0, .d (.sl ls)), (3, .sl 7 [] 1 0 (joinD (ls.take i)).length), (4, .d (.int .i64 (i : Int)))]) (fun i => [(7, .row 1 (joinD (ls.take i)))]) (fun i => ls.length - i) (fun i => i ≤ ls.length) 0 [] ?_ ?_ ?_ ?_ ?_ (fun i hI => ?_)
              | refine vc_nextI (i + 1) [(7, 6020)] ?_ ?_ ?_ ?_ ?_ ?_ | refine vc_ret [true] [] ?_ | refine vc_true ?_ | refine vc_true2 ?_ | refine vc_side ?_ ?_ | refine vc_triv | refine vc_later ?_ | refine vc_caseT ?_
              | refine vc_caseF ?_ | refine vc_cons ?_ | refine vc_nil ?_ ?_ | refine vc_seq ?_ | refine vc_region ?_ | refine vc_cond ?_ | refine vc_block ?_ | refine vc_retc ?_ | refine vc_exit ?_ | refine vc_skip ?_
              | refine vc_scope ?_ | refine vc_label ?_ | refine vc_goto ?_ | refine vc_wkSl0 | refine vc_wkHp0 | refine vc_eqAVs0 | refine vc_preG0 | refine vc_wkSl ?_ ?_ | refine vc_wkHp ?_ ?_ | refine vc_eqAVs ?_ ?_
              | refine vc_preG ?_ ?_ | refine vc_ret [] [] ?_ | refine vc_weakf [] ?_ ?_ ?_ | refine vc_side0 ?_ | refine vc_and ?_ ?_)
      | ((with_reducible first | refine vc_caseD (fun h => ?_) (fun h => ?_) | refine vc_caseN (fun h => ?_) (fun h => ?_)) <;> try (exfalso; omega))
      | ((with_reducible refine vc_case (fun h => ?_) (fun h => ?_)) <;> (try simp at h) <;> try (exfalso; omega))
      | (conv in Vc _ => arg 1; whnf
         first
          | (with_reducible refine vc_side0 ?_; rfl)
          | (with_reducible first
             
                 | refine vc_loopI 18 (fun (i : Nat) => [(0, .d (.sl ls)), (3, .sl 7 [] 1 0 (joinD (ls.take i)).length), (4, .d (.int .i64 (i : Int)))]) (fun i => [(7, .row 1 (joinD (ls.take i)))]) (fun i => ls.length - i) (fun i => i ≤ ls.length) 0 [] ?_ ?_ ?_ ?_ ?_ (fun i hI => ?_)
                 | refine vc_nextI (i + 1) [(7, 6020)] ?_ ?_ ?_ ?_ ?_ ?_ | refine vc_ret [true] [] ?_ | refine vc_true ?_ | refine vc_true2 ?_ | refine vc_side ?_ ?_ | refine vc_triv | refine vc_later ?_ | refine vc_caseT ?_
                 | refine vc_caseF ?_ | refine vc_cons ?_ | refine vc_nil ?_ ?_ | refine vc_seq ?_ | refine vc_region ?_ | refine vc_cond ?_ | refine vc_block ?_ | refine vc_retc ?_ | refine vc_exit ?_ | refine vc_skip ?_
                 | refine vc_scope ?_ | refine vc_label ?_ | refine vc_goto ?_ | refine vc_wkSl0 | refine vc_wkHp0 | refine vc_eqAVs0 | refine vc_preG0 | refine vc_wkSl ?_ ?_ | refine vc_wkHp ?_ ?_ | refine vc_eqAVs ?_ ?_
                 | refine vc_preG ?_ ?_ | refine vc_ret [] [] ?_ | refine vc_weakf [] ?_ ?_ ?_ | refine vc_side0 ?_ | refine vc_and ?_ ?_)
          | ((with_reducible first | refine vc_caseD (fun h => ?_) (fun h => ?_) | refine vc_caseN (fun h => ?_) (fun h => ?_)) <;> try (exfalso; omega))
          | ((with_reducible refine vc_case (fun h => ?_) (fun h => ?_)) <;> (try simp at h) <;> try (exfalso; omega))))
  all_goals (try simp only [Int.toNat_natCast])
  all_goals first
    | rfl
    | omega
    | (rw [joinD_take ls (by omega)]; done)
    | (congr 1; rw [wrap64_id (by omega) (by omega)]; omega)
    | (refine ⟨⟨by omega, by omega⟩, ?_⟩
       obtain ⟨l, e⟩ := hs (ls.getD i .nilp) (by rw [List.getD_eq_getElem?_getD, List.getElem?_eq_getElem (by omega)]; simp)
       rw [e]; rfl)
    | (refine ⟨⟨trivial, by first | trivial | rfl, room_le hroom rfl ?_⟩, fun y hy => h1 y ?_⟩
       · rw [joinD_take ls (by omega)]; exact joinD_sub ls _
       · unfold joinD
         refine List.mem_flatMap.2 ⟨ls.getD i .nilp, ?_, hy⟩
         rw [List.getD_eq_getElem?_getD, List.getElem?_eq_getElem (by omega)]; simp)
    | (obtain rfl : i = ls.length := by omega
       rw [List.take_length]; done)
    | (obtain rfl : i = ls.length := by omega
       rw [List.take_length]; rw [List.drop_zero, List.take_length]; done)
    | (obtain rfl : i = ls.length := by omega
       rw [List.take_length]; exact ⟨Nat.le_of_eq (Nat.zero_add _), trivial⟩)
    | (obtain rfl : i = ls.length := by omega
       exact ⟨Nat.le_of_eq (Nat.zero_add _), trivial⟩)

theorem pair_join (a b : List D) : joinD [.sl a, .sl b] = a ++ b := by simp [joinD, D.els]

theorem rText_ok (ts : List D) (hts : ∀ y, y ∈ ts → y.size = 1) (hroom : Room ((numB ts.length).map byteD ++ ts).length 1) : LocalCall Try.prog 16 [.d (.sl ts)] [] [] (one [.d (.sl ((numB ts.length).map byteD ++ ts))]) [] := by
  have hl := room_lt hroom
  simp only [List.length_append] at hl
  refine vc_fn mixed Try.func16 rfl rfl [] (vc_chk rfl) ?_
  repeat' (first
      | ((with_reducible refine vc_chk ?_); first | decide +kernel | rfl)
      | (with_reducible refine vc_side0 ?_; rfl)
      | (with_reducible first
           | refine vc_pure (rNum_ok _ ts.length (wrapU64_id (by omega) (by omega)) (by omega)) ?_ ?_ ?_ | refine vc_call [true] (join_ok [.sl ((numB ts.length).map byteD), .sl ts] ?_ ?_ ?_ ?_) ?_ | refine vc_true ?_
              | refine vc_true2 ?_ | refine vc_side ?_ ?_ | refine vc_triv | refine vc_later ?_ | refine vc_caseT ?_ | refine vc_caseF ?_ | refine vc_cons ?_ | refine vc_nil ?_ ?_ | refine vc_seq ?_ | refine vc_region ?_
              | refine vc_cond ?_ | refine vc_block ?_ | refine vc_retc ?_ | refine vc_exit ?_ | refine vc_skip ?_ | refine vc_scope ?_ | refine vc_label ?_ | refine vc_goto ?_ | refine vc_wkSl0 | refine vc_wkHp0
              | refine vc_eqAVs0 | refine vc_preG0 | refine vc_wkSl ?_ ?_ | refine vc_wkHp ?_ ?_ | refine vc_eqAVs ?_ ?_ | refine vc_preG ?_ ?_ | refine vc_ret [] [] ?_ | refine vc_weakf [] ?_ ?_ ?_ | refine vc_side0 ?_
              | refine vc_and ?_ ?_)
      | ((with_reducible first | refine vc_caseD (fun h => ?_) (fun h => ?_) | refine vc_caseN (fun h => ?_) (fun h => ?_)) <;> try (exfalso; omega))
      | ((with_reducible refine vc_case (fun h => ?_) (fun h => ?_)) <;> (try simp at h) <;> try (exfalso; omega))
      | (conv in Vc _ => arg 1; whnf
         first
          | (with_reducible refine vc_side0 ?_; rfl)
          | (with_reducible first
              | refine vc_pure (rNum_ok _ ts.length (wrapU64_id (by omega) (by omega)) (by omega)) ?_ ?_ ?_ | refine vc_call [true] (join_ok [.sl ((numB ts.length).map byteD), .sl ts] ?_ ?_ ?_ ?_) ?_ | refine vc_true ?_
                 | refine vc_true2 ?_ | refine vc_side ?_ ?_ | refine vc_triv | refine vc_later ?_ | refine vc_caseT ?_ | refine vc_caseF ?_ | refine vc_cons ?_ | refine vc_nil ?_ ?_ | refine vc_seq ?_ | refine vc_region ?_
                 | refine vc_cond ?_ | refine vc_block ?_ | refine vc_retc ?_ | refine vc_exit ?_ | refine vc_skip ?_ | refine vc_scope ?_ | refine vc_label ?_ | refine vc_goto ?_ | refine vc_wkSl0 | refine vc_wkHp0
                 | refine vc_eqAVs0 | refine vc_preG0 | refine vc_wkSl ?_ ?_ | refine vc_wkHp ?_ ?_ | refine vc_eqAVs ?_ ?_ | refine vc_preG ?_ ?_ | refine vc_ret [] [] ?_ | refine vc_weakf [] ?_ ?_ ?_ | refine vc_side0 ?_
                 | refine vc_and ?_ ?_)
          | ((with_reducible first | refine vc_caseD (fun h => ?_) (fun h => ?_) | refine vc_caseN (fun h => ?_) (fun h => ?_)) <;> try (exfalso; omega))
          | ((with_reducible refine vc_case (fun h => ?_) (fun h => ?_)) <;> (try simp at h) <;> try (exfalso; omega))))
  all_goals first
    | (rw [pair_join]; done)
    | (rw [pair_join]; exact hroom)
    | exact ⟨Nat.le_of_eq (Nat.zero_add _), trivial⟩
    | rfl
    | (rw [pair_join]
       intro y hy
       rcases List.mem_append.1 hy with hy | hy
       · obtain ⟨c, _, rfl⟩ := List.mem_map.1 hy; rfl
       · exact hts y hy)
    | (intro y hy
       simp only [List.mem_cons, List.not_mem_nil, or_false] at hy
       rcases hy with rfl | rfl <;> exact ⟨_, rfl⟩)
    | (show 2 < 2 ^ 62; omega)

end Go.Proofs.Ythedcaopedbpdaa
