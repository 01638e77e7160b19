/-
Numbers read one behind the other; the closure of codec.ReadNums.
-/
import Derived.Test.YthedcaopedbpdaaCodef
namespace Go.Proofs.Ythedcaopedbpdaa
open Go.Sym
set_option maxRecDepth 10000
set_option maxHeartbeats 1000000

/-- So many numbers, from a place on. -/
def rdNs (bs : List UInt8) : Nat → Nat → Option (List Nat × Nat)
  | 0, k => some ([], k)
  | n + 1, k => match rdN bs 10 k 0 0 with
    | some (v, e) => (rdNs bs n e).map fun p => (v :: p.1, p.2)
    | none => none

def nD (v : Nat) : D := .int .u64 (v : Int)

structure RnI (bs : List UInt8) (R : Option (List Nat × Nat)) (x : List Nat × Nat × Nat) : Prop where
  h : (rdNs bs x.2.1 x.2.2).map (fun p => (x.1 ++ p.1, p.2)) = R
  le : x.1.length + x.2.1 ≤ 4096

theorem RnI.cases {bs : List UInt8} {R : Option (List Nat × Nat)} {x : List Nat × Nat × Nat} (hI : RnI bs R x) : (x.2.1 = 0 ∧ R = some (x.1, x.2.2)) ∨ (0 < x.2.1 ∧ ((rdN bs 10 x.2.2 0 0 = none ∧ R = none) ∨
    ∃ v e, rdN bs 10 x.2.2 0 0 = some (v, e) ∧ RnI bs R (x.1 ++ [v], x.2.1 - 1, e))) := by
  obtain ⟨acc, n, k⟩ := x
  obtain ⟨h, le⟩ := hI
  simp only at h le ⊢
  cases n with
  | zero => exact .inl ⟨rfl, by rw [← h]; simp [rdNs]⟩
  | succ n =>
    refine .inr ⟨by omega, ?_⟩
    simp only [rdNs] at h
    cases hr : rdN bs 10 k 0 0 with
    | none => rw [hr] at h; exact .inl ⟨rfl, h.symm⟩
    | some p =>
      obtain ⟨v, e⟩ := p
      rw [hr] at h
      refine .inr ⟨v, e, rfl, ?_, ?_⟩
      · simp only [Nat.add_sub_cancel]
        rw [← h, Option.map_map]
        congr 1
        funext p
        simp
      · simp; omega

theorem RnI.ok {bs : List UInt8} {vs : List Nat} {e : Nat} {x : List Nat × Nat × Nat} (hI : RnI bs (some (vs, e)) x) {q : Prop} (h0 : x.2.1 = 0 → x.1 = vs → x.2.2 = e → Vc q)
    (h : ∀ v e', 0 < x.2.1 → x.1.length + x.2.1 ≤ 4096 → rdN bs 10 x.2.2 0 0 = some (v, e') → RnI bs (some (vs, e)) (x.1 ++ [v], x.2.1 - 1, e') → Vc q) : Vc q := by
  rcases hI.cases with ⟨h1, h2⟩ | ⟨h1, ⟨_, h2⟩ | ⟨v, e', h2, h3⟩⟩
  · cases h2; exact h0 h1 rfl rfl
  · cases h2
  · exact h v e' h1 hI.le h2 h3

theorem RnI.no {bs : List UInt8} {x : List Nat × Nat × Nat} (hI : RnI bs none x) {q : Prop} (h0 : 0 < x.2.1 → rdN bs 10 x.2.2 0 0 = none → Vc q)
    (h : ∀ v e', 0 < x.2.1 → x.1.length + x.2.1 ≤ 4096 → rdN bs 10 x.2.2 0 0 = some (v, e') → RnI bs none (x.1 ++ [v], x.2.1 - 1, e') → Vc q) : Vc q := by
  rcases hI.cases with ⟨h1, h2⟩ | ⟨h1, ⟨h2, _⟩ | ⟨v, e', h2, h3⟩⟩
  · cases h2
  · exact h0 h1 h2
  · exact h v e' h1 hI.le h2 h3

theorem nD_app (l : List Nat) (v : Nat) : (l.map nD) ++ [D.int .u64 (v : Int)] = (l ++ [v]).map nD := by simp [nD]

theorem room8 {n k : Nat} (hk : k = 8) (h : n ≤ 4096) : Room n k := by subst hk; unfold Room; omega

theorem nums_in (B : List D) (bs : List UInt8) (hB : B = bs.map byteD) (n k e : Nat) (vs : List Nat) (hc : rdC bs 4096 0 = some (n, k)) (hr : rdNs bs n k = some (vs, e)) (hl : bs.length < 2 ^ 62) :
    LocalCall Try.prog 43 [.ptr 9 [], .ptr 8 []] [(9, rd B 0), (8, .var (.d .nils))] [7] (one []) [(9, rd B e), (8, .var (.sl 7 [] 1 0 (vs.map nD).length)), (7, .row 1 (vs.map nD))] := by
  have hn := (rdC_ok hc).2.2
  have h0 : RnI bs (some (vs, e)) ([], n, k) := ⟨by rw [hr]; rfl, by simp; omega⟩
  refine vc_fn mixed Try.func43 rfl rfl [(500000, [1000000007000000008])] (vc_chk rfl) ?_
  repeat' (first
      | ((with_reducible refine vc_chk ?_); first | decide +kernel | rfl)
      | (with_reducible refine vc_side0 ?_; rfl)
      | (with_reducible first
           | refine vc_call [] (count_ok B bs hB 4096 0 n k hc (by omega) hl) ?_
              | refine vc_loopI 15 (fun (x : List Nat × Nat × Nat) => [(0, .ptr 9 []), (1, .ptr 8 []), (3, .d (.int .i64 (x.2.1 : Int)))]) (fun x => [(9, rd B x.2.2), (8, .var (.sl 7 [] 1 0 (x.1.map nD).length)), (7, .row 1 (x.1.map nD))]) (fun x => x.2.1) (RnI bs (some (vs, e))) ([], n, k) [] ?_ ?_ ?_ ?_ ?_ (fun x hI => hI.ok (fun hz he1 he2 => ?_) (fun v e' hz hle hv hx => ?_))
              | refine vc_call [] (num_read B bs hB x.2.2 v e' hv hl) ?_ | refine vc_nextI (x.1 ++ [v], x.2.1 - 1, e') [(7, 4016)] ?_ ?_ ?_ ?_ ?_ ?_ | refine vc_true ?_ | refine vc_true2 ?_ | refine vc_side ?_ ?_ | refine vc_triv
              | refine vc_later ?_ | refine vc_caseT ?_ | refine vc_caseF ?_ | refine vc_cons ?_ | refine vc_nil ?_ ?_ | refine vc_seq ?_ | refine vc_region ?_ | refine vc_cond ?_ | refine vc_block ?_ | refine vc_retc ?_
              | refine vc_exit ?_ | refine vc_skip ?_ | refine vc_scope ?_ | refine vc_label ?_ | refine vc_goto ?_ | refine vc_wkSl0 | refine vc_wkHp0 | refine vc_eqAVs0 | refine vc_preG0 | refine vc_wkSl ?_ ?_
              | refine vc_wkHp ?_ ?_ | refine vc_eqAVs ?_ ?_ | refine vc_preG ?_ ?_ | refine vc_ret [] [] ?_ | refine vc_weakf [] ?_ ?_ ?_ | refine vc_side0 ?_ | refine vc_and ?_ ?_)
      | ((with_reducible first | refine vc_caseD (fun h => ?_) (fun h => ?_) | refine vc_caseN (fun h => ?_) (fun h => ?_)) <;> try (exfalso; omega))
      | ((with_reducible refine vc_case (fun h => ?_) (fun h => ?_)) <;> (try simp at h) <;> try (exfalso; omega))
      | (conv in Vc _ => arg 1; whnf
         first
          | (with_reducible refine vc_side0 ?_; rfl)
          | (with_reducible first
              | refine vc_call [] (count_ok B bs hB 4096 0 n k hc (by omega) hl) ?_
                 | refine vc_loopI 15 (fun (x : List Nat × Nat × Nat) => [(0, .ptr 9 []), (1, .ptr 8 []), (3, .d (.int .i64 (x.2.1 : Int)))]) (fun x => [(9, rd B x.2.2), (8, .var (.sl 7 [] 1 0 (x.1.map nD).length)), (7, .row 1 (x.1.map nD))]) (fun x => x.2.1) (RnI bs (some (vs, e))) ([], n, k) [] ?_ ?_ ?_ ?_ ?_ (fun x hI => hI.ok (fun hz he1 he2 => ?_) (fun v e' hz hle hv hx => ?_))
                 | refine vc_call [] (num_read B bs hB x.2.2 v e' hv hl) ?_ | refine vc_nextI (x.1 ++ [v], x.2.1 - 1, e') [(7, 4016)] ?_ ?_ ?_ ?_ ?_ ?_ | refine vc_true ?_ | refine vc_true2 ?_ | refine vc_side ?_ ?_
                 | refine vc_triv | refine vc_later ?_ | refine vc_caseT ?_ | refine vc_caseF ?_ | refine vc_cons ?_ | refine vc_nil ?_ ?_ | refine vc_seq ?_ | refine vc_region ?_ | refine vc_cond ?_ | refine vc_block ?_
                 | refine vc_retc ?_ | refine vc_exit ?_ | refine vc_skip ?_ | refine vc_scope ?_ | refine vc_label ?_ | refine vc_goto ?_ | refine vc_wkSl0 | refine vc_wkHp0 | refine vc_eqAVs0 | refine vc_preG0
                 | refine vc_wkSl ?_ ?_ | refine vc_wkHp ?_ ?_ | refine vc_eqAVs ?_ ?_ | refine vc_preG ?_ ?_ | refine vc_ret [] [] ?_ | refine vc_weakf [] ?_ ?_ ?_ | refine vc_side0 ?_ | refine vc_and ?_ ?_)
          | ((with_reducible first | refine vc_caseD (fun h => ?_) (fun h => ?_) | refine vc_caseN (fun h => ?_) (fun h => ?_)) <;> try (exfalso; omega))
          | ((with_reducible refine vc_case (fun h => ?_) (fun h => ?_)) <;> (try simp at h) <;> try (exfalso; omega))))
  all_goals first
    | rfl
    | exact h0
    | exact hx
    | (simp only; omega)
    | (rw [he1]; done)
    | (rw [he2]; done)
    | (simp only [List.drop_zero, List.take_length]; rw [nD_app]; done)
    | (congr 1; rw [wrap64_id (by omega) (by omega)]; simp only; omega)
    | (refine ⟨⟨by simp, by first | trivial | rfl, room8 rfl ?_⟩, fun y hy => ?_⟩
       · rw [List.length_append, List.length_map]
         show x.1.length + 1 ≤ 4096
         omega
       · simp only [List.drop_zero, List.take_length, List.mem_singleton] at hy; subst hy; rfl)

theorem nums_not (B : List D) (bs : List UInt8) (hB : B = bs.map byteD) (hc : ∀ n k, rdC bs 4096 0 = some (n, k) → rdNs bs n k = none) (hl : bs.length < 2 ^ 62) :
    LocalPan Try.prog 43 [.ptr 9 [], .ptr 8 []] [(9, rd B 0), (8, .var (.d .nils))] [] fault [(9, .dead), (8, .dead)] := by
  refine vc_fnPan mixed Try.func43 rfl rfl [(500000, [1000000007000000008])] (vc_chk rfl) ?_
  rcases hr0 : rdC bs 4096 0 with _ | ⟨n, k⟩
  · skip
    repeat' (first
        | ((with_reducible refine vc_chk ?_); first | decide +kernel | rfl)
        | (with_reducible refine vc_side0 ?_; rfl)
        | (with_reducible first
             | refine vc_pan [] (count_pan B bs hB 4096 0 hr0 (by omega) (by omega) hl) ?_ | refine vc_panc [] [8] ?_ ?_ | refine vc_true ?_ | refine vc_true2 ?_ | refine vc_side ?_ ?_ | refine vc_triv | refine vc_later ?_
                | refine vc_caseT ?_ | refine vc_caseF ?_ | refine vc_cons ?_ | refine vc_nil ?_ ?_ | refine vc_seq ?_ | refine vc_region ?_ | refine vc_cond ?_ | refine vc_block ?_ | refine vc_retc ?_ | refine vc_exit ?_
                | refine vc_skip ?_ | refine vc_scope ?_ | refine vc_label ?_ | refine vc_goto ?_ | refine vc_wkSl0 | refine vc_wkHp0 | refine vc_eqAVs0 | refine vc_preG0 | refine vc_wkSl ?_ ?_ | refine vc_wkHp ?_ ?_
                | refine vc_eqAVs ?_ ?_ | refine vc_preG ?_ ?_ | refine vc_ret [] [] ?_ | refine vc_weakf [] ?_ ?_ ?_ | refine vc_side0 ?_ | refine vc_and ?_ ?_)
        | ((with_reducible first | refine vc_caseD (fun h => ?_) (fun h => ?_) | refine vc_caseN (fun h => ?_) (fun h => ?_)) <;> try (exfalso; omega))
        | ((with_reducible refine vc_case (fun h => ?_) (fun h => ?_)) <;> (try simp at h) <;> try (exfalso; omega))
        | (conv in Vc _ => arg 1; whnf
           first
            | (with_reducible refine vc_side0 ?_; rfl)
            | (with_reducible first
                | refine vc_pan [] (count_pan B bs hB 4096 0 hr0 (by omega) (by omega) hl) ?_ | refine vc_panc [] [8] ?_ ?_ | refine vc_true ?_ | refine vc_true2 ?_ | refine vc_side ?_ ?_ | refine vc_triv | refine vc_later ?_
                   | refine vc_caseT ?_ | refine vc_caseF ?_ | refine vc_cons ?_ | refine vc_nil ?_ ?_ | refine vc_seq ?_ | refine vc_region ?_ | refine vc_cond ?_ | refine vc_block ?_ | refine vc_retc ?_ | refine vc_exit ?_
                   | refine vc_skip ?_ | refine vc_scope ?_ | refine vc_label ?_ | refine vc_goto ?_ | refine vc_wkSl0 | refine vc_wkHp0 | refine vc_eqAVs0 | refine vc_preG0 | refine vc_wkSl ?_ ?_ | refine vc_wkHp ?_ ?_
                   | refine vc_eqAVs ?_ ?_ | refine vc_preG ?_ ?_ | refine vc_ret [] [] ?_ | refine vc_weakf [] ?_ ?_ ?_ | refine vc_side0 ?_ | refine vc_and ?_ ?_)
            | ((with_reducible first | refine vc_caseD (fun h => ?_) (fun h => ?_) | refine vc_caseN (fun h => ?_) (fun h => ?_)) <;> try (exfalso; omega))
            | ((with_reducible refine vc_case (fun h => ?_) (fun h => ?_)) <;> (try simp at h) <;> try (exfalso; omega))))
    all_goals rfl
  · have hn := (rdC_ok hr0).2.2
    have h0 : RnI bs none ([], n, k) := ⟨by rw [hc n k hr0]; rfl, by simp; omega⟩
    repeat' (first
        | ((with_reducible refine vc_chk ?_); first | decide +kernel | rfl)
        | (with_reducible refine vc_side0 ?_; rfl)
        | (with_reducible first
             | refine vc_call [] (count_ok B bs hB 4096 0 n k hr0 (by omega) hl) ?_
                | refine vc_loopI 15 (fun (x : List Nat × Nat × Nat) => [(0, .ptr 9 []), (1, .ptr 8 []), (3, .d (.int .i64 (x.2.1 : Int)))]) (fun x => [(9, rd B x.2.2), (8, .var (.sl 7 [] 1 0 (x.1.map nD).length)), (7, .row 1 (x.1.map nD))]) (fun x => x.2.1) (RnI bs none) ([], n, k) [] ?_ ?_ ?_ ?_ ?_ (fun x hI => hI.no (fun hz hv => ?_) (fun v e' hz hle hv hx => ?_))
                | refine vc_call [] (num_read B bs hB x.2.2 v e' hv hl) ?_ | refine vc_pan [] (num_nread B bs hB x.2.2 hv hl) ?_ | refine vc_nextI (x.1 ++ [v], x.2.1 - 1, e') [(7, 4016)] ?_ ?_ ?_ ?_ ?_ ?_
                | refine vc_panc [] [8] ?_ ?_ | refine vc_true ?_ | refine vc_true2 ?_ | refine vc_side ?_ ?_ | refine vc_triv | refine vc_later ?_ | refine vc_caseT ?_ | refine vc_caseF ?_ | refine vc_cons ?_
                | refine vc_nil ?_ ?_ | refine vc_seq ?_ | refine vc_region ?_ | refine vc_cond ?_ | refine vc_block ?_ | refine vc_retc ?_ | refine vc_exit ?_ | refine vc_skip ?_ | refine vc_scope ?_ | refine vc_label ?_
                | refine vc_goto ?_ | refine vc_wkSl0 | refine vc_wkHp0 | refine vc_eqAVs0 | refine vc_preG0 | refine vc_wkSl ?_ ?_ | refine vc_wkHp ?_ ?_ | refine vc_eqAVs ?_ ?_ | refine vc_preG ?_ ?_ | refine vc_ret [] [] ?_
                | refine vc_weakf [] ?_ ?_ ?_ | refine vc_side0 ?_ | refine vc_and ?_ ?_)
        | ((with_reducible first | refine vc_caseD (fun h => ?_) (fun h => ?_) | refine vc_caseN (fun h => ?_) (fun h => ?_)) <;> try (exfalso; omega))
        | ((with_reducible refine vc_case (fun h => ?_) (fun h => ?_)) <;> (try simp at h) <;> try (exfalso; omega))
        | (conv in Vc _ => arg 1; whnf
           first
            | (with_reducible refine vc_side0 ?_; rfl)
            | (with_reducible first
                | refine vc_call [] (count_ok B bs hB 4096 0 n k hr0 (by omega) hl) ?_
                   | refine vc_loopI 15 (fun (x : List Nat × Nat × Nat) => [(0, .ptr 9 []), (1, .ptr 8 []), (3, .d (.int .i64 (x.2.1 : Int)))]) (fun x => [(9, rd B x.2.2), (8, .var (.sl 7 [] 1 0 (x.1.map nD).length)), (7, .row 1 (x.1.map nD))]) (fun x => x.2.1) (RnI bs none) ([], n, k) [] ?_ ?_ ?_ ?_ ?_ (fun x hI => hI.no (fun hz hv => ?_) (fun v e' hz hle hv hx => ?_))
                   | refine vc_call [] (num_read B bs hB x.2.2 v e' hv hl) ?_ | refine vc_pan [] (num_nread B bs hB x.2.2 hv hl) ?_ | refine vc_nextI (x.1 ++ [v], x.2.1 - 1, e') [(7, 4016)] ?_ ?_ ?_ ?_ ?_ ?_
                   | refine vc_panc [] [8] ?_ ?_ | refine vc_true ?_ | refine vc_true2 ?_ | refine vc_side ?_ ?_ | refine vc_triv | refine vc_later ?_ | refine vc_caseT ?_ | refine vc_caseF ?_ | refine vc_cons ?_
                   | refine vc_nil ?_ ?_ | refine vc_seq ?_ | refine vc_region ?_ | refine vc_cond ?_ | refine vc_block ?_ | refine vc_retc ?_ | refine vc_exit ?_ | refine vc_skip ?_ | refine vc_scope ?_ | refine vc_label ?_
                   | refine vc_goto ?_ | refine vc_wkSl0 | refine vc_wkHp0 | refine vc_eqAVs0 | refine vc_preG0 | refine vc_wkSl ?_ ?_ | refine vc_wkHp ?_ ?_ | refine vc_eqAVs ?_ ?_ | refine vc_preG ?_ ?_ | refine vc_ret [] [] ?_
                   | refine vc_weakf [] ?_ ?_ ?_ | refine vc_side0 ?_ | refine vc_and ?_ ?_)
            | ((with_reducible first | refine vc_caseD (fun h => ?_) (fun h => ?_) | refine vc_caseN (fun h => ?_) (fun h => ?_)) <;> try (exfalso; omega))
            | ((with_reducible refine vc_case (fun h => ?_) (fun h => ?_)) <;> (try simp at h) <;> try (exfalso; omega))))
    all_goals first
      | rfl
      | exact h0
      | exact hx
      | (simp only; omega)
      | (simp only [List.drop_zero, List.take_length]; rw [nD_app]; done)
      | (congr 1; rw [wrap64_id (by omega) (by omega)]; simp only; omega)
      | (refine ⟨⟨by simp, by first | trivial | rfl, room8 rfl ?_⟩, fun y hy => ?_⟩
         · rw [List.length_append, List.length_map]
           show x.1.length + 1 ≤ 4096
           omega
         · simp only [List.drop_zero, List.take_length, List.mem_singleton] at hy; subst hy; rfl)

end Go.Proofs.Ythedcaopedbpdaa
