import Derived.Test.YtjgkngjeniameaaJ6
import Derived.Test.YtjgkngjeniameaaJ7
import Derived.Test.YtjgkngjeniameaaJ14
set_option linter.unusedSimpArgs false
set_option linter.unusedVariables false
namespace Go.Proofs.Ytjgkngjeniameaa
open Go.Sym
set_option maxRecDepth 10000
set_option maxHeartbeats 4000000
def honH (seed : List UInt8) (ts : List (List UInt8)) : Nat → Hd
  | 0 => hdP (pubH seed 1)
  | i + 1 => folY (sealS seed (honH seed ts i) (ts.getD i []))
def honN (seed : List UInt8) (ts : List (List UInt8)) : Nat → List Sgn
  | 0 => []
  | i + 1 => honN seed ts i ++ [sealS seed (honH seed ts i) (ts.getD i [])]
theorem honN_length (seed : List UInt8) (ts : List (List UInt8)) : ∀ i, (honN seed ts i).length = i
  | 0 => rfl
  | i + 1 => by simp [honN, honN_length seed ts i]
theorem honH_epoch (seed : List UInt8) (ts : List (List UInt8)) : ∀ i, (honH seed ts i).epoch = i
  | 0 => rfl
  | i + 1 => by show (honH seed ts i).epoch + 1 = i + 1; rw [honH_epoch seed ts i]
theorem honH_key (seed : List UInt8) (ts : List (List UInt8)) : ∀ i, (honH seed ts i).key = pubH seed (i + 1)
  | 0 => rfl
  | i + 1 => by show pubH seed ((honH seed ts i).epoch + 2) = _; rw [honH_epoch seed ts i]
theorem honH_wf (seed : List UInt8) {ts : List (List UInt8)} (ht : ∀ t, t ∈ ts → t.length = 32) : ∀ i, i ≤ ts.length → i ≤ 60 → wfH (honH seed ts i)
  | 0, _, _ => wf_hdP (pubH_length _ _)
  | i + 1, h, h2 => wf_folY (wf_seal seed (honH_wf seed ht i (by omega) (by omega)) (by rw [honH_epoch]; omega) (ht _ (by rw [List.getD_eq_getElem?_getD, List.getElem?_eq_getElem (by omega)]; simp)))
theorem honN_at (seed : List UInt8) (ts : List (List UInt8)) : ∀ n i, i < n → (honN seed ts n).getD i s0 = sealS seed (honH seed ts i) (ts.getD i [])
  | 0, i, h => absurd h (Nat.not_lt_zero i)
  | n + 1, i, h => by
    have hl := honN_length seed ts n
    by_cases e : i = n
    · subst e
      simp [honN, List.getD_eq_getElem?_getD, hl]
    · have := honN_at seed ts n i (by omega)
      rw [List.getD_eq_getElem?_getD] at this ⊢
      show ((honN seed ts n ++ [_])[i]?).getD s0 = _
      rw [List.getElem?_append_left (by omega)]; exact this
theorem honN_wf (seed : List UInt8) {ts : List (List UInt8)} (ht : ∀ t, t ∈ ts → t.length = 32) {n : Nat} (hn : n ≤ ts.length) (h60 : n ≤ 60) : ∀ s, s ∈ honN seed ts n → wfS s := fun s hs => by
  obtain ⟨i, hi, rfl⟩ := List.getElem_of_mem hs
  rw [honN_length] at hi
  have e := honN_at seed ts n i hi
  rw [List.getD_eq_getElem?_getD, List.getElem?_eq_getElem (by rw [honN_length]; exact hi)] at e
  show wfS ((honN seed ts n)[i])
  rw [show (honN seed ts n)[i] = _ from e]
  exact wf_seal seed (honH_wf seed ht i (by omega) (by omega)) (by rw [honH_epoch]; omega) (ht _ (by rw [List.getD_eq_getElem?_getD, List.getElem?_eq_getElem (by omega)]; simp))
theorem rPin_ok (seed : List UInt8) (hs : seed.length = 32) : LocalCall Try.prog 22 [.d (.arr 32 1 (seed.map byteD))] [] [] (one [.d (.arr 32 1 ((pubH seed 1).map byteD))]) [] := by
  have c1 := rPublic_ok seed hs 1 (by decide)
  refine vc_fn mixed Try.func22 rfl rfl [] (vzH rfl) ?_
  repeat' (first | ((with_reducible refine vzH ?_); first | decide +kernel | rfl) | (with_reducible refine vzC ?_; rfl) | (with_reducible first | (refine vzZ ?_; constructor) | refine vzC ?_ | refine vc_pure c1 ?_ ?_ ?_ | refine vzB [] ?_ ?_ ?_ | refine vzD ?_ ?_ | refine vc_ret [] [] ?_) | ((with_reducible first | refine vzE (fun h => ?_) (fun h => ?_) | refine vzF (fun h => ?_) (fun h => ?_)) <;> try (exfalso; omega)) | ((with_reducible refine vzG (fun h => ?_) (fun h => ?_)) <;> (try simp only [Go.Sym.vs1, reduceCtorEq] at h) <;> try (exfalso; first | omega | (simp at h; done))) | ((conv in Vc _ => arg 1; whnf); first | (with_reducible refine vzC ?_; rfl) | (with_reducible first | (refine vzZ ?_; constructor) | refine vzC ?_ | refine vc_pure c1 ?_ ?_ ?_ | refine vzB [] ?_ ?_ ?_ | refine vzD ?_ ?_ | refine vc_ret [] [] ?_) | ((with_reducible first | refine vzE (fun h => ?_) (fun h => ?_) | refine vzF (fun h => ?_) (fun h => ?_)) <;> try (exfalso; omega)) | ((with_reducible refine vzG (fun h => ?_) (fun h => ?_)) <;> (try simp only [Go.Sym.vs1, reduceCtorEq] at h) <;> try (exfalso; first | omega | (simp at h; done)))))
  all_goals first
    | with_reducible rfl
    | omega
    | exact ⟨trivial, trivial⟩
    | exact ⟨trivial, trivial, trivial⟩
    | exact ⟨trivial, trivial, trivial, trivial⟩
    | exact ⟨⟨by decide, by decide, by decide⟩, trivial⟩
    | exact ⟨Nat.le_of_eq (Nat.zero_add _), trivial⟩
    | exact ⟨Nat.le_refl _, trivial, trivial⟩
    | (rw [wrap64_id (by omega) (by omega)]; rfl)
    | rfl
    | (exfalso; simp at h; done)
    | skip
theorem rHonest_ok (seed : List UInt8) (hs : seed.length = 32) (ts : List (List UInt8)) (ht : ∀ t, t ∈ ts → t.length = 32) (hm : ts.length ≤ 60) :
    LocalCall Try.prog 21 [.d (.arr 32 1 (seed.map byteD)), .d (.sl (ts.map digD))] [] [] (one [.d (.sl ((honN seed ts ts.length).map sD))]) [] := by
  have lt : (ts.map digD).length = ts.length := List.length_map _
  have tl : ∀ i, i < ts.length → (ts.getD i []).length = 32 := fun i hi => ht _ (by rw [List.getD_eq_getElem?_getD, List.getElem?_eq_getElem hi]; simp)
  have c1 := rPin_ok seed hs
  have sl : ∀ i : Nat, i < ts.length → LocalCall Try.prog 44 [.d (.arr 32 1 (seed.map byteD)), .d (hdD (honH seed ts i)), .d (.arr 32 1 ((ts.getD i []).map byteD))] [] [] (one [.d (sD (sealS seed (honH seed ts i) (ts.getD i []))), .d (.int .i64 0)]) [] := fun i hi => by
    have c := rSeal_ok seed hs (honH seed ts i) (honH_wf seed ht i (by omega) (by omega)) _ (tl i hi)
    unfold sealR sealE at c
    rwa [decide_eq_false (show ¬ 64 ≤ (honH seed ts i).epoch by rw [honH_epoch]; omega), cond_false, cond_false] at c
  have rt : ∀ i : Nat, i < ts.length → _ := fun i hi => rRoot_ok (sealRt seed (honH seed ts i) (ts.getD i [])) (wf_seal seed (honH_wf seed ht i (by omega) (by omega)) (by rw [honH_epoch]; omega) (tl i hi)).wfR
  refine vc_fn mixed Try.func21 rfl rfl [(500001, [9098005])] (vzH rfl) ?_
  repeat' (first | ((with_reducible refine vzH ?_); first | decide +kernel | rfl) | (with_reducible refine vzC ?_; rfl) | (with_reducible first | (refine vzZ ?_; constructor) | refine vzC ?_ | refine vc_call [] c1 ?_ | refine vc_call [] (sl i (by omega)) ?_ | refine vc_call [] (rt i (by omega)) ?_ | refine vc_loopI 47 (fun (i : Nat) => [(1, .d (.sl (ts.map digD))), (2, .ptr 1000 []), (5, .sl 9 [] 98 0 ((honN seed ts i).map sD).length), (6, .ptr 3012 []), (7, .d (.int .i64 (i : Int)))]) (fun i => [(1000, .var (.d (.arr 32 1 (seed.map byteD)))), (3012, .var (.d (hdD (honH seed ts i)))), (9, .row 98 ((honN seed ts i).map sD))]) (fun i => ts.length - i) (fun i => i ≤ ts.length) 0 [] ?_ ?_ ?_ ?_ ?_ (fun i hI => ?_) | refine vc_nextI (i + 1) [(9, 10012)] ?_ ?_ ?_ ?_ ?_ ?_ | refine vc_ret [true] [] ?_ | refine vzB [] ?_ ?_ ?_ | refine vzD ?_ ?_ | refine vc_ret [] [] ?_) | ((with_reducible first | refine vzE (fun h => ?_) (fun h => ?_) | refine vzF (fun h => ?_) (fun h => ?_)) <;> try (exfalso; omega)) | ((with_reducible refine vzG (fun h => ?_) (fun h => ?_)) <;> (try simp only [Go.Sym.vs1, reduceCtorEq] at h) <;> try (exfalso; first | omega | (simp at h; done))) | ((conv in Vc _ => arg 1; whnf); first | (with_reducible refine vzC ?_; rfl) | (with_reducible first | (refine vzZ ?_; constructor) | refine vzC ?_ | refine vc_call [] c1 ?_ | refine vc_call [] (sl i (by omega)) ?_ | refine vc_call [] (rt i (by omega)) ?_ | refine vc_loopI 47 (fun (i : Nat) => [(1, .d (.sl (ts.map digD))), (2, .ptr 1000 []), (5, .sl 9 [] 98 0 ((honN seed ts i).map sD).length), (6, .ptr 3012 []), (7, .d (.int .i64 (i : Int)))]) (fun i => [(1000, .var (.d (.arr 32 1 (seed.map byteD)))), (3012, .var (.d (hdD (honH seed ts i)))), (9, .row 98 ((honN seed ts i).map sD))]) (fun i => ts.length - i) (fun i => i ≤ ts.length) 0 [] ?_ ?_ ?_ ?_ ?_ (fun i hI => ?_) | refine vc_nextI (i + 1) [(9, 10012)] ?_ ?_ ?_ ?_ ?_ ?_ | refine vc_ret [true] [] ?_ | refine vzB [] ?_ ?_ ?_ | refine vzD ?_ ?_ | refine vc_ret [] [] ?_) | ((with_reducible first | refine vzE (fun h => ?_) (fun h => ?_) | refine vzF (fun h => ?_) (fun h => ?_)) <;> try (exfalso; omega)) | ((with_reducible refine vzG (fun h => ?_) (fun h => ?_)) <;> (try simp only [Go.Sym.vs1, reduceCtorEq] at h) <;> try (exfalso; first | omega | (simp at h; done)))))
  all_goals (try have hi : i < ts.length := by omega)
  all_goals (try simp only [Int.toNat_natCast, dig_at hi])
  all_goals first
    | with_reducible rfl
    | omega
    | exact ⟨⟨by omega, by omega⟩, rfl⟩
    | exact ⟨⟨Nat.le_refl _, by first | trivial | rfl, room128 (by rw [List.length_append, List.length_map, honN_length]; show _ + 1 ≤ _; omega)⟩, fun y hy => (by rw [List.mem_singleton.1 hy]; rfl)⟩
    | exact ⟨trivial, trivial, trivial, trivial⟩
    | (show _ = _ ; rw [honN, List.map_append, List.length_append, List.length_append]; rfl)
    | (show _ = _ ; rw [honN, List.map_append]; rfl)
    | (rw [wrap64_id (by omega) (by omega)]; rfl)
    | exact ⟨Nat.le_of_eq (Nat.zero_add _), trivial⟩
    | (rw [List.drop_zero, List.take_length, show i = ts.length by omega])
    | rfl
    | trace_state
end Go.Proofs.Ytjgkngjeniameaa
