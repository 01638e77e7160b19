import Derived.Test.YtjgkngjeniameaaJ3
import Derived.Test.YtjgkngjeniameaaJ4
set_option linter.unusedSimpArgs false
set_option linter.unusedVariables false
namespace Go.Proofs.Ytjgkngjeniameaa
open Go.Sym
set_option maxRecDepth 10000
set_option maxHeartbeats 4000000
theorem rot_ok {i : Int} {x : W32} (hi : i = wI x) (k : Int) (n : Nat) (hn : n ≤ 32) (h1 : aBits .and .u64 (IntKind.u64.wrap k) 31 = ((32 - n : Nat) : Int)) (h2 : IntKind.u64.wrap (32 - ((32 - n : Nat) : Int)) = (n : Int)) :
    LocalCall Try.prog 118 [.d (.int .u32 i), .d (.int .i64 k)] [] [] (one [.d (.int .u32 (wI (rotr x n)))]) [] := by
  subst hi
  refine vc_fn mixed Try.func118 rfl rfl [] (vzH rfl) ?_
  repeat' (first | ((with_reducible refine vzH ?_); first | decide +kernel | rfl) | (with_reducible refine vzC ?_; rfl) | (with_reducible first | (refine vzZ ?_; constructor) | refine vzC ?_ | refine vzB [] ?_ ?_ ?_ | refine vzD ?_ ?_ | refine vc_ret [] [] ?_) | ((with_reducible first | refine vzE (fun h => ?_) (fun h => ?_) | refine vzF (fun h => ?_) (fun h => ?_)) <;> try (exfalso; omega)) | ((with_reducible refine vzG (fun h => ?_) (fun h => ?_)) <;> (try simp only [Go.Sym.vs1, reduceCtorEq] at h) <;> try (exfalso; first | omega | (simp at h; done))) | ((conv in Vc _ => arg 1; whnf); first | (with_reducible refine vzC ?_; rfl) | (with_reducible first | (refine vzZ ?_; constructor) | refine vzC ?_ | refine vzB [] ?_ ?_ ?_ | refine vzD ?_ ?_ | refine vc_ret [] [] ?_) | ((with_reducible first | refine vzE (fun h => ?_) (fun h => ?_) | refine vzF (fun h => ?_) (fun h => ?_)) <;> try (exfalso; omega)) | ((with_reducible refine vzG (fun h => ?_) (fun h => ?_)) <;> (try simp only [Go.Sym.vs1, reduceCtorEq] at h) <;> try (exfalso; first | omega | (simp at h; done)))))
  all_goals (try simp only [h1, h2])
  all_goals first
    | rfl
    | omega
    | (rw [w_shl x (by omega), w_shr x hn, w_or]; unfold rotr; rw [BitVec.or_comm])
theorem turn_ok {i : Int} {x : W32} (hi : i = wI x) (n : Nat) (hn : n ≤ 32) :
    LocalCall Try.prog 111 [.d (.int .u32 i), .d (.int .i64 (n : Int))] [] [] (one [.d (.int .u32 (wI (rotr x n)))]) [] := by
  subst hi
  have h1 : IntKind.u64.wrap (n : Int) = n := by rw [u64_wrap]; omega
  have h2 : IntKind.u64.wrap (IntKind.i64.wrap (32 - (n : Int))) = ((32 - n : Nat) : Int) := by rw [wrap64_id (by omega) (by omega), u64_wrap]; omega
  refine vc_fn mixed Try.func111 rfl rfl [] (vzH rfl) ?_
  repeat' (first | ((with_reducible refine vzH ?_); first | decide +kernel | rfl) | (with_reducible refine vzC ?_; rfl) | (with_reducible first | (refine vzZ ?_; constructor) | refine vzC ?_ | refine vzB [] ?_ ?_ ?_ | refine vzD ?_ ?_ | refine vc_ret [] [] ?_) | ((with_reducible first | refine vzE (fun h => ?_) (fun h => ?_) | refine vzF (fun h => ?_) (fun h => ?_)) <;> try (exfalso; omega)) | ((with_reducible refine vzG (fun h => ?_) (fun h => ?_)) <;> (try simp only [Go.Sym.vs1, reduceCtorEq] at h) <;> try (exfalso; first | omega | (simp at h; done))) | ((conv in Vc _ => arg 1; whnf); first | (with_reducible refine vzC ?_; rfl) | (with_reducible first | (refine vzZ ?_; constructor) | refine vzC ?_ | refine vzB [] ?_ ?_ ?_ | refine vzD ?_ ?_ | refine vc_ret [] [] ?_) | ((with_reducible first | refine vzE (fun h => ?_) (fun h => ?_) | refine vzF (fun h => ?_) (fun h => ?_)) <;> try (exfalso; omega)) | ((with_reducible refine vzG (fun h => ?_) (fun h => ?_)) <;> (try simp only [Go.Sym.vs1, reduceCtorEq] at h) <;> try (exfalso; first | omega | (simp at h; done)))))
  all_goals (try simp only [h1, h2])
  all_goals first
    | rfl
    | omega
    | (rw [w_shl x (by omega), w_shr x hn, w_or]; rfl)
theorem factors_ok : LocalCall Try.prog 117 [] [] [] (one [.d (.arr 64 1 (sK.map wD))]) [] := by
  refine vc_fn mixed Try.func117 rfl rfl [] (vzH rfl) ?_
  repeat' (first | ((with_reducible refine vzH ?_); first | decide +kernel | rfl) | (with_reducible refine vzC ?_; rfl) | (with_reducible first | (refine vzZ ?_; constructor) | refine vzC ?_ | refine vzB [] ?_ ?_ ?_ | refine vzD ?_ ?_ | refine vc_ret [] [] ?_) | ((with_reducible first | refine vzE (fun h => ?_) (fun h => ?_) | refine vzF (fun h => ?_) (fun h => ?_)) <;> try (exfalso; omega)) | ((with_reducible refine vzG (fun h => ?_) (fun h => ?_)) <;> (try simp only [Go.Sym.vs1, reduceCtorEq] at h) <;> try (exfalso; first | omega | (simp at h; done))) | ((conv in Vc _ => arg 1; whnf); first | (with_reducible refine vzC ?_; rfl) | (with_reducible first | (refine vzZ ?_; constructor) | refine vzC ?_ | refine vzB [] ?_ ?_ ?_ | refine vzD ?_ ?_ | refine vc_ret [] [] ?_) | ((with_reducible first | refine vzE (fun h => ?_) (fun h => ?_) | refine vzF (fun h => ?_) (fun h => ?_)) <;> try (exfalso; omega)) | ((with_reducible refine vzG (fun h => ?_) (fun h => ?_)) <;> (try simp only [Go.Sym.vs1, reduceCtorEq] at h) <;> try (exfalso; first | omega | (simp at h; done)))))
  all_goals first
    | rfl
    | ((repeat' apply And.intro) <;> first | trivial | decide)
theorem round_ok : LocalCall Try.prog 110 [] [] [] (one [.d (.arr 64 1 (sK.map wD))]) [] := by
  refine vc_fn mixed Try.func110 rfl rfl [] (vzH rfl) ?_
  repeat' (first | ((with_reducible refine vzH ?_); first | decide +kernel | rfl) | (with_reducible refine vzC ?_; rfl) | (with_reducible first | (refine vzZ ?_; constructor) | refine vzC ?_ | refine vzB [] ?_ ?_ ?_ | refine vzD ?_ ?_ | refine vc_ret [] [] ?_) | ((with_reducible first | refine vzE (fun h => ?_) (fun h => ?_) | refine vzF (fun h => ?_) (fun h => ?_)) <;> try (exfalso; omega)) | ((with_reducible refine vzG (fun h => ?_) (fun h => ?_)) <;> (try simp only [Go.Sym.vs1, reduceCtorEq] at h) <;> try (exfalso; first | omega | (simp at h; done))) | ((conv in Vc _ => arg 1; whnf); first | (with_reducible refine vzC ?_; rfl) | (with_reducible first | (refine vzZ ?_; constructor) | refine vzC ?_ | refine vzB [] ?_ ?_ ?_ | refine vzD ?_ ?_ | refine vc_ret [] [] ?_) | ((with_reducible first | refine vzE (fun h => ?_) (fun h => ?_) | refine vzF (fun h => ?_) (fun h => ?_)) <;> try (exfalso; omega)) | ((with_reducible refine vzG (fun h => ?_) (fun h => ?_)) <;> (try simp only [Go.Sym.vs1, reduceCtorEq] at h) <;> try (exfalso; first | omega | (simp at h; done)))))
  all_goals first
    | rfl
    | ((repeat' apply And.intro) <;> first | trivial | decide)
theorem first_ok : LocalCall Try.prog 103 [] [] [] (one [.d (.arr 8 1 (sFirst.map wD))]) [] := by
  refine vc_fn mixed Try.func103 rfl rfl [] (vzH rfl) ?_
  repeat' (first | ((with_reducible refine vzH ?_); first | decide +kernel | rfl) | (with_reducible refine vzC ?_; rfl) | (with_reducible first | (refine vzZ ?_; constructor) | refine vzC ?_ | refine vzB [] ?_ ?_ ?_ | refine vzD ?_ ?_ | refine vc_ret [] [] ?_) | ((with_reducible first | refine vzE (fun h => ?_) (fun h => ?_) | refine vzF (fun h => ?_) (fun h => ?_)) <;> try (exfalso; omega)) | ((with_reducible refine vzG (fun h => ?_) (fun h => ?_)) <;> (try simp only [Go.Sym.vs1, reduceCtorEq] at h) <;> try (exfalso; first | omega | (simp at h; done))) | ((conv in Vc _ => arg 1; whnf); first | (with_reducible refine vzC ?_; rfl) | (with_reducible first | (refine vzZ ?_; constructor) | refine vzC ?_ | refine vzB [] ?_ ?_ ?_ | refine vzD ?_ ?_ | refine vc_ret [] [] ?_) | ((with_reducible first | refine vzE (fun h => ?_) (fun h => ?_) | refine vzF (fun h => ?_) (fun h => ?_)) <;> try (exfalso; omega)) | ((with_reducible refine vzG (fun h => ?_) (fun h => ?_)) <;> (try simp only [Go.Sym.vs1, reduceCtorEq] at h) <;> try (exfalso; first | omega | (simp at h; done)))))
  all_goals first
    | rfl
    | ((repeat' apply And.intro) <;> first | trivial | decide)
def hsh (h : List W32) (bl : List UInt8) (hv n : Nat) : AObj := .var (.d (.st [.arr 8 1 (h.map wD), .arr 64 1 (bl.map byteD), .int .i64 (hv : Int), .int .u64 (n : Int)]))
def zero64 : List UInt8 := List.replicate 64 0
theorem new_ok : LocalCall Try.prog 106 [] [] [9] (one [.ptr 9 []]) [(9, hsh sFirst zero64 0 0)] := by
  refine vc_fn mixed Try.func106 rfl rfl [] (vzH rfl) ?_
  repeat' (first | ((with_reducible refine vzH ?_); first | decide +kernel | rfl) | (with_reducible refine vzC ?_; rfl) | (with_reducible first | (refine vzZ ?_; constructor) | refine vzC ?_ | refine vc_ret [] [(9, 2008)] ?_ | refine vzB [] ?_ ?_ ?_ | refine vzD ?_ ?_ | refine vc_ret [] [] ?_) | ((with_reducible first | refine vzE (fun h => ?_) (fun h => ?_) | refine vzF (fun h => ?_) (fun h => ?_)) <;> try (exfalso; omega)) | ((with_reducible refine vzG (fun h => ?_) (fun h => ?_)) <;> (try simp only [Go.Sym.vs1, reduceCtorEq] at h) <;> try (exfalso; first | omega | (simp at h; done))) | ((conv in Vc _ => arg 1; whnf); first | (with_reducible refine vzC ?_; rfl) | (with_reducible first | (refine vzZ ?_; constructor) | refine vzC ?_ | refine vc_ret [] [(9, 2008)] ?_ | refine vzB [] ?_ ?_ ?_ | refine vzD ?_ ?_ | refine vc_ret [] [] ?_) | ((with_reducible first | refine vzE (fun h => ?_) (fun h => ?_) | refine vzF (fun h => ?_) (fun h => ?_)) <;> try (exfalso; omega)) | ((with_reducible refine vzG (fun h => ?_) (fun h => ?_)) <;> (try simp only [Go.Sym.vs1, reduceCtorEq] at h) <;> try (exfalso; first | omega | (simp at h; done)))))
  all_goals first
    | rfl
    | ((repeat' apply And.intro) <;> first | trivial | decide)
theorem word_ok (h : List W32) (bl : List UInt8) (hv n : Nat) (hb : bl.length = 64) (t : Nat) (ht : t < 16) :
    LocalCall Try.prog 119 [.sl 9 [.fld 1 8] 1 (4 * t) (64 - 4 * t)] [(9, hsh h bl hv n)] [] (one [.d (.int .u32 (wI (wordAt bl t)))]) [] := by
  have hg : ∀ k, k < 64 → ((bl.map byteD).getD k .nilp) = .int .u8 ((bl.getD k 0).toNat : Int) := fun k hk => by rw [getD_byte (by omega)]; rfl
  refine vc_fn mixed Try.func119 rfl rfl [] (vzH rfl) ?_
  repeat' (first | ((with_reducible refine vzH ?_); first | decide +kernel | rfl) | (with_reducible refine vzC ?_; rfl) | (with_reducible first | (refine vzZ ?_; constructor) | refine vzC ?_ | refine vzB [] ?_ ?_ ?_ | refine vzD ?_ ?_ | refine vc_ret [] [] ?_) | ((with_reducible first | refine vzE (fun h => ?_) (fun h => ?_) | refine vzF (fun h => ?_) (fun h => ?_)) <;> try (exfalso; omega)) | ((with_reducible refine vzG (fun h => ?_) (fun h => ?_)) <;> (try simp only [Go.Sym.vs1, reduceCtorEq] at h) <;> try (exfalso; first | omega | (simp at h; done))) | ((conv in Vc _ => arg 1; whnf); first | (with_reducible refine vzC ?_; rfl) | (with_reducible first | (refine vzZ ?_; constructor) | refine vzC ?_ | refine vzB [] ?_ ?_ ?_ | refine vzD ?_ ?_ | refine vc_ret [] [] ?_) | ((with_reducible first | refine vzE (fun h => ?_) (fun h => ?_) | refine vzF (fun h => ?_) (fun h => ?_)) <;> try (exfalso; omega)) | ((with_reducible refine vzG (fun h => ?_) (fun h => ?_)) <;> (try simp only [Go.Sym.vs1, reduceCtorEq] at h) <;> try (exfalso; first | omega | (simp at h; done)))))
  all_goals (try simp only [show Int.toNat 0 = 0 from rfl, show Int.toNat 1 = 1 from rfl, show Int.toNat 2 = 2 from rfl, show Int.toNat 3 = 3 from rfl, Nat.add_zero])
  all_goals first
    | exact ⟨by omega, by omega⟩
    | (show (0 : Int) ≤ _; omega)
    | (rw [hg _ (by omega)]; exact ⟨⟨by omega, trivial⟩, rfl⟩)
    | (rw [hg _ (by omega), hg _ (by omega), hg _ (by omega), hg _ (by omega)]
       simp only [D.toInt, bW_wrap]
       have s1 : ∀ x : W32, shlI .u32 (wI x) 24 = wI (x <<< 24) := fun x => w_shl x (k := 24) (by omega)
       have s2 : ∀ x : W32, shlI .u32 (wI x) 16 = wI (x <<< 16) := fun x => w_shl x (k := 16) (by omega)
       have s3 : ∀ x : W32, shlI .u32 (wI x) 8 = wI (x <<< 8) := fun x => w_shl x (k := 8) (by omega)
       rw [s1, s2, s3, w_or, w_or, w_or, word4_or]
       rfl)
end Go.Proofs.Ytjgkngjeniameaa

namespace Go.Proofs.Ytjgkngjeniameaa
open Go.Sym
set_option maxRecDepth 10000
set_option maxHeartbeats 8000000
def padW (ws : List W32) : List D := ws.map wD ++ List.replicate (64 - ws.length) (.int .u32 0)
theorem padW_set {ws : List W32} (h : ws.length < 64) (x : W32) : (padW ws).set ws.length (wD x) = padW (ws ++ [x]) := by
  unfold padW
  rw [List.set_append_right _ _ (by rw [List.length_map]; omega), List.length_map, Nat.sub_self]
  rw [show 64 - ws.length = (64 - (ws ++ [x]).length) + 1 by simp; omega, List.replicate_succ, List.set_cons_zero, List.map_append, List.append_assoc]
  rfl
theorem padW_get {ws : List W32} {k : Nat} (h : k < ws.length) : (padW ws).getD k .nilp = wD (ws.getD k 0) := by
  unfold padW
  rw [List.getD_eq_getElem?_getD, List.getElem?_append_left (by rw [List.length_map]; exact h), List.getElem?_map, List.getD_eq_getElem?_getD, List.getElem?_eq_getElem h]; rfl
theorem padW_full {ws : List W32} (h : ws.length = 64) : padW ws = ws.map wD := by
  unfold padW
  rw [h]; simp
theorem words_next (bl : List UInt8) (t : Nat) : (List.range t).map (wordAt bl) ++ [wordAt bl t] = (List.range (t + 1)).map (wordAt bl) := by
  rw [List.range_succ]; simp
theorem spread_ok (hs : List W32) (bl : List UInt8) (hv n : Nat) (hb : bl.length = 64) :
    LocalCall Try.prog 116 [.ptr 9 [.fld 1 8]] [(9, hsh hs bl hv n)] [] (one [.d (.arr 64 1 ((sched bl 48).map wD))]) [] := by
  have r0 : ∀ (m k : Nat), k < 16 + m → (padW (sched bl m)).getD k .nilp = wD ((sched bl m).getD k 0) := fun m k hk => padW_get (by rw [sched_length]; exact hk)
  have r1 : ∀ m : Nat, m < 48 → IntKind.i64.wrap (((16 + m : Nat) : Int) - 15) = ((m + 1 : Nat) : Int) := fun m hm => by rw [wrap64_id (by omega) (by omega)]; omega
  have r2 : ∀ m : Nat, m < 48 → IntKind.i64.wrap (((16 + m : Nat) : Int) - 2) = ((m + 14 : Nat) : Int) := fun m hm => by rw [wrap64_id (by omega) (by omega)]; omega
  have r3 : ∀ m : Nat, m < 48 → IntKind.i64.wrap (((16 + m : Nat) : Int) - 16) = ((m : Nat) : Int) := fun m hm => by rw [wrap64_id (by omega) (by omega)]; omega
  have r4 : ∀ m : Nat, m < 48 → IntKind.i64.wrap (((16 + m : Nat) : Int) - 7) = ((m + 9 : Nat) : Int) := fun m hm => by rw [wrap64_id (by omega) (by omega)]; omega
  have ga : ∀ m : Nat, m < 48 → ((padW (sched bl m)).getD (IntKind.i64.wrap (((16 + m : Nat) : Int) - 15)).toNat .nilp).toInt = wI ((sched bl m).getD (m + 1) 0) := fun m hm => by rw [r1 m hm, Int.toNat_natCast, r0 m _ (by omega)]; rfl
  have gb : ∀ m : Nat, m < 48 → ((padW (sched bl m)).getD (IntKind.i64.wrap (((16 + m : Nat) : Int) - 2)).toNat .nilp).toInt = wI ((sched bl m).getD (m + 14) 0) := fun m hm => by rw [r2 m hm, Int.toNat_natCast, r0 m _ (by omega)]; rfl
  have gc : ∀ m : Nat, m < 48 → ((padW (sched bl m)).getD (IntKind.i64.wrap (((16 + m : Nat) : Int) - 16)).toNat .nilp).toInt = wI ((sched bl m).getD m 0) := fun m hm => by rw [r3 m hm, Int.toNat_natCast, r0 m _ (by omega)]; rfl
  have gd : ∀ m : Nat, m < 48 → ((padW (sched bl m)).getD (IntKind.i64.wrap (((16 + m : Nat) : Int) - 7)).toNat .nilp).toInt = wI ((sched bl m).getD (m + 9) 0) := fun m hm => by rw [r4 m hm, Int.toNat_natCast, r0 m _ (by omega)]; rfl
  have r5 : ∀ t : Nat, t < 16 → IntKind.i64.wrap (4 * (t : Int)) = ((4 * t : Nat) : Int) := fun t ht => by rw [wrap64_id (by omega) (by omega)]; omega
  have r6 : ∀ t : Nat, t < 16 → (padW ((List.range t).map (wordAt bl))).set t (D.int .u32 (wI (wordAt bl t))) = padW ((List.range (t + 1)).map (wordAt bl)) := fun t ht => by
    have := padW_set (ws := (List.range t).map (wordAt bl)) (by simp; omega) (wordAt bl t)
    rw [words_next] at this
    simpa [wD] using this
  have r7 : ∀ m : Nat, m < 48 → (padW (sched bl m)).set (16 + m) (D.int .u32 (wI ((sched bl m).getD m 0 + (rotr ((sched bl m).getD (m + 1) 0) 7 ^^^ rotr ((sched bl m).getD (m + 1) 0) 18 ^^^ (sched bl m).getD (m + 1) 0 >>> 3) + (sched bl m).getD (m + 9) 0 + (rotr ((sched bl m).getD (m + 14) 0) 17 ^^^ rotr ((sched bl m).getD (m + 14) 0) 19 ^^^ (sched bl m).getD (m + 14) 0 >>> 10)))) = padW (sched bl (m + 1)) := fun m hm => by
    have := padW_set (ws := sched bl m) (by rw [sched_length]; omega) ((sched bl m).getD m 0 + low3 ((sched bl m).getD (m + 1) 0) + (sched bl m).getD (m + 9) 0 + high3 ((sched bl m).getD (m + 14) 0))
    rw [sched_length] at this
    exact this
  refine vc_fn mixed Try.func116 rfl rfl [] (vzH rfl) ?_
  repeat' (first | ((with_reducible refine vzH ?_); first | decide +kernel | rfl) | (with_reducible refine vzC ?_; rfl) | (with_reducible first | (refine vzZ ?_; constructor) | refine vzC ?_ | refine vc_loopI (y := .seq (.region 3 _ _) _) 66 (fun (t : Nat) => [(0, .ptr 9 [.fld 1 8]), (2, .ptr 1000 []), (3, .ptr 2000 []), (10, .d (.int .i64 (t : Int)))]) (fun t => [(9, hsh hs bl hv n), (1000, .var (.d (.arr 64 1 (List.replicate 64 (.int .u32 0))))), (2000, .var (.d (.arr 64 1 (padW ((List.range t).map (wordAt bl))))))]) (fun t => 16 - t) (fun t => t ≤ 16) 0 [] ?_ ?_ ?_ ?_ ?_ (fun t hI => ?_) | refine vc_call [] (word_ok hs bl hv n hb t (by omega)) ?_ | refine vc_nextI (t + 1) [] ?_ ?_ ?_ ?_ ?_ ?_ | refine vc_loopI (y := .seq (.seq (.region 8 _ _) _) _) 66 (fun (t : Nat) => [(2, .ptr 1000 []), (3, .ptr 2000 []), (5, .d (.int .i64 ((16 + t : Nat) : Int)))]) (fun t => [(9, hsh hs bl hv n), (1000, .var (.d (.arr 64 1 (List.replicate 64 (.int .u32 0))))), (2000, .var (.d (.arr 64 1 (padW (sched bl t)))))]) (fun t => 48 - t) (fun t => t ≤ 48) 0 [] ?_ ?_ ?_ ?_ ?_ (fun t hM => ?_) | refine vc_pure (rot_ok (ga t (by omega)) (-7) 7 (by decide) (by decide) (by decide)) ?_ ?_ ?_ | refine vc_pure (rot_ok (ga t (by omega)) (-18) 18 (by decide) (by decide) (by decide)) ?_ ?_ ?_ | refine vc_pure (rot_ok (gb t (by omega)) (-17) 17 (by decide) (by decide) (by decide)) ?_ ?_ ?_ | refine vc_pure (rot_ok (gb t (by omega)) (-19) 19 (by decide) (by decide) (by decide)) ?_ ?_ ?_ | refine vzB [] ?_ ?_ ?_ | refine vzD ?_ ?_ | refine vc_ret [] [] ?_) | ((with_reducible first | refine vzE (fun h => ?_) (fun h => ?_) | refine vzF (fun h => ?_) (fun h => ?_)) <;> try (exfalso; omega)) | ((with_reducible refine vzG (fun h => ?_) (fun h => ?_)) <;> (try simp only [Go.Sym.vs1, reduceCtorEq] at h) <;> try (exfalso; first | omega | (simp at h; done))) | ((conv in Vc _ => arg 1; whnf); first | (with_reducible refine vzC ?_; rfl) | (with_reducible first | (refine vzZ ?_; constructor) | refine vzC ?_ | refine vc_loopI (y := .seq (.region 3 _ _) _) 66 (fun (t : Nat) => [(0, .ptr 9 [.fld 1 8]), (2, .ptr 1000 []), (3, .ptr 2000 []), (10, .d (.int .i64 (t : Int)))]) (fun t => [(9, hsh hs bl hv n), (1000, .var (.d (.arr 64 1 (List.replicate 64 (.int .u32 0))))), (2000, .var (.d (.arr 64 1 (padW ((List.range t).map (wordAt bl))))))]) (fun t => 16 - t) (fun t => t ≤ 16) 0 [] ?_ ?_ ?_ ?_ ?_ (fun t hI => ?_) | refine vc_call [] (word_ok hs bl hv n hb t (by omega)) ?_ | refine vc_nextI (t + 1) [] ?_ ?_ ?_ ?_ ?_ ?_ | refine vc_loopI (y := .seq (.seq (.region 8 _ _) _) _) 66 (fun (t : Nat) => [(2, .ptr 1000 []), (3, .ptr 2000 []), (5, .d (.int .i64 ((16 + t : Nat) : Int)))]) (fun t => [(9, hsh hs bl hv n), (1000, .var (.d (.arr 64 1 (List.replicate 64 (.int .u32 0))))), (2000, .var (.d (.arr 64 1 (padW (sched bl t)))))]) (fun t => 48 - t) (fun t => t ≤ 48) 0 [] ?_ ?_ ?_ ?_ ?_ (fun t hM => ?_) | refine vc_pure (rot_ok (ga t (by omega)) (-7) 7 (by decide) (by decide) (by decide)) ?_ ?_ ?_ | refine vc_pure (rot_ok (ga t (by omega)) (-18) 18 (by decide) (by decide) (by decide)) ?_ ?_ ?_ | refine vc_pure (rot_ok (gb t (by omega)) (-17) 17 (by decide) (by decide) (by decide)) ?_ ?_ ?_ | refine vc_pure (rot_ok (gb t (by omega)) (-19) 19 (by decide) (by decide) (by decide)) ?_ ?_ ?_ | refine vzB [] ?_ ?_ ?_ | refine vzD ?_ ?_ | refine vc_ret [] [] ?_) | ((with_reducible first | refine vzE (fun h => ?_) (fun h => ?_) | refine vzF (fun h => ?_) (fun h => ?_)) <;> try (exfalso; omega)) | ((with_reducible refine vzG (fun h => ?_) (fun h => ?_)) <;> (try simp only [Go.Sym.vs1, reduceCtorEq] at h) <;> try (exfalso; first | omega | (simp at h; done)))))
  all_goals (try dsimp only)
  all_goals first
    | with_reducible rfl
    | omega
    | (show (0 : Int) ≤ _; decide)
    | exact ⟨by omega, by omega⟩
    | (show D.int .i64 _ = D.int .i64 _; first | rfl | (congr 1; rw [wrap64_id (by omega) (by omega)]; omega))
    | skip
  all_goals first
    | (have hm := hM
       first
       | (obtain rfl : t = 48 := by omega
          rw [padW_full (sched_length bl 48)]; done)
       | (simp only [r1 t (by omega), r2 t (by omega), r3 t (by omega), r4 t (by omega), Int.toNat_natCast]
          first
          | exact ⟨by omega, by omega⟩
          | (rw [r0 t _ (by omega)]; exact ⟨⟨by omega, trivial⟩, rfl⟩))
       | (rw [ga t (by omega), gb t (by omega), gc t (by omega), gd t (by omega)]
          have s1 : ∀ x : W32, shrI .u32 (wI x) 3 = wI (x >>> 3) := fun x => w_shr x (k := 3) (by omega)
          have s2 : ∀ x : W32, shrI .u32 (wI x) 10 = wI (x >>> 10) := fun x => w_shr x (k := 10) (by omega)
          simp only [s1, s2, w_xor, w_add, Int.toNat_natCast]
          exact congrArg (D.arr 64 1) (r7 t (by omega)))
       | skip)
    | (have ht := hI
       first
       | (rw [r5 t (by omega)]; first | omega | exact ⟨⟨by omega, by omega, by omega⟩, trivial⟩)
       | (rw [Int.toNat_natCast]; exact congrArg (D.arr 64 1) (r6 t (by omega)))
       | (have e : t = 16 := by omega
          subst e
          exact congrArg (D.arr 64 1) rfl)
       | skip)
    | rfl
    | skip
end Go.Proofs.Ytjgkngjeniameaa

namespace Go.Proofs.Ytjgkngjeniameaa
open Go.Sym
set_option maxRecDepth 10000
set_option maxHeartbeats 8000000
theorem words8 {v : List W32} (h : v.length = 8) : ∃ a b c d e f g i, v = [a, b, c, d, e, f, g, i] := by
  match v, h with
  | [a, b, c, d, e, f, g, i], _ => exact ⟨a, b, c, d, e, f, g, i, rfl⟩
theorem w8_get {v : List W32} (k : Nat) (hk : k < v.length) : (v.map wD).getD k .nilp = wD (v.getD k 0) := by
  rw [List.getD_eq_getElem?_getD, List.getElem?_map, List.getD_eq_getElem?_getD, List.getElem?_eq_getElem hk]; rfl
def over8 (v : List W32) : List D := overD (v.map wD) ((v.map wD).take 7) 1 7
theorem over8_four {v : List W32} (h : v.length = 8) : (over8 v).getD 4 .nilp = wD (v.getD 3 0) := by
  obtain ⟨a, b, c, d, e, f, g, i, rfl⟩ := words8 h
  rfl
theorem over8_set {v : List W32} (h : v.length = 8) (x y : W32) : ((over8 v).set 0 (wD x)).set 4 (wD y) = [x, v.getD 0 0, v.getD 1 0, v.getD 2 0, y, v.getD 4 0, v.getD 5 0, v.getD 6 0].map wD := by
  obtain ⟨a, b, c, d, e, f, g, i, rfl⟩ := words8 h
  rfl
theorem addW_get (h v : List W32) {i : Nat} (hi : i < 8) : (addW h v i).getD i 0 = h.getD i 0 := by
  unfold addW
  rw [List.getD_eq_getElem?_getD, List.getElem?_map, List.getElem?_range hi]
  simp
theorem addW_length (h v : List W32) (i : Nat) : (addW h v i).length = 8 := by simp [addW]
theorem addW_set (h v : List W32) {i : Nat} (hi : i < 8) : ((addW h v i).map wD).set i (wD (h.getD i 0 + v.getD i 0)) = (addW h v (i + 1)).map wD := by
  rw [← List.map_set]
  congr 1
  apply List.ext_getElem?
  intro k
  unfold addW
  rw [List.getElem?_set]
  by_cases hk : i = k
  · subst hk
    simp [hi]
  · rw [if_neg hk, List.getElem?_map, List.getElem?_map]
    by_cases h8 : k < 8
    · rw [List.getElem?_range h8]
      have : decide (k < i) = decide (k < i + 1) := by
        by_cases h1 : k < i
        · rw [decide_eq_true h1, decide_eq_true (show k < i + 1 by omega)]
        · rw [decide_eq_false h1, decide_eq_false (show ¬ k < i + 1 by omega)]
      simp [this]
    · rw [List.getElem?_eq_none (by simpa using h8)]; rfl
theorem addW_zero {h : List W32} (v : List W32) (hh : h.length = 8) : addW h v 0 = h := by
  obtain ⟨a, b, c, d, e, f, g, i, rfl⟩ := words8 hh
  rfl
theorem over8_eq {v : List W32} (h : v.length = 8) : overD (v.map wD) (List.take (7 - 0) (List.drop 0 (v.map wD))) 1 (min (List.take (7 - 0) (List.drop 0 (v.map wD))).length (8 - 1)) = over8 v := by
  obtain ⟨a, b, c, d, e, f, g, i, rfl⟩ := words8 h
  rfl
theorem n0 : Int.toNat 0 = 0 := rfl
theorem n1 : Int.toNat 1 = 1 := rfl
theorem n2 : Int.toNat 2 = 2 := rfl
theorem n3 : Int.toNat 3 = 3 := rfl
theorem n4 : Int.toNat 4 = 4 := rfl
theorem n5 : Int.toNat 5 = 5 := rfl
theorem n6 : Int.toNat 6 = 6 := rfl
theorem n7 : Int.toNat 7 = 7 := rfl
theorem n8 : (((8 : Nat) : Int)).toNat = 8 := rfl
theorem mix_ok (hs : List W32) (bl : List UInt8) (hv n : Nat) (hh : hs.length = 8) (hb : bl.length = 64) :
    LocalCall Try.prog 113 [.ptr 9 []] [(9, hsh hs bl hv n)] [] (one []) [(9, hsh (sblock hs bl) bl 0 n)] := by
  have hV : ∀ t, (srounds sK (sched bl 48) hs t).length = 8 := srounds_length _ _ hh
  have g : ∀ t k, k < 8 → ((srounds sK (sched bl 48) hs t).map wD).getD k .nilp = wD ((srounds sK (sched bl 48) hs t).getD k 0) := fun t k hk => w8_get k (by rw [hV]; exact hk)
  have g0 : ∀ t, (((srounds sK (sched bl 48) hs t).map wD).getD (Int.toNat 0) .nilp).toInt = wI ((srounds sK (sched bl 48) hs t).getD 0 0) := fun t => by rw [show Int.toNat 0 = 0 from rfl, g t 0 (by omega)]; rfl
  have g4 : ∀ t, (((srounds sK (sched bl 48) hs t).map wD).getD (Int.toNat 4) .nilp).toInt = wI ((srounds sK (sched bl 48) hs t).getD 4 0) := fun t => by rw [show Int.toNat 4 = 4 from rfl, g t 4 (by omega)]; rfl
  refine vc_fn mixed Try.func113 rfl rfl [] (vzH rfl) ?_
  repeat' (first | ((with_reducible refine vzH ?_); first | decide +kernel | rfl) | (with_reducible refine vzC ?_; rfl) | (with_reducible first | (refine vzZ ?_; constructor) | refine vzC ?_ | refine vc_call [] (spread_ok hs bl hv n hb) ?_ | refine vc_pure factors_ok ?_ ?_ ?_ | refine vc_loopI (y := .seq (.region 2 _ _) _) 115 (fun (t : Nat) => [(0, .ptr 9 []), (2, .ptr 1036 []), (3, .ptr 1040 []), (4, .ptr 1044 []), (21, .d (.int .i64 (t : Int)))]) (fun t => [(9, hsh hs bl hv n), (1036, .var (.d (.arr 64 1 ((sched bl 48).map wD)))), (1040, .var (.d (.arr 64 1 (sK.map wD)))), (1044, .var (.d (.arr 8 1 ((srounds sK (sched bl 48) hs t).map wD))))]) (fun t => 64 - t) (fun t => t ≤ 64) 0 [] ?_ ?_ ?_ ?_ ?_ (fun t hI => ?_) | refine vc_loopI (y := .seq (.region 11 _ _) _) 115 (fun (t : Nat) => [(0, .ptr 9 []), (95, .d (.arr 8 1 ((srounds sK (sched bl 48) hs 64).map wD))), (96, .d (.int .i64 (t : Int)))]) (fun t => [(9, hsh (addW hs (srounds sK (sched bl 48) hs 64) t) bl hv n)]) (fun t => 8 - t) (fun t => t ≤ 8) 0 [] ?_ ?_ ?_ ?_ ?_ (fun t hM => ?_) | refine vc_nextI (t + 1) [] ?_ ?_ ?_ ?_ ?_ ?_ | refine vc_pure (rot_ok (g0 t) (-2) 2 (by decide) (by decide) (by decide)) ?_ ?_ ?_ | refine vc_pure (rot_ok (g0 t) (-13) 13 (by decide) (by decide) (by decide)) ?_ ?_ ?_ | refine vc_pure (rot_ok (g0 t) (-22) 22 (by decide) (by decide) (by decide)) ?_ ?_ ?_ | refine vc_pure (rot_ok (g4 t) (-6) 6 (by decide) (by decide) (by decide)) ?_ ?_ ?_ | refine vc_pure (rot_ok (g4 t) (-11) 11 (by decide) (by decide) (by decide)) ?_ ?_ ?_ | refine vc_pure (rot_ok (g4 t) (-25) 25 (by decide) (by decide) (by decide)) ?_ ?_ ?_ | refine vzB [] ?_ ?_ ?_ | refine vzD ?_ ?_ | refine vc_ret [] [] ?_) | ((with_reducible first | refine vzE (fun h => ?_) (fun h => ?_) | refine vzF (fun h => ?_) (fun h => ?_)) <;> try (exfalso; omega)) | ((with_reducible refine vzG (fun h => ?_) (fun h => ?_)) <;> (try simp only [Go.Sym.vs1, reduceCtorEq] at h) <;> try (exfalso; first | omega | (simp at h; done))) | ((conv in Vc _ => arg 1; whnf); first | (with_reducible refine vzC ?_; rfl) | (with_reducible first | (refine vzZ ?_; constructor) | refine vzC ?_ | refine vc_call [] (spread_ok hs bl hv n hb) ?_ | refine vc_pure factors_ok ?_ ?_ ?_ | refine vc_loopI (y := .seq (.region 2 _ _) _) 115 (fun (t : Nat) => [(0, .ptr 9 []), (2, .ptr 1036 []), (3, .ptr 1040 []), (4, .ptr 1044 []), (21, .d (.int .i64 (t : Int)))]) (fun t => [(9, hsh hs bl hv n), (1036, .var (.d (.arr 64 1 ((sched bl 48).map wD)))), (1040, .var (.d (.arr 64 1 (sK.map wD)))), (1044, .var (.d (.arr 8 1 ((srounds sK (sched bl 48) hs t).map wD))))]) (fun t => 64 - t) (fun t => t ≤ 64) 0 [] ?_ ?_ ?_ ?_ ?_ (fun t hI => ?_) | refine vc_loopI (y := .seq (.region 11 _ _) _) 115 (fun (t : Nat) => [(0, .ptr 9 []), (95, .d (.arr 8 1 ((srounds sK (sched bl 48) hs 64).map wD))), (96, .d (.int .i64 (t : Int)))]) (fun t => [(9, hsh (addW hs (srounds sK (sched bl 48) hs 64) t) bl hv n)]) (fun t => 8 - t) (fun t => t ≤ 8) 0 [] ?_ ?_ ?_ ?_ ?_ (fun t hM => ?_) | refine vc_nextI (t + 1) [] ?_ ?_ ?_ ?_ ?_ ?_ | refine vc_pure (rot_ok (g0 t) (-2) 2 (by decide) (by decide) (by decide)) ?_ ?_ ?_ | refine vc_pure (rot_ok (g0 t) (-13) 13 (by decide) (by decide) (by decide)) ?_ ?_ ?_ | refine vc_pure (rot_ok (g0 t) (-22) 22 (by decide) (by decide) (by decide)) ?_ ?_ ?_ | refine vc_pure (rot_ok (g4 t) (-6) 6 (by decide) (by decide) (by decide)) ?_ ?_ ?_ | refine vc_pure (rot_ok (g4 t) (-11) 11 (by decide) (by decide) (by decide)) ?_ ?_ ?_ | refine vc_pure (rot_ok (g4 t) (-25) 25 (by decide) (by decide) (by decide)) ?_ ?_ ?_ | refine vzB [] ?_ ?_ ?_ | refine vzD ?_ ?_ | refine vc_ret [] [] ?_) | ((with_reducible first | refine vzE (fun h => ?_) (fun h => ?_) | refine vzF (fun h => ?_) (fun h => ?_)) <;> try (exfalso; omega)) | ((with_reducible refine vzG (fun h => ?_) (fun h => ?_)) <;> (try simp only [Go.Sym.vs1, reduceCtorEq] at h) <;> try (exfalso; first | omega | (simp at h; done)))))
  all_goals (try dsimp only)
  all_goals first
    | with_reducible rfl
    | omega
    | exact ⟨by omega, by omega⟩
    | exact ⟨⟨by omega, by omega, by omega⟩, trivial⟩
    | (show D.int .i64 _ = D.int .i64 _; first | rfl | (congr 1; rw [wrap64_id (by omega) (by omega)]; omega))
    | skip
  all_goals first
    | (have hm := hM
       first
       | (have ht : t < 8 := by omega
          rw [Int.toNat_natCast, w8_get t (by rw [hV]; exact ht)]
          exact ⟨⟨by omega, by omega⟩, rfl⟩)
       | (have ht : t < 8 := by omega
          rw [Int.toNat_natCast, w8_get t (by rw [addW_length]; exact ht)]
          exact ⟨⟨by omega, trivial⟩, rfl⟩)
       | (have ht : t < 8 := by omega
          have a1 := w8_get (v := srounds sK (sched bl 48) hs 64) t (by rw [hV]; exact ht)
          have a2 := w8_get (v := addW hs (srounds sK (sched bl 48) hs 64) t) t (by rw [addW_length]; exact ht)
          rw [Int.toNat_natCast, a1, a2, addW_get _ _ ht]
          have e1 : (wD (hs.getD t 0)).toInt = wI (hs.getD t 0) := rfl
          have e2 : (wD ((srounds sK (sched bl 48) hs 64).getD t 0)).toInt = wI ((srounds sK (sched bl 48) hs 64).getD t 0) := rfl
          rw [e1, e2, w_add]
          have e3 := addW_set hs (srounds sK (sched bl 48) hs 64) ht
          have e4 : wD (hs.getD t 0 + (srounds sK (sched bl 48) hs 64).getD t 0) = D.int .u32 (wI (hs.getD t 0 + (srounds sK (sched bl 48) hs 64).getD t 0)) := rfl
          rw [← e4, e3]; done)
       | (have e : t = 8 := by omega
          subst e
          rfl)
       | skip)
    | (have ht := hI
       (try simp only [n0, n1, n2, n3, n4, n5, n6, n7, n8, over8_eq (hV t), Int.toNat_natCast])
       first
       | (rw [g t _ (by omega)]; exact ⟨⟨by omega, trivial⟩, rfl⟩)
       | (rw [w8_get t (by rw [sched_length]; omega)]; exact ⟨⟨by omega, trivial⟩, rfl⟩)
       | (rw [w8_get t (show t < sK.length from (by omega : t < 64))]; exact ⟨⟨by omega, trivial⟩, rfl⟩)
       | (rw [over8_four (hV t)]; exact ⟨⟨by omega, trivial⟩, rfl⟩)
       | (refine ⟨⟨⟨⟨trivial, ?_⟩, trivial, trivial⟩, ?_⟩, fun y hy => ?_⟩
          · rw [List.length_map, hV t]; omega
          · rw [List.length_map, hV t]; omega
          · obtain ⟨c, _, rfl⟩ := List.mem_map.1 (List.mem_of_mem_drop (List.mem_of_mem_take hy)); rfl)
       | (have gi : ∀ k, k < 8 → (((srounds sK (sched bl 48) hs t).map wD).getD k .nilp).toInt = wI ((srounds sK (sched bl 48) hs t).getD k 0) := fun k hk => by rw [g t k hk]; rfl
          have gk : ((sK.map wD).getD t .nilp).toInt = wI (sK.getD t 0) := by rw [w8_get t (show t < sK.length from (by omega : t < 64))]; rfl
          have gw : (((sched bl 48).map wD).getD t .nilp).toInt = wI ((sched bl 48).getD t 0) := by rw [w8_get t (by rw [sched_length]; omega)]; rfl
          have go : ((over8 (srounds sK (sched bl 48) hs t)).getD 4 .nilp).toInt = wI ((srounds sK (sched bl 48) hs t).getD 3 0) := by rw [over8_four (hV t)]; rfl
          simp only [gi 0 (by omega), gi 1 (by omega), gi 2 (by omega), gi 4 (by omega), gi 5 (by omega), gi 6 (by omega), gi 7 (by omega), gk, gw, go, w_not, w_xor, w_and, w_add]
          exact congrArg (D.arr 8 1) (over8_set (hV t) _ _))
       | (have e : t = 64 := by omega
          subst e
          first
          | with_reducible rfl
          | (rw [addW_zero _ hh]; done))
       | skip)
    | with_reducible rfl
    | exact congrArg (D.arr 8 1) rfl
    | skip
end Go.Proofs.Ytjgkngjeniameaa

namespace Go.Proofs.Ytjgkngjeniameaa
open Go.Sym
set_option maxRecDepth 10000
set_option maxHeartbeats 8000000
def blk (bl b : List UInt8) (hv n : Nat) : List UInt8 := bl.take hv ++ b.take n ++ bl.drop (hv + n)
theorem blk_length {bl b : List UInt8} {hv n : Nat} (hb : bl.length = 64) (hn : n ≤ b.length) (h : hv + n ≤ 64) : (blk bl b hv n).length = 64 := by
  unfold blk; simp; omega
theorem blk_over (bl b : List UInt8) (hv n : Nat) : overD (bl.map byteD) (b.map byteD) hv n = (blk bl b hv n).map byteD := by
  unfold overD blk
  simp only [List.map_append, List.map_take, List.map_drop]
theorem sstate_more {m c : List UInt8} (h : m.length % 64 + c.length < 64) : sstate (m ++ c) = sstate m := by
  unfold sstate
  have e : m ++ c = m.take (m.length / 64 * 64) ++ (srest m ++ c) := by
    rw [← List.append_assoc]; congr 1
    exact (List.take_append_drop _ _).symm
  have hl : (m.take (m.length / 64 * 64)).length = m.length / 64 * 64 := by rw [List.length_take]; omega
  rw [e, sblocks_append _ _ _ (by rw [hl]; omega), sblocks_small (m := srest m ++ c) (by rw [List.length_append, srest_length]; omega), sblocks_rest _ m]
theorem sstate_block {m c : List UInt8} (h : m.length % 64 + c.length = 64) : sstate (m ++ c) = sblock (sstate m) (srest m ++ c) := by
  have hr : (srest m ++ c).length = 64 := by rw [List.length_append, srest_length]; exact h
  unfold sstate
  have e : m ++ c = m.take (m.length / 64 * 64) ++ (srest m ++ c) := by
    rw [← List.append_assoc]; congr 1
    exact (List.take_append_drop _ _).symm
  have hl : (m.take (m.length / 64 * 64)).length = m.length / 64 * 64 := by rw [List.length_take]; omega
  have t : (srest m ++ c).take 64 = srest m ++ c := List.take_of_length_le (by omega)
  have d : (srest m ++ c).drop 64 = [] := List.drop_of_length_le (by omega)
  rw [e, sblocks_append _ _ _ (by rw [hl]; omega), sblocks_big (m := srest m ++ c) (by omega), t, d, sblocks_small (m := []) (by simp), ← sblocks_rest]
theorem srest_more {m c : List UInt8} (h : m.length % 64 + c.length < 64) : srest (m ++ c) = srest m ++ c := by
  unfold srest
  have e : (m ++ c).length / 64 * 64 = m.length / 64 * 64 := by rw [List.length_append]; omega
  rw [e, List.drop_append_of_le_length (by omega)]
theorem srest_block {m c : List UInt8} (h : m.length % 64 + c.length = 64) : srest (m ++ c) = [] := by
  apply List.eq_nil_of_length_eq_zero
  rw [srest_length, List.length_append]; omega
def wrB (bl : List UInt8) (hv : Nat) (b : List UInt8) : List UInt8 :=
  if _h : b = [] ∨ 64 ≤ hv then bl else wrB (blk bl b hv (min b.length (64 - hv))) ((hv + min b.length (64 - hv)) % 64) (b.drop (min b.length (64 - hv)))
termination_by b.length
decreasing_by
  rw [List.length_drop]
  have h1 : 0 < b.length := List.length_pos_iff.2 (fun e => _h (.inl e))
  omega
theorem wrB_nil (bl : List UInt8) (hv : Nat) : wrB bl hv [] = bl := by rw [wrB, dif_pos (.inl rfl)]
theorem wrB_step {bl : List UInt8} {hv : Nat} {b : List UInt8} (h : 0 < b.length) (hh : hv < 64) : wrB bl hv b = wrB (blk bl b hv (min b.length (64 - hv))) ((hv + min b.length (64 - hv)) % 64) (b.drop (min b.length (64 - hv))) := by
  rw [wrB, dif_neg]
  rintro (rfl | h2)
  · simp at h
  · omega
structure WrI (M BL : List UInt8) (x : List UInt8 × List UInt8 × List UInt8) : Prop where
  e : wrB x.2.1 (x.1.length % 64) x.2.2 = BL
  m : x.1 ++ x.2.2 = M
  l : x.2.1.length = 64
  r : x.2.1.take (x.1.length % 64) = srest x.1
def wrN (x : List UInt8 × List UInt8 × List UInt8) : Nat := min x.2.2.length (64 - x.1.length % 64)
def wrX (x : List UInt8 × List UInt8 × List UInt8) : List UInt8 × List UInt8 × List UInt8 := (x.1 ++ x.2.2.take (wrN x), blk x.2.1 x.2.2 (x.1.length % 64) (wrN x), x.2.2.drop (wrN x))
theorem WrI.next {M BL : List UInt8} {x : List UInt8 × List UInt8 × List UInt8} (hI : WrI M BL x) (hb : 0 < x.2.2.length) : WrI M BL (wrX x) := by
  obtain ⟨m, bl, b⟩ := x
  obtain ⟨e, hm, l, r⟩ := hI
  simp only at e hm l r hb
  have hlt : m.length % 64 < 64 := Nat.mod_lt _ (by omega)
  have hn1 : min b.length (64 - m.length % 64) ≤ b.length := Nat.min_le_left _ _
  have hn2 : min b.length (64 - m.length % 64) ≤ 64 - m.length % 64 := Nat.min_le_right _ _
  have hl : (m ++ b.take (min b.length (64 - m.length % 64))).length % 64 = (m.length % 64 + min b.length (64 - m.length % 64)) % 64 := by
    rw [List.length_append, List.length_take]; omega
  refine ⟨?_, ?_, ?_, ?_⟩ <;> simp only [wrX, wrN]
  · rw [hl, ← wrB_step hb hlt]; exact e
  · rw [List.append_assoc, List.take_append_drop]; exact hm
  · exact blk_length l hn1 (by omega)
  · rw [hl]
    have hc : (b.take (min b.length (64 - m.length % 64))).length = min b.length (64 - m.length % 64) := by rw [List.length_take]; omega
    rcases Nat.lt_or_ge (m.length % 64 + min b.length (64 - m.length % 64)) 64 with h64 | h64
    · rw [Nat.mod_eq_of_lt h64, srest_more (by rw [hc]; exact h64), ← r]
      unfold blk
      rw [List.take_append_of_le_length (by rw [List.length_append, List.length_take, hc]; omega), List.take_of_length_le (by rw [List.length_append, List.length_take, hc]; omega)]
    · have h64 : m.length % 64 + min b.length (64 - m.length % 64) = 64 := by omega
      rw [h64, srest_block (by rw [hc]; exact h64)]; rfl
theorem WrI.mixes {M BL : List UInt8} {x : List UInt8 × List UInt8 × List UInt8} (hI : WrI M BL x) (h : x.1.length % 64 + wrN x = 64) : sblock (sstate x.1) (wrX x).2.1 = sstate (wrX x).1 ∧ (wrX x).1.length % 64 = 0 := by
  obtain ⟨m, bl, b⟩ := x
  obtain ⟨e, hm, l, r⟩ := hI
  simp only [wrN] at e hm l r h
  have hc : (b.take (min b.length (64 - m.length % 64))).length = min b.length (64 - m.length % 64) := by rw [List.length_take]; omega
  simp only [wrX, wrN]
  refine ⟨?_, by rw [List.length_append, hc]; omega⟩
  rw [sstate_block (by rw [hc]; exact h), ← r]
  unfold blk
  rw [h, List.drop_of_length_le (by omega), List.append_nil]
theorem WrI.stays {M BL : List UInt8} {x : List UInt8 × List UInt8 × List UInt8} (hI : WrI M BL x) (h : x.1.length % 64 + wrN x < 64) : sstate (wrX x).1 = sstate x.1 ∧ (wrX x).1.length % 64 = x.1.length % 64 + wrN x := by
  obtain ⟨m, bl, b⟩ := x
  simp only [wrN] at h
  have hc : (b.take (min b.length (64 - m.length % 64))).length = min b.length (64 - m.length % 64) := by rw [List.length_take]; omega
  simp only [wrX, wrN]
  exact ⟨sstate_more (by rw [hc]; exact h), by rw [List.length_append, hc]; omega⟩
theorem wrB_ok : ∀ (k : Nat) (m bl b : List UInt8), b.length ≤ k → bl.length = 64 → bl.take (m.length % 64) = srest m → (wrB bl (m.length % 64) b).length = 64 ∧ (wrB bl (m.length % 64) b).take ((m ++ b).length % 64) = srest (m ++ b)
  | k, m, bl, [], _, l, r => by rw [wrB_nil, List.append_nil]; exact ⟨l, r⟩
  | 0, m, bl, c :: b, hk, _, _ => by simp at hk
  | k + 1, m, bl, c :: b, hk, l, r => by
    have hI : WrI (m ++ (c :: b)) (wrB bl (m.length % 64) (c :: b)) (m, bl, c :: b) := ⟨rfl, rfl, l, r⟩
    have hI2 := hI.next (by simp)
    have hlt : m.length % 64 < 64 := Nat.mod_lt _ (by omega)
    have hlen : ((c :: b).drop (wrN (m, bl, c :: b))).length ≤ k := by
      rw [List.length_drop]
      simp only [wrN, List.length_cons] at hk ⊢
      omega
    have := wrB_ok k (wrX (m, bl, c :: b)).1 (wrX (m, bl, c :: b)).2.1 (wrX (m, bl, c :: b)).2.2 hlen hI2.l hI2.r
    rw [hI2.e, hI2.m] at this
    exact this
def hst (m bl : List UInt8) : AObj := hsh (sstate m) bl (m.length % 64) m.length
theorem pos_map {l : List UInt8} (h : ((l.map byteD).length : Int) > 0) : 0 < l.length := by rw [List.length_map] at h; omega
theorem write_ok (m bl b : List UInt8) (l : bl.length = 64) (r : bl.take (m.length % 64) = srest m) (hl : m.length + b.length < 2 ^ 60) :
    LocalCall Try.prog 107 [.ptr 9 [], .d (.sl (b.map byteD))] [(9, hst m bl)] [] (one []) [(9, hst (m ++ b) (wrB bl (m.length % 64) b))] := by
  have w0 : IntKind.u64.wrap ((m.length : Int) + IntKind.u64.wrap ((b.map byteD).length : Int)) = (((m ++ b).length : Nat) : Int) := by
    rw [List.length_map, List.length_append, u64_wrap, u64_wrap]; omega
  refine vc_fn mixed Try.func107 rfl rfl [] (vzH rfl) ?_
  repeat' (first | ((with_reducible refine vzH ?_); first | decide +kernel | rfl) | (with_reducible refine vzC ?_; rfl) | (with_reducible first | (refine vzZ ?_; constructor) | refine vzC ?_ | refine vc_loopI 47 (fun (x : List UInt8 × List UInt8 × List UInt8) => [(0, .ptr 9 []), (1, .d (.sl (x.2.2.map byteD)))]) (fun x => [(9, hsh (sstate x.1) x.2.1 (x.1.length % 64) (m ++ b).length)]) (fun x => x.2.2.length) (WrI (m ++ b) (wrB bl (m.length % 64) b)) (m, bl, b) [] ?_ ?_ ?_ ?_ ?_ (fun x hI => ?_) | refine vc_call [] (mix_ok (sstate x.1) (wrX x).2.1 64 (m ++ b).length (sstate_length _) (hI.next (pos_map (by assumption))).l) ?_ | refine vc_nextI (wrX x) [] ?_ ?_ ?_ ?_ ?_ ?_ | refine vzB [] ?_ ?_ ?_ | refine vzD ?_ ?_ | refine vc_ret [] [] ?_) | ((with_reducible first | refine vzE (fun h => ?_) (fun h => ?_) | refine vzF (fun h => ?_) (fun h => ?_)) <;> try (exfalso; omega)) | ((with_reducible refine vzG (fun h => ?_) (fun h => ?_)) <;> (try simp only [Go.Sym.vs1, reduceCtorEq] at h) <;> try (exfalso; first | omega | (simp at h; done))) | ((conv in Vc _ => arg 1; whnf); first | (with_reducible refine vzC ?_; rfl) | (with_reducible first | (refine vzZ ?_; constructor) | refine vzC ?_ | refine vc_loopI 47 (fun (x : List UInt8 × List UInt8 × List UInt8) => [(0, .ptr 9 []), (1, .d (.sl (x.2.2.map byteD)))]) (fun x => [(9, hsh (sstate x.1) x.2.1 (x.1.length % 64) (m ++ b).length)]) (fun x => x.2.2.length) (WrI (m ++ b) (wrB bl (m.length % 64) b)) (m, bl, b) [] ?_ ?_ ?_ ?_ ?_ (fun x hI => ?_) | refine vc_call [] (mix_ok (sstate x.1) (wrX x).2.1 64 (m ++ b).length (sstate_length _) (hI.next (pos_map (by assumption))).l) ?_ | refine vc_nextI (wrX x) [] ?_ ?_ ?_ ?_ ?_ ?_ | refine vzB [] ?_ ?_ ?_ | refine vzD ?_ ?_ | refine vc_ret [] [] ?_) | ((with_reducible first | refine vzE (fun h => ?_) (fun h => ?_) | refine vzF (fun h => ?_) (fun h => ?_)) <;> try (exfalso; omega)) | ((with_reducible refine vzG (fun h => ?_) (fun h => ?_)) <;> (try simp only [Go.Sym.vs1, reduceCtorEq] at h) <;> try (exfalso; first | omega | (simp at h; done)))))
  all_goals (try dsimp only)
  all_goals first
    | with_reducible rfl
    | exact ⟨rfl, rfl, l, r⟩
    | (rw [w0]; done)
    | skip
  all_goals (try simp only [Int.toNat_natCast, List.length_map, n8] at *)
  all_goals
    have hlt : x.1.length % 64 < 64 := Nat.mod_lt _ (by omega)
    have hnm : min x.2.2.length (64 - x.1.length % 64) = wrN x := rfl
    have hw : IntKind.i64.wrap (((x.1.length % 64 : Nat) : Int) + ((wrN x : Nat) : Int)) = ((x.1.length % 64 + wrN x : Nat) : Int) := by
      rw [wrap64_id (by omega) (by omega)]; rfl
    have hxl := hI.l
    have hn3 : wrN x ≤ x.2.2.length ∧ wrN x ≤ 64 - x.1.length % 64 ∧ (x.2.2.length ≤ wrN x ∨ 64 - x.1.length % 64 ≤ wrN x) := by
      unfold wrN; omega
    try simp only [hnm, hw] at h ⊢
  all_goals first
    | exact ⟨⟨by omega, by omega, by omega⟩, trivial⟩
    | (refine ⟨⟨⟨trivial, trivial, trivial⟩, by omega⟩, fun y hy => ?_⟩
       obtain ⟨c, _, rfl⟩ := List.mem_map.1 hy; rfl)
    | (refine ⟨⟨by omega, by omega, by omega⟩, fun y hy => ?_⟩
       obtain ⟨c, _, rfl⟩ := List.mem_map.1 hy; rfl)
    | exact hI.next (by omega)
    | (show (x.2.2.drop (wrN x)).length < _
       rw [List.length_drop]; omega)
    | (show D.sl _ = D.sl ((x.2.2.drop (wrN x)).map byteD)
       unfold cutD
       rw [Int.toNat_natCast, Int.toNat_natCast, List.take_of_length_le (by rw [List.length_map]; omega), List.map_drop]; done)
    | (obtain ⟨e1, e2⟩ := hI.mixes (by omega)
       rw [e1, e2]; done)
    | (obtain ⟨e1, e2⟩ := hI.stays (by omega)
       rw [e1, e2, blk_over]; rfl)
    | (rw [blk_over, h]; rfl)
    | (have hb : x.2.2 = [] := List.eq_nil_of_length_eq_zero (by omega)
       have e1 := hI.e
       have e2 := hI.m
       rw [hb, wrB_nil] at e1
       rw [hb, List.append_nil] at e2
       rw [← e1, ← e2])
end Go.Proofs.Ytjgkngjeniameaa

namespace Go.Proofs.Ytjgkngjeniameaa
open Go.Sym
set_option maxRecDepth 10000
set_option maxHeartbeats 8000000
theorem clone_ok (h : List W32) (bl : List UInt8) (hv n : Nat) : LocalCall Try.prog 114 [.ptr 9 []] [(9, hsh h bl hv n)] [8] (one [.ptr 8 []]) [(8, hsh h bl hv n)] := by
  refine vc_fn mixed Try.func114 rfl rfl [] (vzH rfl) ?_
  repeat' (first | ((with_reducible refine vzH ?_); first | decide +kernel | rfl) | (with_reducible refine vzC ?_; rfl) | (with_reducible first | (refine vzZ ?_; constructor) | refine vzC ?_ | refine vc_ret [] [(8, 2012)] ?_ | refine vzB [] ?_ ?_ ?_ | refine vzD ?_ ?_ | refine vc_ret [] [] ?_) | ((with_reducible first | refine vzE (fun h => ?_) (fun h => ?_) | refine vzF (fun h => ?_) (fun h => ?_)) <;> try (exfalso; omega)) | ((with_reducible refine vzG (fun h => ?_) (fun h => ?_)) <;> (try simp only [Go.Sym.vs1, reduceCtorEq] at h) <;> try (exfalso; first | omega | (simp at h; done))) | ((conv in Vc _ => arg 1; whnf); first | (with_reducible refine vzC ?_; rfl) | (with_reducible first | (refine vzZ ?_; constructor) | refine vzC ?_ | refine vc_ret [] [(8, 2012)] ?_ | refine vzB [] ?_ ?_ ?_ | refine vzD ?_ ?_ | refine vc_ret [] [] ?_) | ((with_reducible first | refine vzE (fun h => ?_) (fun h => ?_) | refine vzF (fun h => ?_) (fun h => ?_)) <;> try (exfalso; omega)) | ((with_reducible refine vzG (fun h => ?_) (fun h => ?_)) <;> (try simp only [Go.Sym.vs1, reduceCtorEq] at h) <;> try (exfalso; first | omega | (simp at h; done)))))
  all_goals rfl
theorem shl3 (n : Nat) : shlI .u64 (n : Int) 3 = ((n * 8 % 18446744073709551616 : Nat) : Int) := by
  have hm : min (3 : Int).toNat IntKind.u64.bits = 3 := by decide
  unfold shlI
  rw [hm, u64_wrap]
  omega
theorem mul8 (n : Nat) : IntKind.u64.wrap ((n : Int) * 8) = ((n * 8 % 18446744073709551616 : Nat) : Int) := by
  rw [u64_wrap]; omega
theorem shr_u64 (a k : Nat) (h : k ≤ 64) : shrI .u64 (a : Int) (k : Int) = ((a / 2 ^ k : Nat) : Int) := by
  have hm : min ((k : Nat) : Int).toNat IntKind.u64.bits = k := by
    show min k 64 = _
    omega
  unfold shrI
  rw [hm]
  have : (2 : Int) ^ k = ((2 ^ k : Nat) : Int) := by simp
  rw [this, Int.fdiv_eq_ediv_of_nonneg _ (Int.natCast_nonneg _)]; simp
theorem pad_byte (n i : Nat) (hi : i < 8) : IntKind.u8.wrap (shrI .u64 ((n * 8 % 18446744073709551616 : Nat) : Int) ((56 - 8 * i : Nat) : Int)) = ((n * 8 / 2 ^ (56 - 8 * i) % 256 : Nat) : Int) := by
  rw [shr_u64 _ _ (by omega), u8_wrap]
  have key : n * 8 % 18446744073709551616 / 2 ^ (56 - 8 * i) % 256 = n * 8 / 2 ^ (56 - 8 * i) % 256 := by
    match i, hi with
    | 0, _ => show n * 8 % 18446744073709551616 / 72057594037927936 % 256 = n * 8 / 72057594037927936 % 256; omega
    | 1, _ => show n * 8 % 18446744073709551616 / 281474976710656 % 256 = n * 8 / 281474976710656 % 256; omega
    | 2, _ => show n * 8 % 18446744073709551616 / 1099511627776 % 256 = n * 8 / 1099511627776 % 256; omega
    | 3, _ => show n * 8 % 18446744073709551616 / 4294967296 % 256 = n * 8 / 4294967296 % 256; omega
    | 4, _ => show n * 8 % 18446744073709551616 / 16777216 % 256 = n * 8 / 16777216 % 256; omega
    | 5, _ => show n * 8 % 18446744073709551616 / 65536 % 256 = n * 8 / 65536 % 256; omega
    | 6, _ => show n * 8 % 18446744073709551616 / 256 % 256 = n * 8 / 256 % 256; omega
    | 7, _ => show n * 8 % 18446744073709551616 / 1 % 256 = n * 8 / 1 % 256; omega
  rw [← key]; omega
def padZ (i : Nat) : List UInt8 := 128 :: List.replicate i 0
def padL (n j : Nat) : List UInt8 := padZ ((119 - n % 64) % 64) ++ (List.range j).map fun i => UInt8.ofNat (n * 8 / 2 ^ (56 - 8 * i) % 256)
theorem padZ_app (i : Nat) : (padZ i).map byteD ++ [D.int .u8 0] = (padZ (i + 1)).map byteD := by
  have : [D.int .u8 0] = [(0 : UInt8)].map byteD := rfl
  rw [this, ← List.map_append]
  unfold padZ
  rw [List.cons_append, ← List.replicate_succ']
theorem padL_app (n j : Nat) : (padL n j).map byteD ++ [D.int .u8 ((n * 8 / 2 ^ (56 - 8 * j) % 256 : Nat) : Int)] = (padL n (j + 1)).map byteD := by
  have e : D.int .u8 ((n * 8 / 2 ^ (56 - 8 * j) % 256 : Nat) : Int) = byteD (UInt8.ofNat (n * 8 / 2 ^ (56 - 8 * j) % 256)) := by
    unfold byteD
    rw [UInt8.toNat_ofNat_of_lt' (show _ < 256 from Nat.mod_lt _ (by omega))]
  rw [e]
  unfold padL
  rw [List.range_succ]
  simp only [List.map_append, List.append_assoc, List.map_cons, List.map_nil]
theorem padZ_length (i : Nat) : (padZ i).length = i + 1 := by simp [padZ]
theorem padL_length (n j : Nat) : (padL n j).length = (119 - n % 64) % 64 + 1 + j := by simp [padL, padZ_length]
theorem room_small {k j : Nat} (hj : j = 1) (h : k ≤ 2 ^ 30) : Room k j := by subst hj; unfold Room; omega
theorem pad_cond (n i : Nat) (hn : n < 18446744073709551616) (hi : i ≤ 63) : (IntKind.u64.wrap ((n : Int) + IntKind.u64.wrap (((padZ i).map byteD).length : Int))).tmod 64 = (((n + i + 1) % 64 : Nat) : Int) := by
  rw [List.length_map, padZ_length, u64_wrap, u64_wrap, Int.tmod_eq_emod_of_nonneg (by omega)]
  omega
theorem w56 (j : Nat) (h : j < 8) : IntKind.i64.wrap (56 - IntKind.i64.wrap (8 * (j : Int))) = ((56 - 8 * j : Nat) : Int) := by
  rw [wrap64_id (n := 8 * (j : Int)) (by omega) (by omega), wrap64_id (by omega) (by omega)]; omega
theorem w56u (j : Nat) (h : j < 8) : IntKind.u64.wrap (IntKind.i64.wrap (56 - IntKind.i64.wrap (8 * (j : Int)))) = ((56 - 8 * j : Nat) : Int) := by
  rw [w56 j h, u64_wrap]; omega
theorem wrapU64n (n : Int) : 0 ≤ IntKind.u64.wrap n := by rw [u64_wrap]; omega
theorem pad_ok (n : Nat) (hn : n < 18446744073709551616) : LocalCall Try.prog 115 [.d (.int .u64 (n : Int))] [] [] (one [.d (.sl ((spad n).map byteD))]) [] := by
  refine vc_fn mixed Try.func115 rfl rfl [] (vzH rfl) ?_
  repeat' (first | ((with_reducible refine vzH ?_); first | decide +kernel | rfl) | (with_reducible refine vzC ?_; rfl) | (with_reducible first | (refine vzZ ?_; constructor) | refine vzC ?_ | refine vc_loopI (y := .seq (.seq (.region 2 _ _) _) _) 31 (fun (i : Nat) => [(0, .d (.int .u64 (n : Int))), (3, .sl 7 [] 1 0 ((padZ i).map byteD).length)]) (fun i => [(7, .row 1 ((padZ i).map byteD))]) (fun i => 64 - i) (fun i => i ≤ (119 - n % 64) % 64) 0 [(7, 2000)] ?_ ?_ ?_ ?_ ?_ (fun i hI => ?_) | refine vc_nextI (i + 1 : Nat) [(7, 4008)] ?_ ?_ ?_ ?_ ?_ ?_ | refine vc_loopI (y := .seq (.region 5 _ _) _) 31 (fun (x : Nat × Unit) => [(0, .d (.int .u64 (n : Int))), (3, .sl 7 [] 1 0 ((padL n x.1).map byteD).length), (16, .d (.int .i64 (x.1 : Int)))]) (fun x => [(7, .row 1 ((padL n x.1).map byteD))]) (fun x => 8 - x.1) (fun x => x.1 ≤ 8) (0, ()) [] ?_ ?_ ?_ ?_ ?_ (fun x hM => ?_) | refine vc_nextI (x.1 + 1, ()) [(7, 8036)] ?_ ?_ ?_ ?_ ?_ ?_ | refine vc_ret [true] [] ?_ | refine vzB [] ?_ ?_ ?_ | refine vzD ?_ ?_ | refine vc_ret [] [] ?_) | ((with_reducible first | refine vzE (fun h => ?_) (fun h => ?_) | refine vzF (fun h => ?_) (fun h => ?_)) <;> try (exfalso; omega)) | ((with_reducible refine vzG (fun h => ?_) (fun h => ?_)) <;> (try simp only [Go.Sym.vs1, reduceCtorEq] at h) <;> try (exfalso; first | omega | (simp at h; done))) | ((conv in Vc _ => arg 1; whnf); first | (with_reducible refine vzC ?_; rfl) | (with_reducible first | (refine vzZ ?_; constructor) | refine vzC ?_ | refine vc_loopI (y := .seq (.seq (.region 2 _ _) _) _) 31 (fun (i : Nat) => [(0, .d (.int .u64 (n : Int))), (3, .sl 7 [] 1 0 ((padZ i).map byteD).length)]) (fun i => [(7, .row 1 ((padZ i).map byteD))]) (fun i => 64 - i) (fun i => i ≤ (119 - n % 64) % 64) 0 [(7, 2000)] ?_ ?_ ?_ ?_ ?_ (fun i hI => ?_) | refine vc_nextI (i + 1 : Nat) [(7, 4008)] ?_ ?_ ?_ ?_ ?_ ?_ | refine vc_loopI (y := .seq (.region 5 _ _) _) 31 (fun (x : Nat × Unit) => [(0, .d (.int .u64 (n : Int))), (3, .sl 7 [] 1 0 ((padL n x.1).map byteD).length), (16, .d (.int .i64 (x.1 : Int)))]) (fun x => [(7, .row 1 ((padL n x.1).map byteD))]) (fun x => 8 - x.1) (fun x => x.1 ≤ 8) (0, ()) [] ?_ ?_ ?_ ?_ ?_ (fun x hM => ?_) | refine vc_nextI (x.1 + 1, ()) [(7, 8036)] ?_ ?_ ?_ ?_ ?_ ?_ | refine vc_ret [true] [] ?_ | refine vzB [] ?_ ?_ ?_ | refine vzD ?_ ?_ | refine vc_ret [] [] ?_) | ((with_reducible first | refine vzE (fun h => ?_) (fun h => ?_) | refine vzF (fun h => ?_) (fun h => ?_)) <;> try (exfalso; omega)) | ((with_reducible refine vzG (fun h => ?_) (fun h => ?_)) <;> (try simp only [Go.Sym.vs1, reduceCtorEq] at h) <;> try (exfalso; first | omega | (simp at h; done)))))
  all_goals (try dsimp only)
  all_goals (try simp only [List.drop_zero, List.take_length])
  all_goals first
    | with_reducible rfl
    | omega
    | decide
    | (rw [padZ_app]; done)
    | (show D.int .i64 _ = D.int .i64 _; first | rfl | (congr 1; rw [wrap64_id (by omega) (by omega)]; omega))
    | skip
  all_goals first
    | (have hm := hM
       first
       | (have hj : x.1 < 8 := by omega
          (try rw [w56 x.1 hj])
          (try rw [shl3, pad_byte n x.1 hj])
          first
          | omega
          | (rw [padL_app]; done)
          | (refine ⟨⟨by simp, by first | trivial | rfl, room_small rfl ?_⟩, fun y hy => ?_⟩
             · rw [List.length_append, List.length_map, padL_length]
               show _ + 1 ≤ _
               omega
             · simp only [List.mem_singleton] at hy; subst hy; rfl))
       | (have e : x.1 = 8 := by omega
          rw [e]
          first
          | exact ⟨Nat.le_of_eq (Nat.zero_add _), trivial⟩
          | rfl)
       | skip)
    | (have hi := hI
       rw [pad_cond n i hn (by omega)] at h
       first
       | omega
       | (refine ⟨⟨by simp, by first | trivial | rfl, room_small rfl ?_⟩, fun y hy => ?_⟩
          · rw [List.length_append, List.length_map, padZ_length]
            show _ + 1 ≤ _
            omega
          · simp only [List.mem_singleton] at hy; subst hy; rfl)
       | (have e : i = (119 - n % 64) % 64 := by omega
          rw [e]
          simp [padL]; done)
       | skip)
    | rfl
    | skip
theorem rPad_ok (n : Nat) (hn : n < 18446744073709551616) : LocalCall Try.prog 102 [.d (.int .u64 (n : Int))] [] [] (one [.d (.sl ((spad n).map byteD))]) [] := by
  refine vc_fn mixed Try.func102 rfl rfl [] (vzH rfl) ?_
  repeat' (first | ((with_reducible refine vzH ?_); first | decide +kernel | rfl) | (with_reducible refine vzC ?_; rfl) | (with_reducible first | (refine vzZ ?_; constructor) | refine vzC ?_ | refine vc_loopI (y := .seq (.seq (.region 3 _ _) _) _) 36 (fun (i : Nat) => [(0, .d (.int .u64 (n : Int))), (3, .sl 7 [] 1 0 ((padZ i).map byteD).length)]) (fun i => [(7, .row 1 ((padZ i).map byteD))]) (fun i => 64 - i) (fun i => i ≤ (119 - n % 64) % 64) 0 [(7, 3008)] ?_ ?_ ?_ ?_ ?_ (fun i hI => ?_) | refine vc_nextI (i + 1 : Nat) [(7, 5008)] ?_ ?_ ?_ ?_ ?_ ?_ | refine vc_loopI (y := .seq (.seq (.region 7 _ _) _) _) 36 (fun (x : Nat × Unit) => [(3, .sl 7 [] 1 0 ((padL n x.1).map byteD).length), (4, .d (.int .u64 ((n * 8 % 18446744073709551616 : Nat) : Int))), (5, .d (.int .i64 (x.1 : Int)))]) (fun x => [(7, .row 1 ((padL n x.1).map byteD))]) (fun x => 8 - x.1) (fun x => x.1 ≤ 8) (0, ()) [] ?_ ?_ ?_ ?_ ?_ (fun x hM => ?_) | refine vc_nextI (x.1 + 1, ()) [(7, 10036)] ?_ ?_ ?_ ?_ ?_ ?_ | refine vc_ret [true] [] ?_ | refine vzB [] ?_ ?_ ?_ | refine vzD ?_ ?_ | refine vc_ret [] [] ?_) | ((with_reducible first | refine vzE (fun h => ?_) (fun h => ?_) | refine vzF (fun h => ?_) (fun h => ?_)) <;> try (exfalso; omega)) | ((with_reducible refine vzG (fun h => ?_) (fun h => ?_)) <;> (try simp only [Go.Sym.vs1, reduceCtorEq] at h) <;> try (exfalso; first | omega | (simp at h; done))) | ((conv in Vc _ => arg 1; whnf); first | (with_reducible refine vzC ?_; rfl) | (with_reducible first | (refine vzZ ?_; constructor) | refine vzC ?_ | refine vc_loopI (y := .seq (.seq (.region 3 _ _) _) _) 36 (fun (i : Nat) => [(0, .d (.int .u64 (n : Int))), (3, .sl 7 [] 1 0 ((padZ i).map byteD).length)]) (fun i => [(7, .row 1 ((padZ i).map byteD))]) (fun i => 64 - i) (fun i => i ≤ (119 - n % 64) % 64) 0 [(7, 3008)] ?_ ?_ ?_ ?_ ?_ (fun i hI => ?_) | refine vc_nextI (i + 1 : Nat) [(7, 5008)] ?_ ?_ ?_ ?_ ?_ ?_ | refine vc_loopI (y := .seq (.seq (.region 7 _ _) _) _) 36 (fun (x : Nat × Unit) => [(3, .sl 7 [] 1 0 ((padL n x.1).map byteD).length), (4, .d (.int .u64 ((n * 8 % 18446744073709551616 : Nat) : Int))), (5, .d (.int .i64 (x.1 : Int)))]) (fun x => [(7, .row 1 ((padL n x.1).map byteD))]) (fun x => 8 - x.1) (fun x => x.1 ≤ 8) (0, ()) [] ?_ ?_ ?_ ?_ ?_ (fun x hM => ?_) | refine vc_nextI (x.1 + 1, ()) [(7, 10036)] ?_ ?_ ?_ ?_ ?_ ?_ | refine vc_ret [true] [] ?_ | refine vzB [] ?_ ?_ ?_ | refine vzD ?_ ?_ | refine vc_ret [] [] ?_) | ((with_reducible first | refine vzE (fun h => ?_) (fun h => ?_) | refine vzF (fun h => ?_) (fun h => ?_)) <;> try (exfalso; omega)) | ((with_reducible refine vzG (fun h => ?_) (fun h => ?_)) <;> (try simp only [Go.Sym.vs1, reduceCtorEq] at h) <;> try (exfalso; first | omega | (simp at h; done)))))
  all_goals (try dsimp only)
  all_goals (try simp only [List.drop_zero, List.take_length])
  all_goals first
    | with_reducible rfl
    | omega
    | decide
    | (rw [padZ_app]; done)
    | (rw [mul8]; done)
    | exact wrapU64n _
    | exact ⟨⟨by simp, room_small rfl (by simp)⟩, fun y hy => by simp only [List.mem_singleton] at hy; subst hy; rfl⟩
    | (show D.int .i64 _ = D.int .i64 _; first | rfl | (congr 1; rw [wrap64_id (by omega) (by omega)]; omega))
    | skip
  all_goals first
    | (have hm := hM
       first
       | (have hj : x.1 < 8 := by omega
          (try rw [w56u x.1 hj, pad_byte n x.1 hj])
          first
          | omega
          | (rw [padL_app]; done)
          | (refine ⟨⟨by simp, by first | trivial | rfl, room_small rfl ?_⟩, fun y hy => ?_⟩
             · rw [List.length_append, List.length_map, padL_length]
               show _ + 1 ≤ _
               omega
             · simp only [List.mem_singleton] at hy; subst hy; rfl))
       | (have e : x.1 = 8 := by omega
          rw [e]
          first
          | exact ⟨Nat.le_of_eq (Nat.zero_add _), trivial⟩
          | rfl)
       | skip)
    | (have hi := hI
       rw [pad_cond n i hn (by omega)] at h
       first
       | omega
       | (refine ⟨⟨by simp, by first | trivial | rfl, room_small rfl ?_⟩, fun y hy => ?_⟩
          · rw [List.length_append, List.length_map, padZ_length]
            show _ + 1 ≤ _
            omega
          · simp only [List.mem_singleton] at hy; subst hy; rfl)
       | (have e : i = (119 - n % 64) % 64 := by omega
          rw [e]
          simp [padL]; done)
       | skip)
    | rfl
    | skip
end Go.Proofs.Ytjgkngjeniameaa

namespace Go.Proofs.Ytjgkngjeniameaa
open Go.Sym
set_option maxRecDepth 10000
set_option maxHeartbeats 8000000
def wByte (h : List W32) (j : Nat) : UInt8 := UInt8.ofNat ((h.getD (j / 4) 0).toNat / 2 ^ (24 - 8 * (j % 4)) % 256)
def dB (h : List W32) (q : Nat) : List UInt8 := (List.range 32).map fun j => bif decide (j < q) then wByte h j else 0
theorem dB_zero (h : List W32) : (dB h 0).map byteD = List.replicate 32 (.int .u8 0) := by
  unfold dB; rfl
theorem dB_all (h : List W32) : dB h 32 = wBytes h := by
  unfold dB wBytes
  apply List.map_congr_left
  intro j hj
  rw [decide_eq_true (List.mem_range.1 hj)]; rfl
theorem dB_set (h : List W32) {q : Nat} (hq : q < 32) : ((dB h q).map byteD).set q (byteD (wByte h q)) = (dB h (q + 1)).map byteD := by
  rw [← List.map_set]
  congr 1
  apply List.ext_getElem?
  intro k
  unfold dB
  rw [List.getElem?_set]
  by_cases hk : q = k
  · subst hk
    simp [hq]
  · rw [if_neg hk, List.getElem?_map, List.getElem?_map]
    by_cases h8 : k < 32
    · rw [List.getElem?_range h8]
      have : decide (k < q) = decide (k < q + 1) := by
        by_cases h1 : k < q
        · rw [decide_eq_true h1, decide_eq_true (show k < q + 1 by omega)]
        · rw [decide_eq_false h1, decide_eq_false (show ¬ k < q + 1 by omega)]
      simp [this]
    · rw [List.getElem?_eq_none (by simpa using h8)]; rfl
theorem wByte_eq (h : List W32) (j k : Nat) (hk : k = 24 - 8 * (j % 4)) : D.int .u8 (IntKind.u8.wrap (shrI .u32 (wI (h.getD (j / 4) 0)) (k : Int))) = byteD (wByte h j) := by
  rw [w_shr _ (by omega), u8_wrap]
  unfold wI wByte byteD
  rw [UInt8.toNat_ofNat_of_lt' (show _ < 256 from Nat.mod_lt _ (by omega)), BitVec.toNat_ushiftRight, Nat.shiftRight_eq_div_pow, hk]
  rfl
theorem dig_eq (m : List UInt8) (h : m.length < 2 ^ 60) : wBytes (sstate (m ++ spad m.length)) = shaB m := by
  unfold shaB sstate
  rw [Nat.mod_eq_of_lt (show m.length < 2 ^ 64 by omega)]
theorem shaDig_ok (m bl : List UInt8) (l : bl.length = 64) (r : bl.take (m.length % 64) = srest m) (hl : m.length < 2 ^ 59) :
    LocalCall Try.prog 108 [.ptr 9 []] [(9, hst m bl)] [] (one [.d (.arr 32 1 ((shaB m).map byteD))]) [] := by
  have hpl : (spad m.length).length ≤ 72 := by rw [spad_length]; omega
  have hw := local_ren [(9, 8)] [(8, 9)] (write_ok m bl (spad m.length) l r (by omega)) rfl
  have hS := sstate_length (m ++ spad m.length)
  have hg : ∀ i, i < 8 → ((sstate (m ++ spad m.length)).map wD).getD i .nilp = wD ((sstate (m ++ spad m.length)).getD i 0) := fun i hi => w8_get i (by rw [hS]; exact hi)
  have hd := dig_eq m (by omega)
  refine vc_fn mixed Try.func108 rfl rfl [] (vzH rfl) ?_
  repeat' (first | ((with_reducible refine vzH ?_); first | decide +kernel | rfl) | (with_reducible refine vzC ?_; rfl) | (with_reducible first | (refine vzZ ?_; constructor) | refine vzC ?_ | refine vc_call [] (clone_ok (sstate m) bl (m.length % 64) m.length) ?_ | refine vc_pure (pad_ok m.length (by omega)) ?_ ?_ ?_ | refine vc_call [] hw ?_ | refine vc_loopI (y := .seq (.region 5 _ _) _) 42 (fun (i : Nat) => [(2, .ptr 1000 []), (4, .ptr 4000 []), (20, .d (.arr 8 1 ((sstate (m ++ spad m.length)).map wD))), (21, .d (.int .i64 (i : Int)))]) (fun i => [(9, hst m bl), (1000, .var (.d (.arr 32 1 (List.replicate 32 (.int .u8 0))))), (4000, .var (.d (.arr 32 1 ((dB (sstate (m ++ spad m.length)) (4 * i)).map byteD))))]) (fun i => 8 - i) (fun i => i ≤ 8) 0 [] ?_ ?_ ?_ ?_ ?_ (fun i hI => ?_) | refine vc_loopI (y := .seq (.region 8 _ _) _) 42 (fun (x : Nat × Unit) => [(2, .ptr 1000 []), (4, .ptr 4000 []), (5, .d (.int .i64 (i : Int))), (6, .d (.int .u32 (wI ((sstate (m ++ spad m.length)).getD i 0)))), (20, .d (.arr 8 1 ((sstate (m ++ spad m.length)).map wD))), (21, .d (.int .i64 (i : Int))), (25, .d (.int .i64 (x.1 : Int)))]) (fun x => [(9, hst m bl), (1000, .var (.d (.arr 32 1 (List.replicate 32 (.int .u8 0))))), (4000, .var (.d (.arr 32 1 ((dB (sstate (m ++ spad m.length)) (4 * i + x.1)).map byteD))))]) (fun x => 4 - x.1) (fun x => x.1 ≤ 4) (0, ()) [] ?_ ?_ ?_ ?_ ?_ (fun x hM => ?_) | refine vc_nextI (i + 1 : Nat) [] ?_ ?_ ?_ ?_ ?_ ?_ | refine vc_nextI (x.1 + 1, ()) [] ?_ ?_ ?_ ?_ ?_ ?_ | refine vzB [] ?_ ?_ ?_ | refine vzD ?_ ?_ | refine vc_ret [] [] ?_) | ((with_reducible first | refine vzE (fun h => ?_) (fun h => ?_) | refine vzF (fun h => ?_) (fun h => ?_)) <;> try (exfalso; omega)) | ((with_reducible refine vzG (fun h => ?_) (fun h => ?_)) <;> (try simp only [Go.Sym.vs1, reduceCtorEq] at h) <;> try (exfalso; first | omega | (simp at h; done))) | ((conv in Vc _ => arg 1; whnf); first | (with_reducible refine vzC ?_; rfl) | (with_reducible first | (refine vzZ ?_; constructor) | refine vzC ?_ | refine vc_call [] (clone_ok (sstate m) bl (m.length % 64) m.length) ?_ | refine vc_pure (pad_ok m.length (by omega)) ?_ ?_ ?_ | refine vc_call [] hw ?_ | refine vc_loopI (y := .seq (.region 5 _ _) _) 42 (fun (i : Nat) => [(2, .ptr 1000 []), (4, .ptr 4000 []), (20, .d (.arr 8 1 ((sstate (m ++ spad m.length)).map wD))), (21, .d (.int .i64 (i : Int)))]) (fun i => [(9, hst m bl), (1000, .var (.d (.arr 32 1 (List.replicate 32 (.int .u8 0))))), (4000, .var (.d (.arr 32 1 ((dB (sstate (m ++ spad m.length)) (4 * i)).map byteD))))]) (fun i => 8 - i) (fun i => i ≤ 8) 0 [] ?_ ?_ ?_ ?_ ?_ (fun i hI => ?_) | refine vc_loopI (y := .seq (.region 8 _ _) _) 42 (fun (x : Nat × Unit) => [(2, .ptr 1000 []), (4, .ptr 4000 []), (5, .d (.int .i64 (i : Int))), (6, .d (.int .u32 (wI ((sstate (m ++ spad m.length)).getD i 0)))), (20, .d (.arr 8 1 ((sstate (m ++ spad m.length)).map wD))), (21, .d (.int .i64 (i : Int))), (25, .d (.int .i64 (x.1 : Int)))]) (fun x => [(9, hst m bl), (1000, .var (.d (.arr 32 1 (List.replicate 32 (.int .u8 0))))), (4000, .var (.d (.arr 32 1 ((dB (sstate (m ++ spad m.length)) (4 * i + x.1)).map byteD))))]) (fun x => 4 - x.1) (fun x => x.1 ≤ 4) (0, ()) [] ?_ ?_ ?_ ?_ ?_ (fun x hM => ?_) | refine vc_nextI (i + 1 : Nat) [] ?_ ?_ ?_ ?_ ?_ ?_ | refine vc_nextI (x.1 + 1, ()) [] ?_ ?_ ?_ ?_ ?_ ?_ | refine vzB [] ?_ ?_ ?_ | refine vzD ?_ ?_ | refine vc_ret [] [] ?_) | ((with_reducible first | refine vzE (fun h => ?_) (fun h => ?_) | refine vzF (fun h => ?_) (fun h => ?_)) <;> try (exfalso; omega)) | ((with_reducible refine vzG (fun h => ?_) (fun h => ?_)) <;> (try simp only [Go.Sym.vs1, reduceCtorEq] at h) <;> try (exfalso; first | omega | (simp at h; done)))))
  all_goals (try dsimp only)
  all_goals first
    | with_reducible rfl
    | omega
    | skip
  all_goals first
    | (have hm := hM
       have w1 : x.1 < 4 → IntKind.i64.wrap (24 - IntKind.i64.wrap (8 * (x.1 : Int))) = ((24 - 8 * x.1 : Nat) : Int) := fun hx => by
         rw [wrap64_id (n := 8 * (x.1 : Int)) (by omega) (by omega), wrap64_id (by omega) (by omega)]; omega
       have w2 : IntKind.i64.wrap (IntKind.i64.wrap (4 * (i : Int)) + (x.1 : Int)) = ((4 * i + x.1 : Nat) : Int) := by
         rw [wrap64_id (n := 4 * (i : Int)) (by omega) (by omega), wrap64_id (by omega) (by omega)]; omega
       first
       | (rw [w1 (by omega)]; omega)
       | (rw [w2]; omega)
       | (rw [w2]; exact ⟨by omega, by omega⟩)
       | (show D.int .i64 _ = D.int .i64 _; congr 1; rw [wrap64_id (by omega) (by omega)]; omega)
       | (have e := wByte_eq (sstate (m ++ spad m.length)) (4 * i + x.1) (24 - 8 * x.1) (by omega)
          rw [show (4 * i + x.1) / 4 = i by omega] at e
          rw [w1 (by omega), w2, e, Int.toNat_natCast]
          exact congrArg (D.arr 32 1) (dB_set _ (by omega)))
       | (have e : x.1 = 4 := by omega
          rw [e]; rfl))
    | (have hi := hI
       first
       | rfl
       | (rw [Int.toNat_natCast, hg i (by omega)]; first | exact ⟨⟨by omega, by omega⟩, rfl⟩ | rfl)
       | (have e : i = 8 := by omega
          rw [e, dB_all, hd]; done))
    | rfl
    | exact congrArg (D.arr 32 1) (dB_zero _).symm
theorem sstate_nil : sstate [] = sFirst := by unfold sstate; rw [sblocks_small (by simp)]
theorem sum_ok (b : List UInt8) (hl : b.length < 2 ^ 58) : LocalCall Try.prog 99 [.d (.sl (b.map byteD))] [] [] (one [.d (.arr 32 1 ((shaB b).map byteD))]) [] := by
  have h0 : zero64.take (([] : List UInt8).length % 64) = srest [] := rfl
  have hw := write_ok [] zero64 b rfl h0 (by simp; omega)
  obtain ⟨k1, k2⟩ := wrB_ok b.length [] zero64 b (Nat.le_refl _) rfl h0
  have hd := shaDig_ok ([] ++ b) (wrB zero64 (([] : List UInt8).length % 64) b) k1 k2 (by simp; omega)
  rw [List.nil_append] at hw hd
  refine vc_fn mixed Try.func99 rfl rfl [] (vzH rfl) ?_
  repeat' (first | ((with_reducible refine vzH ?_); first | decide +kernel | rfl) | (with_reducible refine vzC ?_; rfl) | (with_reducible first | (refine vzZ ?_; constructor) | refine vzC ?_ | refine vc_call [] new_ok ?_ | refine vc_call [] hw ?_ | refine vc_call [] hd ?_ | refine vzB [] ?_ ?_ ?_ | refine vzD ?_ ?_ | refine vc_ret [] [] ?_) | ((with_reducible first | refine vzE (fun h => ?_) (fun h => ?_) | refine vzF (fun h => ?_) (fun h => ?_)) <;> try (exfalso; omega)) | ((with_reducible refine vzG (fun h => ?_) (fun h => ?_)) <;> (try simp only [Go.Sym.vs1, reduceCtorEq] at h) <;> try (exfalso; first | omega | (simp at h; done))) | ((conv in Vc _ => arg 1; whnf); first | (with_reducible refine vzC ?_; rfl) | (with_reducible first | (refine vzZ ?_; constructor) | refine vzC ?_ | refine vc_call [] new_ok ?_ | refine vc_call [] hw ?_ | refine vc_call [] hd ?_ | refine vzB [] ?_ ?_ ?_ | refine vzD ?_ ?_ | refine vc_ret [] [] ?_) | ((with_reducible first | refine vzE (fun h => ?_) (fun h => ?_) | refine vzF (fun h => ?_) (fun h => ?_)) <;> try (exfalso; omega)) | ((with_reducible refine vzG (fun h => ?_) (fun h => ?_)) <;> (try simp only [Go.Sym.vs1, reduceCtorEq] at h) <;> try (exfalso; first | omega | (simp at h; done)))))
  all_goals first
    | with_reducible rfl
    | (rw [sstate_nil]; rfl)
    | skip
end Go.Proofs.Ytjgkngjeniameaa

namespace Go.Proofs.Ytjgkngjeniameaa
open Go.Sym
set_option maxRecDepth 10000
set_option maxHeartbeats 8000000
def wacc (bl : List UInt8) (q : Nat) : Nat → W32
  | 0 => BitVec.ofNat 32 0
  | c + 1 => wacc bl q c * c256 + bW (bl.getD (4 * q + c) 0)
def wP (bl : List UInt8) (i : Nat) : List W32 := (List.range 64).map fun q => wacc bl q (min 4 (i - 4 * q))
theorem wP_length (bl : List UInt8) (i : Nat) : (wP bl i).length = 64 := by simp [wP]
theorem wP_get (bl : List UInt8) (i : Nat) {q : Nat} (hq : q < 64) : (wP bl i).getD q 0 = wacc bl q (min 4 (i - 4 * q)) := by
  unfold wP
  rw [List.getD_eq_getElem?_getD, List.getElem?_map, List.getElem?_range hq]; rfl
theorem wP_set (bl : List UInt8) {i : Nat} (hi : i < 64) : ((wP bl i).map wD).set (i / 4) (wD (wacc bl (i / 4) (i % 4) * c256 + bW (bl.getD i 0))) = (wP bl (i + 1)).map wD := by
  rw [← List.map_set]
  congr 1
  apply List.ext_getElem?
  intro k
  unfold wP
  rw [List.getElem?_set]
  by_cases hk : i / 4 = k
  · subst hk
    rw [if_pos rfl, List.length_map, List.length_range, if_pos (by omega), List.getElem?_map, List.getElem?_range (by omega)]
    have e : min 4 (i + 1 - 4 * (i / 4)) = i % 4 + 1 := by omega
    have e2 : 4 * (i / 4) + i % 4 = i := by omega
    simp only [Option.map_some, e, wacc, e2]
  · rw [if_neg hk, List.getElem?_map, List.getElem?_map]
    by_cases h8 : k < 64
    · rw [List.getElem?_range h8]
      have : min 4 (i - 4 * k) = min 4 (i + 1 - 4 * k) := by omega
      simp [this]
    · rw [List.getElem?_eq_none (by simpa using h8)]; rfl
theorem wP_zero (bl : List UInt8) : (wP bl 0).map wD = List.replicate 64 (.int .u32 0) := by
  have : wP bl 0 = List.replicate 64 (BitVec.ofNat 32 0) := by
    unfold wP
    have e : ∀ q : Nat, min 4 (0 - 4 * q) = 0 := fun q => by omega
    simp only [e, wacc, List.map_const', List.length_range]
  rw [this, List.map_replicate]; rfl
theorem wP_all (bl : List UInt8) : (wP bl 64).map wD = padW (sched bl 0) := by
  have e : wP bl 64 = sched bl 0 ++ List.replicate 48 (BitVec.ofNat 32 0) := by
    apply List.ext_getElem?
    intro k
    unfold wP sched
    by_cases hk : k < 16
    · rw [List.getElem?_append_left (by simpa using hk), List.getElem?_map, List.getElem?_map, List.getElem?_range hk, List.getElem?_range (show k < 64 by omega)]
      have : min 4 (64 - 4 * k) = 4 := by omega
      simp only [Option.map_some, this]; rfl
    · rw [List.getElem?_append_right (by simpa using hk)]
      by_cases h64 : k < 64
      · rw [List.getElem?_map, List.getElem?_range h64, List.getElem?_replicate, if_pos (by simp; omega)]
        have : min 4 (64 - 4 * k) = 0 := by omega
        simp only [Option.map_some, this]; rfl
      · rw [List.getElem?_eq_none (by simpa using h64), List.getElem?_eq_none (by simp; omega)]
  rw [e]
  unfold padW
  rw [List.map_append, List.map_replicate, sched_length]; rfl
theorem words_ok (bl : List UInt8) (hb : bl.length = 64) :
    LocalCall Try.prog 109 [.d (.sl (bl.map byteD))] [] [] (one [.d (.arr 64 1 ((sched bl 48).map wD))]) [] := by
  have lb : (bl.map byteD).length = 64 := by rw [List.length_map]; exact hb
  have r0 : ∀ (m k : Nat), k < 16 + m → (padW (sched bl m)).getD k .nilp = wD ((sched bl m).getD k 0) := fun m k hk => padW_get (by rw [sched_length]; exact hk)
  have r1 : ∀ m : Nat, m < 48 → IntKind.i64.wrap (((16 + m : Nat) : Int) - 15) = ((m + 1 : Nat) : Int) := fun m hm => by rw [wrap64_id (by omega) (by omega)]; omega
  have r2 : ∀ m : Nat, m < 48 → IntKind.i64.wrap (((16 + m : Nat) : Int) - 2) = ((m + 14 : Nat) : Int) := fun m hm => by rw [wrap64_id (by omega) (by omega)]; omega
  have r3 : ∀ m : Nat, m < 48 → IntKind.i64.wrap (((16 + m : Nat) : Int) - 16) = ((m : Nat) : Int) := fun m hm => by rw [wrap64_id (by omega) (by omega)]; omega
  have r4 : ∀ m : Nat, m < 48 → IntKind.i64.wrap (((16 + m : Nat) : Int) - 7) = ((m + 9 : Nat) : Int) := fun m hm => by rw [wrap64_id (by omega) (by omega)]; omega
  have ga : ∀ m : Nat, m < 48 → ((padW (sched bl m)).getD (IntKind.i64.wrap (((16 + m : Nat) : Int) - 15)).toNat .nilp).toInt = wI ((sched bl m).getD (m + 1) 0) := fun m hm => by rw [r1 m hm, Int.toNat_natCast, r0 m _ (by omega)]; rfl
  have gb : ∀ m : Nat, m < 48 → ((padW (sched bl m)).getD (IntKind.i64.wrap (((16 + m : Nat) : Int) - 2)).toNat .nilp).toInt = wI ((sched bl m).getD (m + 14) 0) := fun m hm => by rw [r2 m hm, Int.toNat_natCast, r0 m _ (by omega)]; rfl
  have gc : ∀ m : Nat, m < 48 → ((padW (sched bl m)).getD (IntKind.i64.wrap (((16 + m : Nat) : Int) - 16)).toNat .nilp).toInt = wI ((sched bl m).getD m 0) := fun m hm => by rw [r3 m hm, Int.toNat_natCast, r0 m _ (by omega)]; rfl
  have gd : ∀ m : Nat, m < 48 → ((padW (sched bl m)).getD (IntKind.i64.wrap (((16 + m : Nat) : Int) - 7)).toNat .nilp).toInt = wI ((sched bl m).getD (m + 9) 0) := fun m hm => by rw [r4 m hm, Int.toNat_natCast, r0 m _ (by omega)]; rfl
  have r7 : ∀ m : Nat, m < 48 → (padW (sched bl m)).set (16 + m) (D.int .u32 (wI ((sched bl m).getD m 0 + (rotr ((sched bl m).getD (m + 1) 0) 7 ^^^ rotr ((sched bl m).getD (m + 1) 0) 18 ^^^ (sched bl m).getD (m + 1) 0 >>> 3) + (sched bl m).getD (m + 9) 0 + (rotr ((sched bl m).getD (m + 14) 0) 17 ^^^ rotr ((sched bl m).getD (m + 14) 0) 19 ^^^ (sched bl m).getD (m + 14) 0 >>> 10)))) = padW (sched bl (m + 1)) := fun m hm => by
    have := padW_set (ws := sched bl m) (by rw [sched_length]; omega) ((sched bl m).getD m 0 + low3 ((sched bl m).getD (m + 1) 0) + (sched bl m).getD (m + 9) 0 + high3 ((sched bl m).getD (m + 14) 0))
    rw [sched_length] at this
    exact this
  refine vc_fn mixed Try.func109 rfl rfl [] (vzH rfl) ?_
  repeat' (first | ((with_reducible refine vzH ?_); first | decide +kernel | rfl) | (with_reducible refine vzC ?_; rfl) | (with_reducible first | (refine vzZ ?_; constructor) | refine vzC ?_ | refine vc_loopI (y := .seq (.seq (.region 3 _ _) _) _) 80 (fun (i : Nat) => [(0, .d (.sl (bl.map byteD))), (2, .ptr 1000 []), (3, .ptr 2000 []), (4, .d (.int .i64 (i : Int)))]) (fun i => [(1000, .var (.d (.arr 64 1 (List.replicate 64 (.int .u32 0))))), (2000, .var (.d (.arr 64 1 ((wP bl i).map wD))))]) (fun i => 64 - i) (fun i => i ≤ 64) 0 [] ?_ ?_ ?_ ?_ ?_ (fun i hI => ?_) | refine vc_loopI (y := .seq (.seq (.region 7 _ _) _) _) 80 (fun (x : Nat × Unit) => [(2, .ptr 1000 []), (3, .ptr 2000 []), (5, .d (.int .i64 ((16 + x.1 : Nat) : Int)))]) (fun x => [(1000, .var (.d (.arr 64 1 (List.replicate 64 (.int .u32 0))))), (2000, .var (.d (.arr 64 1 (padW (sched bl x.1)))))]) (fun x => 48 - x.1) (fun x => x.1 ≤ 48) (0, ()) [] ?_ ?_ ?_ ?_ ?_ (fun x hM => ?_) | refine vc_nextI (x.1 + 1, ()) [] ?_ ?_ ?_ ?_ ?_ ?_ | refine vc_nextI (i + 1 : Nat) [] ?_ ?_ ?_ ?_ ?_ ?_ | refine vc_pure (turn_ok (ga x.1 (by omega)) 7 (by decide)) ?_ ?_ ?_ | refine vc_pure (turn_ok (ga x.1 (by omega)) 18 (by decide)) ?_ ?_ ?_ | refine vc_pure (turn_ok (gb x.1 (by omega)) 17 (by decide)) ?_ ?_ ?_ | refine vc_pure (turn_ok (gb x.1 (by omega)) 19 (by decide)) ?_ ?_ ?_ | refine vzB [] ?_ ?_ ?_ | refine vzD ?_ ?_ | refine vc_ret [] [] ?_) | ((with_reducible first | refine vzE (fun h => ?_) (fun h => ?_) | refine vzF (fun h => ?_) (fun h => ?_)) <;> try (exfalso; omega)) | ((with_reducible refine vzG (fun h => ?_) (fun h => ?_)) <;> (try simp only [Go.Sym.vs1, reduceCtorEq] at h) <;> try (exfalso; first | omega | (simp at h; done))) | ((conv in Vc _ => arg 1; whnf); first | (with_reducible refine vzC ?_; rfl) | (with_reducible first | (refine vzZ ?_; constructor) | refine vzC ?_ | refine vc_loopI (y := .seq (.seq (.region 3 _ _) _) _) 80 (fun (i : Nat) => [(0, .d (.sl (bl.map byteD))), (2, .ptr 1000 []), (3, .ptr 2000 []), (4, .d (.int .i64 (i : Int)))]) (fun i => [(1000, .var (.d (.arr 64 1 (List.replicate 64 (.int .u32 0))))), (2000, .var (.d (.arr 64 1 ((wP bl i).map wD))))]) (fun i => 64 - i) (fun i => i ≤ 64) 0 [] ?_ ?_ ?_ ?_ ?_ (fun i hI => ?_) | refine vc_loopI (y := .seq (.seq (.region 7 _ _) _) _) 80 (fun (x : Nat × Unit) => [(2, .ptr 1000 []), (3, .ptr 2000 []), (5, .d (.int .i64 ((16 + x.1 : Nat) : Int)))]) (fun x => [(1000, .var (.d (.arr 64 1 (List.replicate 64 (.int .u32 0))))), (2000, .var (.d (.arr 64 1 (padW (sched bl x.1)))))]) (fun x => 48 - x.1) (fun x => x.1 ≤ 48) (0, ()) [] ?_ ?_ ?_ ?_ ?_ (fun x hM => ?_) | refine vc_nextI (x.1 + 1, ()) [] ?_ ?_ ?_ ?_ ?_ ?_ | refine vc_nextI (i + 1 : Nat) [] ?_ ?_ ?_ ?_ ?_ ?_ | refine vc_pure (turn_ok (ga x.1 (by omega)) 7 (by decide)) ?_ ?_ ?_ | refine vc_pure (turn_ok (ga x.1 (by omega)) 18 (by decide)) ?_ ?_ ?_ | refine vc_pure (turn_ok (gb x.1 (by omega)) 17 (by decide)) ?_ ?_ ?_ | refine vc_pure (turn_ok (gb x.1 (by omega)) 19 (by decide)) ?_ ?_ ?_ | refine vzB [] ?_ ?_ ?_ | refine vzD ?_ ?_ | refine vc_ret [] [] ?_) | ((with_reducible first | refine vzE (fun h => ?_) (fun h => ?_) | refine vzF (fun h => ?_) (fun h => ?_)) <;> try (exfalso; omega)) | ((with_reducible refine vzG (fun h => ?_) (fun h => ?_)) <;> (try simp only [Go.Sym.vs1, reduceCtorEq] at h) <;> try (exfalso; first | omega | (simp at h; done)))))
  all_goals (try dsimp only)
  all_goals first
    | with_reducible rfl
    | omega
    | (show (0 : Int) ≤ _; decide)
    | exact ⟨by omega, by omega⟩
    | (show D.int .i64 _ = D.int .i64 _; first | rfl | (congr 1; rw [wrap64_id (by omega) (by omega)]; omega))
    | skip
  all_goals first
    | (have hm := hM
       first
       | (have e : x.1 = 48 := by omega
          rw [e, padW_full (sched_length bl 48)]; done)
       | (have hx : x.1 < 48 := by omega
          simp only [r1 x.1 hx, r2 x.1 hx, r3 x.1 hx, r4 x.1 hx, Int.toNat_natCast]
          first
          | exact ⟨by omega, by omega⟩
          | (rw [r0 x.1 _ (by omega)]; exact ⟨⟨by omega, trivial⟩, rfl⟩))
       | (have hx : x.1 < 48 := by omega
          rw [ga x.1 hx, gb x.1 hx, gc x.1 hx, gd x.1 hx]
          have s1 : ∀ x : W32, shrI .u32 (wI x) 3 = wI (x >>> 3) := fun x => w_shr x (k := 3) (by omega)
          have s2 : ∀ x : W32, shrI .u32 (wI x) 10 = wI (x >>> 10) := fun x => w_shr x (k := 10) (by omega)
          simp only [s1, s2, w_xor, w_add, Int.toNat_natCast]
          exact congrArg (D.arr 64 1) (r7 x.1 hx)))
    | (have hi := hI
       have q1 : IntKind.i64.wrap ((i : Int).tdiv 4) = ((i / 4 : Nat) : Int) := by
         rw [Int.tdiv_eq_ediv_of_nonneg (by omega), wrap64_id (by omega) (by omega)]; omega
       first
       | (have e : i = 64 := by omega
          rw [e, wP_all]; done)
       | (rw [q1]; exact ⟨by omega, by omega⟩)
       | (rw [q1]; omega)
       | (have hlt : i / 4 < (wP bl i).length := by rw [wP_length]; omega
          have a1 := w8_get (v := wP bl i) (i / 4) hlt
          rw [q1, Int.toNat_natCast, a1]; exact ⟨⟨by omega, trivial⟩, rfl⟩)
       | (rw [Int.toNat_natCast, getD_byte (by omega)]; exact ⟨⟨by omega, by omega⟩, rfl⟩)
       | (have hlt : i / 4 < (wP bl i).length := by rw [wP_length]; omega
          have a1 := w8_get (v := wP bl i) (i / 4) hlt
          have a2 : (bl.map byteD).getD i .nilp = byteD (bl.getD i 0) := getD_byte (by omega)
          have a3 := wP_get bl i (show i / 4 < 64 by omega)
          rw [show min 4 (i - 4 * (i / 4)) = i % 4 by omega] at a3
          have a4 : (byteD (bl.getD i 0)).toInt = ((bl.getD i 0).toNat : Int) := rfl
          have a5 : (wD ((wP bl i).getD (i / 4) 0)).toInt = wI (wacc bl (i / 4) (i % 4)) := by rw [a3]; rfl
          have a6 : (256 : Int) = wI c256 := rfl
          rw [q1, Int.toNat_natCast, Int.toNat_natCast, a1, a2, a4, a5, bW_wrap, a6, w_mul, w_add]
          exact congrArg (D.arr 64 1) (wP_set bl (by omega))))
    | rfl
    | exact congrArg (D.arr 64 1) (wP_zero bl).symm
end Go.Proofs.Ytjgkngjeniameaa

namespace Go.Proofs.Ytjgkngjeniameaa
open Go.Sym
set_option maxRecDepth 10000
set_option maxHeartbeats 8000000
theorem sround_ref (v : List W32) (k w : W32) : (sround v k w).map wD = [D.int .u32 (wI (v.getD 7 0 + (rotr (v.getD 4 0) 6 ^^^ rotr (v.getD 4 0) 11 ^^^ rotr (v.getD 4 0) 25) + (v.getD 4 0 &&& v.getD 5 0 ^^^ ~~~ v.getD 4 0 &&& v.getD 6 0) + k + w + (rotr (v.getD 0 0) 2 ^^^ rotr (v.getD 0 0) 13 ^^^ rotr (v.getD 0 0) 22) + (v.getD 0 0 &&& v.getD 1 0 ^^^ v.getD 0 0 &&& v.getD 2 0 ^^^ v.getD 1 0 &&& v.getD 2 0))),
    D.int .u32 (wI (v.getD 0 0)), D.int .u32 (wI (v.getD 1 0)), D.int .u32 (wI (v.getD 2 0)), D.int .u32 (wI (v.getD 3 0 + (v.getD 7 0 + (rotr (v.getD 4 0) 6 ^^^ rotr (v.getD 4 0) 11 ^^^ rotr (v.getD 4 0) 25) + (v.getD 4 0 &&& v.getD 5 0 ^^^ ~~~ v.getD 4 0 &&& v.getD 6 0) + k + w))), D.int .u32 (wI (v.getD 4 0)), D.int .u32 (wI (v.getD 5 0)), D.int .u32 (wI (v.getD 6 0))] := by
  rw [BitVec.add_assoc (_ + w)]
  rfl
theorem block_ok (hs : List W32) (bl : List UInt8) (hh : hs.length = 8) (hb : bl.length = 64) :
    LocalCall Try.prog 104 [.d (.arr 8 1 (hs.map wD)), .d (.sl (bl.map byteD))] [] [] (one [.d (.arr 8 1 ((sblock hs bl).map wD))]) [] := by
  have hV : ∀ t, (srounds sK (sched bl 48) hs t).length = 8 := srounds_length _ _ hh
  have g : ∀ t k, k < 8 → ((srounds sK (sched bl 48) hs t).map wD).getD k .nilp = wD ((srounds sK (sched bl 48) hs t).getD k 0) := fun t k hk => w8_get k (by rw [hV]; exact hk)
  have g0 : ∀ t, (((srounds sK (sched bl 48) hs t).map wD).getD (Int.toNat 0) .nilp).toInt = wI ((srounds sK (sched bl 48) hs t).getD 0 0) := fun t => by rw [show Int.toNat 0 = 0 from rfl, g t 0 (by omega)]; rfl
  have g4 : ∀ t, (((srounds sK (sched bl 48) hs t).map wD).getD (Int.toNat 4) .nilp).toInt = wI ((srounds sK (sched bl 48) hs t).getD 4 0) := fun t => by rw [show Int.toNat 4 = 4 from rfl, g t 4 (by omega)]; rfl
  refine vc_fn mixed Try.func104 rfl rfl [] (vzH rfl) ?_
  repeat' (first | ((with_reducible refine vzH ?_); first | decide +kernel | rfl) | (with_reducible refine vzC ?_; rfl) | (with_reducible first | (refine vzZ ?_; constructor) | refine vzC ?_ | refine vc_pure (words_ok bl hb) ?_ ?_ ?_ | refine vc_pure round_ok ?_ ?_ ?_ | refine vc_loopI (y := .seq (.seq (.region 5 _ _) _) _) 124 (fun (t : Nat) => [(2, .ptr 1000 []), (4, .ptr 1004 []), (5, .ptr 2008 []), (6, .ptr 3004 []), (7, .ptr 4004 []), (8, .d (.int .i64 (t : Int)))]) (fun t => [(1000, .var (.d (.arr 8 1 (hs.map wD)))), (1004, .var (.d (.arr 8 1 (List.replicate 8 (.int .u32 0))))), (2008, .var (.d (.arr 64 1 ((sched bl 48).map wD)))), (3004, .var (.d (.arr 64 1 (sK.map wD)))), (4004, .var (.d (.arr 8 1 ((srounds sK (sched bl 48) hs t).map wD))))]) (fun t => 64 - t) (fun t => t ≤ 64) 0 [] ?_ ?_ ?_ ?_ ?_ (fun t hI => ?_) | refine vc_loopI (y := .seq (.seq (.region 14 _ _) _) _) 124 (fun (x : Nat × Unit) => [(2, .ptr 1000 []), (4, .ptr 1004 []), (7, .ptr 4004 []), (14, .d (.int .i64 (x.1 : Int)))]) (fun x => [(1000, .var (.d (.arr 8 1 ((addW hs (srounds sK (sched bl 48) hs 64) x.1).map wD)))), (1004, .var (.d (.arr 8 1 (List.replicate 8 (.int .u32 0))))), (4004, .var (.d (.arr 8 1 ((srounds sK (sched bl 48) hs 64).map wD))))]) (fun x => 8 - x.1) (fun x => x.1 ≤ 8) (0, ()) [] ?_ ?_ ?_ ?_ ?_ (fun x hM => ?_) | refine vc_nextI (t + 1 : Nat) [] ?_ ?_ ?_ ?_ ?_ ?_ | refine vc_nextI (x.1 + 1, ()) [] ?_ ?_ ?_ ?_ ?_ ?_ | refine vc_pure (turn_ok (g0 t) 2 (by decide)) ?_ ?_ ?_ | refine vc_pure (turn_ok (g0 t) 13 (by decide)) ?_ ?_ ?_ | refine vc_pure (turn_ok (g0 t) 22 (by decide)) ?_ ?_ ?_ | refine vc_pure (turn_ok (g4 t) 6 (by decide)) ?_ ?_ ?_ | refine vc_pure (turn_ok (g4 t) 11 (by decide)) ?_ ?_ ?_ | refine vc_pure (turn_ok (g4 t) 25 (by decide)) ?_ ?_ ?_ | refine vzB [] ?_ ?_ ?_ | refine vzD ?_ ?_ | refine vc_ret [] [] ?_) | ((with_reducible first | refine vzE (fun h => ?_) (fun h => ?_) | refine vzF (fun h => ?_) (fun h => ?_)) <;> try (exfalso; omega)) | ((with_reducible refine vzG (fun h => ?_) (fun h => ?_)) <;> (try simp only [Go.Sym.vs1, reduceCtorEq] at h) <;> try (exfalso; first | omega | (simp at h; done))) | ((conv in Vc _ => arg 1; whnf); first | (with_reducible refine vzC ?_; rfl) | (with_reducible first | (refine vzZ ?_; constructor) | refine vzC ?_ | refine vc_pure (words_ok bl hb) ?_ ?_ ?_ | refine vc_pure round_ok ?_ ?_ ?_ | refine vc_loopI (y := .seq (.seq (.region 5 _ _) _) _) 124 (fun (t : Nat) => [(2, .ptr 1000 []), (4, .ptr 1004 []), (5, .ptr 2008 []), (6, .ptr 3004 []), (7, .ptr 4004 []), (8, .d (.int .i64 (t : Int)))]) (fun t => [(1000, .var (.d (.arr 8 1 (hs.map wD)))), (1004, .var (.d (.arr 8 1 (List.replicate 8 (.int .u32 0))))), (2008, .var (.d (.arr 64 1 ((sched bl 48).map wD)))), (3004, .var (.d (.arr 64 1 (sK.map wD)))), (4004, .var (.d (.arr 8 1 ((srounds sK (sched bl 48) hs t).map wD))))]) (fun t => 64 - t) (fun t => t ≤ 64) 0 [] ?_ ?_ ?_ ?_ ?_ (fun t hI => ?_) | refine vc_loopI (y := .seq (.seq (.region 14 _ _) _) _) 124 (fun (x : Nat × Unit) => [(2, .ptr 1000 []), (4, .ptr 1004 []), (7, .ptr 4004 []), (14, .d (.int .i64 (x.1 : Int)))]) (fun x => [(1000, .var (.d (.arr 8 1 ((addW hs (srounds sK (sched bl 48) hs 64) x.1).map wD)))), (1004, .var (.d (.arr 8 1 (List.replicate 8 (.int .u32 0))))), (4004, .var (.d (.arr 8 1 ((srounds sK (sched bl 48) hs 64).map wD))))]) (fun x => 8 - x.1) (fun x => x.1 ≤ 8) (0, ()) [] ?_ ?_ ?_ ?_ ?_ (fun x hM => ?_) | refine vc_nextI (t + 1 : Nat) [] ?_ ?_ ?_ ?_ ?_ ?_ | refine vc_nextI (x.1 + 1, ()) [] ?_ ?_ ?_ ?_ ?_ ?_ | refine vc_pure (turn_ok (g0 t) 2 (by decide)) ?_ ?_ ?_ | refine vc_pure (turn_ok (g0 t) 13 (by decide)) ?_ ?_ ?_ | refine vc_pure (turn_ok (g0 t) 22 (by decide)) ?_ ?_ ?_ | refine vc_pure (turn_ok (g4 t) 6 (by decide)) ?_ ?_ ?_ | refine vc_pure (turn_ok (g4 t) 11 (by decide)) ?_ ?_ ?_ | refine vc_pure (turn_ok (g4 t) 25 (by decide)) ?_ ?_ ?_ | refine vzB [] ?_ ?_ ?_ | refine vzD ?_ ?_ | refine vc_ret [] [] ?_) | ((with_reducible first | refine vzE (fun h => ?_) (fun h => ?_) | refine vzF (fun h => ?_) (fun h => ?_)) <;> try (exfalso; omega)) | ((with_reducible refine vzG (fun h => ?_) (fun h => ?_)) <;> (try simp only [Go.Sym.vs1, reduceCtorEq] at h) <;> try (exfalso; first | omega | (simp at h; done)))))
  all_goals (try dsimp only)
  all_goals first
    | with_reducible rfl
    | omega
    | exact ⟨by omega, by omega⟩
    | (show D.int .i64 _ = D.int .i64 _; first | rfl | (congr 1; rw [wrap64_id (by omega) (by omega)]; omega))
    | ((repeat' apply And.intro) <;> first | trivial | decide)
    | skip
  all_goals first
    | (have hm := hM
       have hW : (srounds sK (sched bl 48) hs 64).length = 8 := hV 64
       first
       | (have ht : x.1 < 8 := by omega
          have a1 := w8_get (v := srounds sK (sched bl 48) hs 64) x.1 (by rw [hV]; exact ht)
          rw [Int.toNat_natCast, a1]
          exact ⟨⟨by omega, trivial⟩, rfl⟩)
       | (have ht : x.1 < 8 := by omega
          have a2 := w8_get (v := addW hs (srounds sK (sched bl 48) hs 64) x.1) x.1 (by rw [addW_length]; exact ht)
          rw [Int.toNat_natCast, a2]
          exact ⟨⟨by omega, trivial⟩, rfl⟩)
       | (have ht : x.1 < 8 := by omega
          have a1 := w8_get (v := srounds sK (sched bl 48) hs 64) x.1 (by rw [hV]; exact ht)
          have a2 := w8_get (v := addW hs (srounds sK (sched bl 48) hs 64) x.1) x.1 (by rw [addW_length]; exact ht)
          rw [Int.toNat_natCast, a1, a2, addW_get _ _ ht]
          have e1 : (wD (hs.getD x.1 0)).toInt = wI (hs.getD x.1 0) := rfl
          have e2 : (wD ((srounds sK (sched bl 48) hs 64).getD x.1 0)).toInt = wI ((srounds sK (sched bl 48) hs 64).getD x.1 0) := rfl
          rw [e1, e2, w_add]
          exact congrArg (D.arr 8 1) (addW_set hs (srounds sK (sched bl 48) hs 64) ht))
       | (have e : x.1 = 8 := by omega
          rw [e]
          rfl)
       | skip)
    | (have ht := hI
       (try simp only [n0, n1, n2, n3, n4, n5, n6, n7, n8, Int.toNat_natCast])
       first
       | (rw [g t _ (by omega)]; exact ⟨⟨by omega, trivial⟩, rfl⟩)
       | (rw [w8_get t (by rw [sched_length]; omega)]; exact ⟨⟨by omega, trivial⟩, rfl⟩)
       | (rw [w8_get t (show t < sK.length from (by omega : t < 64))]; exact ⟨⟨by omega, trivial⟩, rfl⟩)
       | (have gi : ∀ k, k < 8 → (((srounds sK (sched bl 48) hs t).map wD).getD k .nilp).toInt = wI ((srounds sK (sched bl 48) hs t).getD k 0) := fun k hk => by rw [g t k hk]; rfl
          have gk : ((sK.map wD).getD t .nilp).toInt = wI (sK.getD t 0) := by rw [w8_get t (show t < sK.length from (by omega : t < 64))]; rfl
          have gw : (((sched bl 48).map wD).getD t .nilp).toInt = wI ((sched bl 48).getD t 0) := by rw [w8_get t (by rw [sched_length]; omega)]; rfl
          simp only [gi 0 (by omega), gi 1 (by omega), gi 2 (by omega), gi 3 (by omega), gi 4 (by omega), gi 5 (by omega), gi 6 (by omega), gi 7 (by omega), gk, gw, w_not2, w_xor, w_and, w_add]
          exact congrArg (D.arr 8 1) (sround_ref _ _ _).symm)
       | (have e : t = 64 := by omega
          subst e
          first
          | with_reducible rfl
          | (rw [addW_zero _ hh]; done))
       | skip)
    | with_reducible rfl
    | exact congrArg (D.arr 8 1) rfl
    | skip
end Go.Proofs.Ytjgkngjeniameaa

namespace Go.Proofs.Ytjgkngjeniameaa
open Go.Sym
set_option maxRecDepth 10000
set_option maxHeartbeats 8000000
def sAt (a : List UInt8) (j : Nat) : List W32 := sblocks sFirst (a.take (64 * j))
theorem sAt_zero (a : List UInt8) : sAt a 0 = sFirst := by
  unfold sAt
  rw [sblocks_small (by simp)]
theorem sAt_length (a : List UInt8) (j : Nat) : (sAt a j).length = 8 := sblocks_length rfl
theorem sAt_next {a : List UInt8} {j : Nat} (h : 64 * j + 64 ≤ a.length) : sblock (sAt a j) ((a.drop (64 * j)).take 64) = sAt a (j + 1) := by
  unfold sAt
  have e : a.take (64 * (j + 1)) = a.take (64 * j) ++ (a.drop (64 * j)).take 64 := by
    rw [show 64 * (j + 1) = 64 * j + 64 by omega, List.take_add]
  have hl : ((a.drop (64 * j)).take 64).length = 64 := by rw [List.length_take, List.length_drop]; omega
  have t : ((a.drop (64 * j)).take 64).take 64 = (a.drop (64 * j)).take 64 := List.take_of_length_le (by omega)
  have d : ((a.drop (64 * j)).take 64).drop 64 = [] := List.drop_of_length_le (by omega)
  rw [e, sblocks_append _ _ _ (by rw [List.length_take]; omega), sblocks_big (m := (a.drop (64 * j)).take 64) (by omega), t, d, sblocks_small (m := []) (by simp)]
theorem sAt_all {a : List UInt8} {j : Nat} (h : a.length < 64 * j + 64) (h2 : 64 * j ≤ a.length) : sAt a j = sblocks sFirst a := by
  unfold sAt
  rw [sblocks_rest sFirst a]
  congr 2; omega
theorem shaB_of (b : List UInt8) (h : b.length < 2 ^ 60) : wBytes (sblocks sFirst (b ++ spad b.length)) = shaB b := by
  unfold shaB
  rw [Nat.mod_eq_of_lt (show b.length < 2 ^ 64 by omega)]
theorem rSum_ok (b : List UInt8) (hl : b.length < 2 ^ 28) : LocalCall Try.prog 90 [.d (.sl (b.map byteD))] [] [] (one [.d (.arr 32 1 ((shaB b).map byteD))]) [] := by
  have hpl : (spad b.length).length ≤ 72 := by rw [spad_length]; omega
  have hA : (b ++ spad b.length).length = b.length + (spad b.length).length := List.length_append
  have hu : IntKind.u64.wrap ((b.map byteD).length : Int) = (b.length : Int) := by rw [List.length_map, u64_wrap]; omega
  have hp : LocalCall Try.prog 102 [.d (.int .u64 (IntKind.u64.wrap ((b.map byteD).length : Int)))] [] [] (one [.d (.sl ((spad b.length).map byteD))]) [] := by rw [hu]; exact rPad_ok b.length (by omega)
  generalize hAe : b ++ spad b.length = A at *
  have lA : (A.map byteD).length = A.length := List.length_map _
  have hbl : ∀ j, 64 * j + 64 ≤ A.length → ((A.drop (64 * j)).take 64).length = 64 := fun j h => by rw [List.length_take, List.length_drop]; omega
  have w64 : ∀ j, 64 * j ≤ A.length → IntKind.i64.wrap (((64 * j : Nat) : Int) + 64) = ((64 * j + 64 : Nat) : Int) := fun j h => by rw [wrap64_id (by omega) (by omega)]; rfl
  have hb2 : ∀ j, 64 * j ≤ A.length → IntKind.i64.wrap (((64 * j : Nat) : Int) + 64) ≤ ((A.map byteD).length : Int) → ((A.drop (64 * j)).take 64).length = 64 := fun j h1 h2 => hbl j (by rw [w64 j h1, lA] at h2; omega)
  have hS := sblocks_length (m := A) (h := sFirst) rfl
  have hd : wBytes (sblocks sFirst A) = shaB b := by rw [← hAe]; exact shaB_of b (by omega)
  refine vc_fn mixed Try.func90 rfl rfl [(5, [3])] (vzH rfl) ?_
  repeat' (first | ((with_reducible refine vzH ?_); first | decide +kernel | rfl) | (with_reducible refine vzC ?_; rfl) | (with_reducible first | (refine vzZ ?_; constructor) | refine vzC ?_ | refine vc_pure hp ?_ ?_ ?_ | refine vc_pure first_ok ?_ ?_ ?_ | refine vc_loopI (y := .seq (.seq (.region 6 _ _) _) _) 50 (fun (j : Nat) => [(2, .ptr 1000 []), (3, .d (.sl (A.map byteD))), (4, .ptr 5004 []), (5, .d (.int .i64 ((64 * j : Nat) : Int)))]) (fun j => [(1000, .var (.d (.arr 32 1 (List.replicate 32 (.int .u8 0))))), (5004, .var (.d (.arr 8 1 ((sAt A j).map wD))))]) (fun j => A.length - 64 * j) (fun j => 64 * j ≤ A.length) 0 [] ?_ ?_ ?_ ?_ ?_ (fun j hI => ?_) | refine vc_call [] (block_ok (sAt A j) ((A.drop (64 * j)).take 64) (sAt_length _ _) (hb2 j hI h)) ?_ | refine vc_loopI (y := .seq (.seq (.region 11 _ _) _) _) 50 (fun (x : Nat × Unit) => [(2, .ptr 1000 []), (4, .ptr 5004 []), (6, .ptr 10000 []), (7, .d (.int .i64 (x.1 : Int)))]) (fun x => [(1000, .var (.d (.arr 32 1 (List.replicate 32 (.int .u8 0))))), (5004, .var (.d (.arr 8 1 ((sblocks sFirst A).map wD)))), (10000, .var (.d (.arr 32 1 ((dB (sblocks sFirst A) x.1).map byteD))))]) (fun x => 32 - x.1) (fun x => x.1 ≤ 32) (0, ()) [] ?_ ?_ ?_ ?_ ?_ (fun x hM => ?_) | refine vc_nextI (j + 1 : Nat) [] ?_ ?_ ?_ ?_ ?_ ?_ | refine vc_nextI (x.1 + 1, ()) [] ?_ ?_ ?_ ?_ ?_ ?_ | refine vzB [] ?_ ?_ ?_ | refine vzD ?_ ?_ | refine vc_ret [] [] ?_) | ((with_reducible first | refine vzE (fun h => ?_) (fun h => ?_) | refine vzF (fun h => ?_) (fun h => ?_)) <;> try (exfalso; omega)) | ((with_reducible refine vzG (fun h => ?_) (fun h => ?_)) <;> (try simp only [Go.Sym.vs1, reduceCtorEq] at h) <;> try (exfalso; first | omega | (simp at h; done))) | ((conv in Vc _ => arg 1; whnf); first | (with_reducible refine vzC ?_; rfl) | (with_reducible first | (refine vzZ ?_; constructor) | refine vzC ?_ | refine vc_pure hp ?_ ?_ ?_ | refine vc_pure first_ok ?_ ?_ ?_ | refine vc_loopI (y := .seq (.seq (.region 6 _ _) _) _) 50 (fun (j : Nat) => [(2, .ptr 1000 []), (3, .d (.sl (A.map byteD))), (4, .ptr 5004 []), (5, .d (.int .i64 ((64 * j : Nat) : Int)))]) (fun j => [(1000, .var (.d (.arr 32 1 (List.replicate 32 (.int .u8 0))))), (5004, .var (.d (.arr 8 1 ((sAt A j).map wD))))]) (fun j => A.length - 64 * j) (fun j => 64 * j ≤ A.length) 0 [] ?_ ?_ ?_ ?_ ?_ (fun j hI => ?_) | refine vc_call [] (block_ok (sAt A j) ((A.drop (64 * j)).take 64) (sAt_length _ _) (hb2 j hI h)) ?_ | refine vc_loopI (y := .seq (.seq (.region 11 _ _) _) _) 50 (fun (x : Nat × Unit) => [(2, .ptr 1000 []), (4, .ptr 5004 []), (6, .ptr 10000 []), (7, .d (.int .i64 (x.1 : Int)))]) (fun x => [(1000, .var (.d (.arr 32 1 (List.replicate 32 (.int .u8 0))))), (5004, .var (.d (.arr 8 1 ((sblocks sFirst A).map wD)))), (10000, .var (.d (.arr 32 1 ((dB (sblocks sFirst A) x.1).map byteD))))]) (fun x => 32 - x.1) (fun x => x.1 ≤ 32) (0, ()) [] ?_ ?_ ?_ ?_ ?_ (fun x hM => ?_) | refine vc_nextI (j + 1 : Nat) [] ?_ ?_ ?_ ?_ ?_ ?_ | refine vc_nextI (x.1 + 1, ()) [] ?_ ?_ ?_ ?_ ?_ ?_ | refine vzB [] ?_ ?_ ?_ | refine vzD ?_ ?_ | refine vc_ret [] [] ?_) | ((with_reducible first | refine vzE (fun h => ?_) (fun h => ?_) | refine vzF (fun h => ?_) (fun h => ?_)) <;> try (exfalso; omega)) | ((with_reducible refine vzG (fun h => ?_) (fun h => ?_)) <;> (try simp only [Go.Sym.vs1, reduceCtorEq] at h) <;> try (exfalso; first | omega | (simp at h; done)))))
  all_goals (try dsimp only)
  all_goals first
    | with_reducible rfl
    | omega
    | skip
  all_goals first
    | (have hm := hM
       first
       | (show D.int .i64 _ = D.int .i64 _; congr 1; rw [wrap64_id (by omega) (by omega)]; omega)
       | (have e : x.1 = 32 := by omega
          rw [e, dB_all, hd]; done)
       | (have q1 : IntKind.i64.wrap ((x.1 : Int).tdiv 4) = ((x.1 / 4 : Nat) : Int) := by
            rw [Int.tdiv_eq_ediv_of_nonneg (by omega), wrap64_id (by omega) (by omega)]; omega
          have q2 : (x.1 : Int).tmod 4 = ((x.1 % 4 : Nat) : Int) := by
            rw [Int.tmod_eq_emod_of_nonneg (by omega)]; omega
          have q3 : IntKind.u64.wrap (IntKind.i64.wrap (24 - IntKind.i64.wrap (8 * ((x.1 % 4 : Nat) : Int)))) = ((24 - 8 * (x.1 % 4) : Nat) : Int) := by
            rw [wrap64_id (n := 8 * ((x.1 % 4 : Nat) : Int)) (by omega) (by omega), wrap64_id (by omega) (by omega), u64_wrap]; omega
          have a1 := w8_get (v := sblocks sFirst A) (x.1 / 4) (by rw [hS]; omega)
          have a2 : (wD ((sblocks sFirst A).getD (x.1 / 4) 0)).toInt = wI ((sblocks sFirst A).getD (x.1 / 4) 0) := rfl
          have e := wByte_eq (sblocks sFirst A) x.1 (24 - 8 * (x.1 % 4)) rfl
          simp only [q1, q2, q3, Int.toNat_natCast, a1]
          first
          | exact ⟨by omega, by omega⟩
          | omega
          | exact ⟨⟨by omega, trivial⟩, rfl⟩
          | (rw [a2, e]
             exact congrArg (D.arr 32 1) (dB_set _ (by omega)))))
    | (have hi := hI
       (try rw [w64 j hI] at h)
       (try rw [w64 j hI])
       first
       | omega
       | exact ⟨⟨by omega, by omega, by omega⟩, fun y hy => by obtain ⟨c, _, rfl⟩ := List.mem_map.1 hy; rfl⟩
       | (show D.sl _ = D.sl _
          unfold cutD
          rw [Int.toNat_natCast, Int.toNat_natCast, ← List.map_take, ← List.map_drop, List.drop_take, show 64 * j + 64 - 64 * j = 64 by omega]; done)
       | (rw [sAt_next (by omega)]; done)
       | (rw [sAt_all (by omega) (by omega)]; done)
       | rfl
       | exact congrArg (D.arr 32 1) (dB_zero _).symm)
    | exact ⟨⟨trivial, room_small rfl (by rw [List.length_map]; omega)⟩, fun y hy => by obtain ⟨c, _, rfl⟩ := List.mem_map.1 hy; rfl⟩
    | exact ⟨⟨trivial, rfl, room_small rfl (by rw [List.length_append, List.length_map, List.length_map]; omega)⟩, fun y hy => by obtain ⟨c, _, rfl⟩ := List.mem_map.1 hy; rfl⟩
    | (rw [List.drop_zero, List.take_length, ← List.map_append, hAe]; done)
    | (rw [sAt_zero]; done)
    | (rw [sAt_zero]; rfl)
    | rfl
end Go.Proofs.Ytjgkngjeniameaa

namespace Go.Proofs.Ytjgkngjeniameaa
open Go.Sym
set_option maxRecDepth 10000
set_option maxHeartbeats 1000000
def byt8 (n i : Nat) : UInt8 := UInt8.ofNat (n / 2 ^ (56 - 8 * i) % 256)
def num8 (n : Nat) : List UInt8 := (List.range 8).map (byt8 n)
theorem num8_length (n : Nat) : (num8 n).length = 8 := by simp [num8]
def row8 (n i : Nat) : List UInt8 := (List.range 8).map fun j => bif decide (j < i) then byt8 n j else 0
theorem row8_all (n : Nat) : row8 n 8 = num8 n := by
  unfold row8 num8
  apply List.map_congr_left
  intro j hj
  rw [decide_eq_true (List.mem_range.1 hj), cond_true]
theorem row8_set (n i : Nat) (hi : i < 8) : ((row8 n i).map byteD).set i (byteD (byt8 n i)) = (row8 n (i + 1)).map byteD := by
  rw [← List.map_set]
  congr 1
  unfold row8
  apply List.ext_getElem
  · simp
  intro j h1 h2
  rw [List.getElem_set]
  simp only [List.getElem_map, List.getElem_range]
  by_cases h : i = j
  · subst h; rw [if_pos rfl, decide_eq_true (by omega), cond_true]
  · rw [if_neg h]
    by_cases h3 : j < i
    · rw [decide_eq_true h3, decide_eq_true (by omega)]
    · rw [decide_eq_false h3, decide_eq_false (by omega)]
theorem row8_length (n i : Nat) : (row8 n i).length = 8 := by simp [row8]
theorem take8 {l : List UInt8} (h : l.length = 8) : List.take (8 - Int.toNat 0) (List.drop (Int.toNat 0) (l.map byteD)) = l.map byteD := by
  show List.take 8 (List.drop 0 _) = _
  rw [List.drop_zero, List.take_of_length_le (by rw [List.length_map]; omega)]
theorem byt8_eq (n i : Nat) (k : Int) (hk : k = ((56 - 8 * i : Nat) : Int)) : D.int .u8 (IntKind.u8.wrap (shrI .u64 (n : Int) k)) = byteD (byt8 n i) := by
  subst hk
  rw [shr_u64 _ _ (by omega), u8_wrap]
  have h : n / 2 ^ (56 - 8 * i) % 256 < 256 := Nat.mod_lt _ (by decide)
  show _ = D.int .u8 (((UInt8.ofNat (n / 2 ^ (56 - 8 * i) % 256)).toNat : Nat) : Int)
  rw [UInt8.toNat_ofNat_of_lt' (by simpa using h)]
  exact congrArg (D.int .u8) (by omega)
theorem number_ok (x : Int) (n : Nat) (hx : x = n) : LocalCall Try.prog 97 [.d (.int .u64 x)] [] [] (one [.d (.sl ((num8 n).map byteD))]) [] := by
  subst hx
  have hw : ∀ i : Nat, i < 8 → IntKind.i64.wrap (56 - IntKind.i64.wrap (8 * (i : Int))) = ((56 - 8 * i : Nat) : Int) := fun i hi => by
    rw [wrap64_id (n := 8 * (i : Int)) (by omega) (by omega), wrap64_id (by omega) (by omega)]; omega
  refine vc_fn mixed Try.func97 rfl rfl [] (vzH rfl) ?_
  repeat' (first | ((with_reducible refine vzH ?_); first | decide +kernel | rfl) | (with_reducible refine vzC ?_; rfl) | (with_reducible first | (refine vzZ ?_; constructor) | refine vzC ?_ | refine vc_loopI 18 (fun (i : Nat) => [(0, .d (.int .u64 (n : Int))), (3, .ptr 2000 []), (5, .d (.int .i64 (i : Int)))]) (fun i => [(2000, .var (.d (.arr 8 1 ((row8 n i).map byteD))))]) (fun i => 8 - i) (fun i => i ≤ 8) 0 [] ?_ ?_ ?_ ?_ ?_ (fun i hI => ?_) | refine vc_nextI (i + 1) [] ?_ ?_ ?_ ?_ ?_ ?_ | refine vc_ret [true] [] ?_ | refine vzB [] ?_ ?_ ?_ | refine vzD ?_ ?_ | refine vc_ret [] [] ?_) | ((with_reducible first | refine vzE (fun h => ?_) (fun h => ?_) | refine vzF (fun h => ?_) (fun h => ?_)) <;> try (exfalso; omega)) | ((with_reducible refine vzG (fun h => ?_) (fun h => ?_)) <;> (try simp only [Go.Sym.vs1, reduceCtorEq] at h) <;> try (exfalso; first | omega | (simp at h; done))) | ((conv in Vc _ => arg 1; whnf); first | (with_reducible refine vzC ?_; rfl) | (with_reducible first | (refine vzZ ?_; constructor) | refine vzC ?_ | refine vc_loopI 18 (fun (i : Nat) => [(0, .d (.int .u64 (n : Int))), (3, .ptr 2000 []), (5, .d (.int .i64 (i : Int)))]) (fun i => [(2000, .var (.d (.arr 8 1 ((row8 n i).map byteD))))]) (fun i => 8 - i) (fun i => i ≤ 8) 0 [] ?_ ?_ ?_ ?_ ?_ (fun i hI => ?_) | refine vc_nextI (i + 1) [] ?_ ?_ ?_ ?_ ?_ ?_ | refine vc_ret [true] [] ?_ | refine vzB [] ?_ ?_ ?_ | refine vzD ?_ ?_ | refine vc_ret [] [] ?_) | ((with_reducible first | refine vzE (fun h => ?_) (fun h => ?_) | refine vzF (fun h => ?_) (fun h => ?_)) <;> try (exfalso; omega)) | ((with_reducible refine vzG (fun h => ?_) (fun h => ?_)) <;> (try simp only [Go.Sym.vs1, reduceCtorEq] at h) <;> try (exfalso; first | omega | (simp at h; done)))))
  all_goals (try simp only [Int.toNat_natCast])
  all_goals first
    | rfl
    | omega
    | (have hw2 := hw i (by omega); refine Int.le_trans ?_ (Int.le_of_eq hw2.symm); omega)
    | (rw [wrap64_id (by omega) (by omega)]; rfl)
    | (refine congrArg (D.arr 8 1) (Eq.trans (congrArg (List.set _ i) (byt8_eq n i _ (hw i (by omega)))) (row8_set n i (by omega))))
    | exact ⟨⟨by omega, by omega, by omega⟩, trivial⟩
    | (refine ⟨⟨trivial, ?_⟩, trivial⟩; rw [List.length_map, row8_length]; omega)
    | (obtain rfl : i = 8 := by omega
       rw [row8_all]; exact congrArg D.sl (take8 (num8_length n)))
    | skip
def row8r (n j : Nat) : List UInt8 := (List.range 8).map fun t => bif decide (8 - j ≤ t) then byt8 n t else 0
theorem row8r_all (n : Nat) : row8r n 8 = num8 n := by
  unfold row8r num8
  apply List.map_congr_left
  intro j hj
  rw [decide_eq_true (by omega), cond_true]
theorem row8r_length (n j : Nat) : (row8r n j).length = 8 := by simp [row8r]
theorem row8r_set (n j : Nat) (hj : j < 8) : ((row8r n j).map byteD).set (7 - j) (byteD (byt8 n (7 - j))) = (row8r n (j + 1)).map byteD := by
  rw [← List.map_set]
  congr 1
  unfold row8r
  apply List.ext_getElem
  · simp
  intro t h1 h2
  rw [List.getElem_set]
  simp only [List.getElem_map, List.getElem_range]
  by_cases h : 7 - j = t
  · subst h; rw [if_pos rfl, decide_eq_true (by omega), cond_true]
  · rw [if_neg h]
    by_cases h3 : 8 - j ≤ t
    · rw [decide_eq_true h3, decide_eq_true (by omega)]
    · rw [decide_eq_false h3, decide_eq_false (by omega)]
theorem pow_8 (j : Nat) : 2 ^ (8 * j) = 256 ^ j := by rw [Nat.pow_mul]
theorem byt8_low (n j : Nat) (hj : j < 8) : byt8 n (7 - j) = UInt8.ofNat (n / 256 ^ j % 256) := by
  unfold byt8
  rw [← pow_8, show 56 - 8 * (7 - j) = 8 * j by omega]
theorem rNumber_ok (x : Int) (n : Nat) (hx : x = n) (hn : n < 2 ^ 64) : LocalCall Try.prog 89 [.d (.int .u64 x)] [] [] (one [.d (.sl ((num8 n).map byteD))]) [] := by
  subst hx
  have h8 : ∀ j : Nat, ((row8r n j).map byteD).length = 8 := fun j => by rw [List.length_map, row8r_length]
  have hb : ∀ j : Nat, j < 8 → D.int .u8 (IntKind.u8.wrap (((n / 256 ^ j : Nat) : Int).tmod 256)) = byteD (byt8 n (7 - j)) := fun j hj => by
    rw [byt8_low n j hj, Int.tmod_eq_emod_of_nonneg (Int.natCast_nonneg _)]
    have h : n / 256 ^ j % 256 < 256 := Nat.mod_lt _ (by decide)
    have e : ((n / 256 ^ j : Nat) : Int) % 256 = ((n / 256 ^ j % 256 : Nat) : Int) := by omega
    have e2 : (((n / 256 ^ j % 256 : Nat) : Int)) % 256 = ((n / 256 ^ j % 256 : Nat) : Int) := by omega
    rw [e, u8_wrap, e2]
    show _ = D.int .u8 (((UInt8.ofNat (n / 256 ^ j % 256)).toNat : Nat) : Int)
    rw [UInt8.toNat_ofNat_of_lt' (by simpa using h)]
  have hq : ∀ j : Nat, IntKind.u64.wrap (((n / 256 ^ j : Nat) : Int).tdiv 256) = ((n / 256 ^ (j + 1) : Nat) : Int) := fun j => by
    rw [Int.tdiv_eq_ediv_of_nonneg (Int.natCast_nonneg _), Nat.pow_succ, ← Nat.div_div_eq_div_mul]
    have h : n / 256 ^ j ≤ n := Nat.div_le_self _ _
    generalize n / 256 ^ j = q at h
    rw [wrapU64_id (by omega) (by omega)]; omega
  have h8 : ∀ j : Nat, ((row8r n j).map byteD).length = 8 := fun j => by rw [List.length_map, row8r_length]
  refine vc_fn mixed Try.func89 rfl rfl [] (vzH rfl) ?_
  repeat' (first | ((with_reducible refine vzH ?_); first | decide +kernel | rfl) | (with_reducible refine vzC ?_; rfl) | (with_reducible first | (refine vzZ ?_; constructor) | refine vzC ?_ | refine vc_loopI 19 (fun (j : Nat) => [(0, .d (.int .u64 ((n / 256 ^ j : Nat) : Int))), (3, .sl 2000 [] 1 0 8), (4, .d (.int .i64 (7 - (j : Int))))]) (fun j => [(2000, .row 1 ((row8r n j).map byteD))]) (fun j => 8 - j) (fun j => j ≤ 8) 0 [] ?_ ?_ ?_ ?_ ?_ (fun j hI => ?_) | refine vc_nextI (j + 1) [] ?_ ?_ ?_ ?_ ?_ ?_ | refine vc_ret [true] [] ?_ | refine vzB [] ?_ ?_ ?_ | refine vzD ?_ ?_ | refine vc_ret [] [] ?_) | ((with_reducible first | refine vzE (fun h => ?_) (fun h => ?_) | refine vzF (fun h => ?_) (fun h => ?_)) <;> try (exfalso; omega)) | ((with_reducible refine vzG (fun h => ?_) (fun h => ?_)) <;> (try simp only [Go.Sym.vs1, reduceCtorEq] at h) <;> try (exfalso; first | omega | (simp at h; done))) | ((conv in Vc _ => arg 1; whnf); first | (with_reducible refine vzC ?_; rfl) | (with_reducible first | (refine vzZ ?_; constructor) | refine vzC ?_ | refine vc_loopI 19 (fun (j : Nat) => [(0, .d (.int .u64 ((n / 256 ^ j : Nat) : Int))), (3, .sl 2000 [] 1 0 8), (4, .d (.int .i64 (7 - (j : Int))))]) (fun j => [(2000, .row 1 ((row8r n j).map byteD))]) (fun j => 8 - j) (fun j => j ≤ 8) 0 [] ?_ ?_ ?_ ?_ ?_ (fun j hI => ?_) | refine vc_nextI (j + 1) [] ?_ ?_ ?_ ?_ ?_ ?_ | refine vc_ret [true] [] ?_ | refine vzB [] ?_ ?_ ?_ | refine vzD ?_ ?_ | refine vc_ret [] [] ?_) | ((with_reducible first | refine vzE (fun h => ?_) (fun h => ?_) | refine vzF (fun h => ?_) (fun h => ?_)) <;> try (exfalso; omega)) | ((with_reducible refine vzG (fun h => ?_) (fun h => ?_)) <;> (try simp only [Go.Sym.vs1, reduceCtorEq] at h) <;> try (exfalso; first | omega | (simp at h; done)))))
  all_goals (try simp only [Int.toNat_natCast])
  all_goals first
    | rfl
    | omega
    | exact ⟨by omega, by omega, by decide, by omega⟩
    | (rw [Nat.pow_zero, Nat.div_one]; done)
    | (rw [h8]; omega)
    | exact ⟨Nat.le_of_eq (by rw [h8]), trivial⟩
    | (rw [hq]; done)
    | (rw [wrap64_id (by omega) (by omega)]; congr 1; omega)
    | (rw [hb j (by omega), show 0 + (7 - (j : Int)).toNat = 7 - j by omega, row8r_set n j (by omega)]; done)
    | (obtain rfl : j = 8 := by omega
       rw [row8r_all]; exact congrArg D.sl (take8 (num8_length n)))
    | skip
theorem begin_ok (c : UInt8) (x : Int) (hx : x = c.toNat) (ts : List (List UInt8)) (hl : ts.length < 2 ^ 63) (hroom : (c :: ts.flatten).length ≤ 2 ^ 30) :
    LocalCall Try.prog 96 [.d (.int .u8 x), .d (.sl (ts.map tD))] [] [] (one [.d (.sl ((c :: ts.flatten).map byteD))]) [] := by
  subst hx
  have hJ : ∀ i, i ≤ ts.length → (ts.take i).flatten.length ≤ ts.flatten.length := fun i h => by
    have h : ts.flatten = (ts.take i).flatten ++ (ts.drop i).flatten := by rw [← List.flatten_append, List.take_append_drop]
    rw [h, List.length_append]; omega
  have hN : ∀ i, i < ts.length → (ts.take i).flatten ++ ts.getD i [] = (ts.take (i + 1)).flatten := fun i h => by
    rw [List.take_add_one, List.flatten_append, List.getD_eq_getElem?_getD, List.getElem?_eq_getElem h]; simp
  have lm : (ts.map tD).length = ts.length := List.length_map _
  have hX : ∀ i : Nat, (i : Int) < ((ts.map tD).length : Int) → (ts.map tD).getD i .nilp = tD (ts.getD i []) := fun i h => by
    have h2 : i < ts.length := by rw [List.length_map] at h; omega
    exact (map_at (f := tD) (d := []) h2).1
  have hA : ∀ i : Nat, i < ts.length → (c :: (ts.take i).flatten).map byteD ++ (tD (ts.getD i [])).els = (c :: (ts.take (i + 1)).flatten).map byteD := fun i h => by
    rw [← hN i h, ← List.cons_append, List.map_append]; rfl
  refine vc_fn mixed Try.func96 rfl rfl [] (vzH rfl) ?_
  repeat' (first | ((with_reducible refine vzH ?_); first | decide +kernel | rfl) | (with_reducible refine vzC ?_; rfl) | (with_reducible first | (refine vzZ ?_; constructor) | refine vzC ?_ | refine vc_loopI 26 (fun (i : Nat) => [(5, .sl 7 [] 1 0 ((c :: (ts.take i).flatten).map byteD).length), (10, .d (.sl (ts.map tD))), (11, .d (.int .i64 ((ts.map tD).length : Nat))), (12, .d (.int .i64 (i : Int)))]) (fun i => [(7, .row 1 ((c :: (ts.take i).flatten).map byteD))]) (fun i => ts.length - i) (fun i => i ≤ ts.length) 0 [(7, 2004)] ?_ ?_ ?_ ?_ ?_ (fun i hI => ?_) | refine vc_nextI (i + 1) [(7, 6028)] ?_ ?_ ?_ ?_ ?_ ?_ | refine vc_ret [true] [] ?_ | refine vzB [] ?_ ?_ ?_ | refine vzD ?_ ?_ | refine vc_ret [] [] ?_) | ((with_reducible first | refine vzE (fun h => ?_) (fun h => ?_) | refine vzF (fun h => ?_) (fun h => ?_)) <;> try (exfalso; omega)) | ((with_reducible refine vzG (fun h => ?_) (fun h => ?_)) <;> (try simp only [Go.Sym.vs1, reduceCtorEq] at h) <;> try (exfalso; first | omega | (simp at h; done))) | ((conv in Vc _ => arg 1; whnf); first | (with_reducible refine vzC ?_; rfl) | (with_reducible first | (refine vzZ ?_; constructor) | refine vzC ?_ | refine vc_loopI 26 (fun (i : Nat) => [(5, .sl 7 [] 1 0 ((c :: (ts.take i).flatten).map byteD).length), (10, .d (.sl (ts.map tD))), (11, .d (.int .i64 ((ts.map tD).length : Nat))), (12, .d (.int .i64 (i : Int)))]) (fun i => [(7, .row 1 ((c :: (ts.take i).flatten).map byteD))]) (fun i => ts.length - i) (fun i => i ≤ ts.length) 0 [(7, 2004)] ?_ ?_ ?_ ?_ ?_ (fun i hI => ?_) | refine vc_nextI (i + 1) [(7, 6028)] ?_ ?_ ?_ ?_ ?_ ?_ | refine vc_ret [true] [] ?_ | refine vzB [] ?_ ?_ ?_ | refine vzD ?_ ?_ | refine vc_ret [] [] ?_) | ((with_reducible first | refine vzE (fun h => ?_) (fun h => ?_) | refine vzF (fun h => ?_) (fun h => ?_)) <;> try (exfalso; omega)) | ((with_reducible refine vzG (fun h => ?_) (fun h => ?_)) <;> (try simp only [Go.Sym.vs1, reduceCtorEq] at h) <;> try (exfalso; first | omega | (simp at h; done)))))
  all_goals (try simp only [Int.toNat_natCast])
  all_goals first
    | rfl
    | omega
    | (rw [hX i h, hA i (by omega)]; done)
    | (rw [hX i h]; exact ⟨⟨by omega, h⟩, rfl⟩)
    | (rw [wrap64_id (by omega) (by omega)]; rfl)
    | (rw [hX i h, hA i (by omega)]
       refine ⟨⟨trivial, rfl, roomJ ?_⟩, fun y hy => size_bytes _ y hy⟩
       have := hJ (i + 1) (by omega)
       simp only [List.length_map, List.length_cons] at hroom ⊢; omega)
    | (obtain rfl : i = ts.length := by omega
       rw [List.take_length]
       first
         | exact congrArg D.sl (by rw [List.drop_zero, List.take_length])
         | exact ⟨Nat.le_of_eq (Nat.zero_add _), trivial⟩
         | skip)
    | skip
theorem sign_ok (c : UInt8) (x : Int) (hx : x = c.toNat) (ts : List (List UInt8)) (hl : ts.length < 2 ^ 62) (hroom : (c :: ts.flatten).length ≤ 2 ^ 30) :
    LocalCall Try.prog 88 [.d (.int .u8 x), .d (.sl (ts.map tD))] [] [] (one [.d (.sl ((c :: ts.flatten).map byteD))]) [] := by
  subst hx
  have c1 := join_b ts hl (roomJ (by simp only [List.length_cons] at hroom; omega))
  have c2 := join_b [[c], ts.flatten] (by show 2 < 2 ^ 62; decide) (roomJ (by simpa using hroom))
  have ef : [[c], ts.flatten].flatten = c :: ts.flatten := by simp
  rw [ef] at c2
  refine vc_fn mixed Try.func88 rfl rfl [] (vzH rfl) ?_
  repeat' (first | ((with_reducible refine vzH ?_); first | decide +kernel | rfl) | (with_reducible refine vzC ?_; rfl) | (with_reducible first | (refine vzZ ?_; constructor) | refine vzC ?_ | refine vc_pure c1 ?_ ?_ ?_ | refine vc_call [true] c2 ?_ | refine vzB [] ?_ ?_ ?_ | refine vzD ?_ ?_ | refine vc_ret [] [] ?_) | ((with_reducible first | refine vzE (fun h => ?_) (fun h => ?_) | refine vzF (fun h => ?_) (fun h => ?_)) <;> try (exfalso; omega)) | ((with_reducible refine vzG (fun h => ?_) (fun h => ?_)) <;> (try simp only [Go.Sym.vs1, reduceCtorEq] at h) <;> try (exfalso; first | omega | (simp at h; done))) | ((conv in Vc _ => arg 1; whnf); first | (with_reducible refine vzC ?_; rfl) | (with_reducible first | (refine vzZ ?_; constructor) | refine vzC ?_ | refine vc_pure c1 ?_ ?_ ?_ | refine vc_call [true] c2 ?_ | refine vzB [] ?_ ?_ ?_ | refine vzD ?_ ?_ | refine vc_ret [] [] ?_) | ((with_reducible first | refine vzE (fun h => ?_) (fun h => ?_) | refine vzF (fun h => ?_) (fun h => ?_)) <;> try (exfalso; omega)) | ((with_reducible refine vzG (fun h => ?_) (fun h => ?_)) <;> (try simp only [Go.Sym.vs1, reduceCtorEq] at h) <;> try (exfalso; first | omega | (simp at h; done)))))
  all_goals first
    | rfl
    | omega
    | exact ⟨Nat.le_of_eq (Nat.zero_add _), trivial⟩
    | exact ⟨⟨Nat.le_refl _, trivial, trivial⟩, trivial⟩
    | exact ⟨Nat.le_refl _, trivial, trivial⟩
    | skip
end Go.Proofs.Ytjgkngjeniameaa

namespace Go.Proofs.Ytjgkngjeniameaa
open Go.Sym
set_option maxRecDepth 10000
set_option maxHeartbeats 1000000
theorem of_ok (b : List UInt8) (hl : b.length < 2 ^ 58) : LocalCall Try.prog 82 [.d (.sl (b.map byteD))] [] [] (one [.d (.arr 32 1 ((shaB b).map byteD))]) [] := by
  have c := sum_ok b hl
  refine vc_fn mixed Try.func82 rfl rfl [] (vzH rfl) ?_
  repeat' (first | ((with_reducible refine vzH ?_); first | decide +kernel | rfl) | (with_reducible refine vzC ?_; rfl) | (with_reducible first | (refine vzZ ?_; constructor) | refine vzC ?_ | refine vc_pure c ?_ ?_ ?_ | refine vzB [] ?_ ?_ ?_ | refine vzD ?_ ?_ | refine vc_ret [] [] ?_) | ((with_reducible first | refine vzE (fun h => ?_) (fun h => ?_) | refine vzF (fun h => ?_) (fun h => ?_)) <;> try (exfalso; omega)) | ((with_reducible refine vzG (fun h => ?_) (fun h => ?_)) <;> (try simp only [Go.Sym.vs1, reduceCtorEq] at h) <;> try (exfalso; first | omega | (simp at h; done))) | ((conv in Vc _ => arg 1; whnf); first | (with_reducible refine vzC ?_; rfl) | (with_reducible first | (refine vzZ ?_; constructor) | refine vzC ?_ | refine vc_pure c ?_ ?_ ?_ | refine vzB [] ?_ ?_ ?_ | refine vzD ?_ ?_ | refine vc_ret [] [] ?_) | ((with_reducible first | refine vzE (fun h => ?_) (fun h => ?_) | refine vzF (fun h => ?_) (fun h => ?_)) <;> try (exfalso; omega)) | ((with_reducible refine vzG (fun h => ?_) (fun h => ?_)) <;> (try simp only [Go.Sym.vs1, reduceCtorEq] at h) <;> try (exfalso; first | omega | (simp at h; done)))))
  all_goals first
    | rfl
    | skip
theorem rOf_ok (b : List UInt8) (hl : b.length < 2 ^ 28) : LocalCall Try.prog 62 [.d (.sl (b.map byteD))] [] [] (one [.d (.arr 32 1 ((shaB b).map byteD))]) [] := by
  have c := rSum_ok b hl
  refine vc_fn mixed Try.func62 rfl rfl [] (vzH rfl) ?_
  repeat' (first | ((with_reducible refine vzH ?_); first | decide +kernel | rfl) | (with_reducible refine vzC ?_; rfl) | (with_reducible first | (refine vzZ ?_; constructor) | refine vzC ?_ | refine vc_pure c ?_ ?_ ?_ | refine vzB [] ?_ ?_ ?_ | refine vzD ?_ ?_ | refine vc_ret [] [] ?_) | ((with_reducible first | refine vzE (fun h => ?_) (fun h => ?_) | refine vzF (fun h => ?_) (fun h => ?_)) <;> try (exfalso; omega)) | ((with_reducible refine vzG (fun h => ?_) (fun h => ?_)) <;> (try simp only [Go.Sym.vs1, reduceCtorEq] at h) <;> try (exfalso; first | omega | (simp at h; done))) | ((conv in Vc _ => arg 1; whnf); first | (with_reducible refine vzC ?_; rfl) | (with_reducible first | (refine vzZ ?_; constructor) | refine vzC ?_ | refine vc_pure c ?_ ?_ ?_ | refine vzB [] ?_ ?_ ?_ | refine vzD ?_ ?_ | refine vc_ret [] [] ?_) | ((with_reducible first | refine vzE (fun h => ?_) (fun h => ?_) | refine vzF (fun h => ?_) (fun h => ?_)) <;> try (exfalso; omega)) | ((with_reducible refine vzG (fun h => ?_) (fun h => ?_)) <;> (try simp only [Go.Sym.vs1, reduceCtorEq] at h) <;> try (exfalso; first | omega | (simp at h; done)))))
  all_goals first
    | rfl
    | skip
def keyB (seed : List UInt8) (key i side : Nat) : List UInt8 := 75 :: (seed ++ num8 key ++ num8 (2 * i + side))
theorem keyB_length {seed : List UInt8} (hs : seed.length = 32) (key i side : Nat) : (keyB seed key i side).length = 49 := by simp [keyB, num8_length, hs]
def keyH (seed : List UInt8) (key i : Nat) (on : Bool) : List UInt8 := shaB (keyB seed key i (bif on then 1 else 0))
theorem take32d {d : List UInt8} (h : d.length = 32) : List.take (((32 : Nat) : Int).toNat - Int.toNat 0) (List.drop (Int.toNat 0) (d.map byteD)) = d.map byteD := by
  show List.take 32 (List.drop 0 _) = _
  rw [List.drop_zero, List.take_of_length_le (by rw [List.length_map]; omega)]
theorem keyNum {i : Nat} (hi : i < 256) {s : Int} (hs : s = 0 ∨ s = 1) : IntKind.u64.wrap (IntKind.u64.wrap (2 * IntKind.u64.wrap (i : Int)) + IntKind.u64.wrap s) = ((2 * i + s.toNat : Nat) : Int) := by
  rw [wrapU64_id (n := (i : Int)) (by omega) (by omega), wrapU64_id (n := 2 * (i : Int)) (by omega) (by omega), wrapU64_id (n := s) (by omega) (by omega), wrapU64_id (by omega) (by omega)]
  omega
theorem rKeyOf_ok (seed : List UInt8) (hs : seed.length = 32) (key : Nat) (hk : key < 2 ^ 64) (i : Nat) (hi : i < 256) (s : Int) (h01 : s = 0 ∨ s = 1) :
    LocalCall Try.prog 101 [.d (.arr 32 1 (seed.map byteD)), .d (.int .u64 (key : Int)), .d (.int .i64 (i : Int)), .d (.int .i64 s)] [] [] (one [.d (.arr 32 1 ((keyH seed key i (decide (s = 1))).map byteD))]) [] := by
  have e : keyH seed key i (decide (s = 1)) = shaB (keyB seed key i s.toNat) := by
    unfold keyH
    rcases h01 with rfl | rfl <;> rfl
  rw [e]
  have c1 := rNumber_ok key key rfl hk
  have c2 := rNumber_ok _ _ (keyNum hi h01) (by rcases h01 with rfl | rfl <;> omega)
  have ef : (75 : UInt8) :: [seed, num8 key, num8 (2 * i + s.toNat)].flatten = keyB seed key i s.toNat := by simp [keyB]
  have c3 := sign_ok 75 75 rfl [seed, num8 key, num8 (2 * i + s.toNat)] (by show 3 < 2 ^ 62; decide) (by rw [ef, keyB_length hs]; decide)
  rw [ef] at c3
  have c4 := rOf_ok (keyB seed key i s.toNat) (by rw [keyB_length hs]; decide)
  refine vc_fn mixed Try.func101 rfl rfl [] (vzH rfl) ?_
  repeat' (first | ((with_reducible refine vzH ?_); first | decide +kernel | rfl) | (with_reducible refine vzC ?_; rfl) | (with_reducible first | (refine vzZ ?_; constructor) | refine vzC ?_ | refine vc_pure c1 ?_ ?_ ?_ | refine vc_pure c2 ?_ ?_ ?_ | refine vc_call [false, true] c3 ?_ | refine vc_pure c4 ?_ ?_ ?_ | refine vzB [] ?_ ?_ ?_ | refine vzD ?_ ?_ | refine vc_ret [] [] ?_) | ((with_reducible first | refine vzE (fun h => ?_) (fun h => ?_) | refine vzF (fun h => ?_) (fun h => ?_)) <;> try (exfalso; omega)) | ((with_reducible refine vzG (fun h => ?_) (fun h => ?_)) <;> (try simp only [Go.Sym.vs1, reduceCtorEq] at h) <;> try (exfalso; first | omega | (simp at h; done))) | ((conv in Vc _ => arg 1; whnf); first | (with_reducible refine vzC ?_; rfl) | (with_reducible first | (refine vzZ ?_; constructor) | refine vzC ?_ | refine vc_pure c1 ?_ ?_ ?_ | refine vc_pure c2 ?_ ?_ ?_ | refine vc_call [false, true] c3 ?_ | refine vc_pure c4 ?_ ?_ ?_ | refine vzB [] ?_ ?_ ?_ | refine vzD ?_ ?_ | refine vc_ret [] [] ?_) | ((with_reducible first | refine vzE (fun h => ?_) (fun h => ?_) | refine vzF (fun h => ?_) (fun h => ?_)) <;> try (exfalso; omega)) | ((with_reducible refine vzG (fun h => ?_) (fun h => ?_)) <;> (try simp only [Go.Sym.vs1, reduceCtorEq] at h) <;> try (exfalso; first | omega | (simp at h; done)))))
  all_goals (try simp only [take32d hs])
  all_goals first
    | rfl
    | exact ⟨Nat.le_of_eq (Nat.zero_add _), trivial⟩
    | exact ⟨⟨by decide, by decide, by decide⟩, trivial⟩
    | exact ⟨⟨trivial, by rw [List.length_map, hs]; decide⟩, trivial, trivial, trivial⟩
    | skip
end Go.Proofs.Ytjgkngjeniameaa

namespace Go.Proofs.Ytjgkngjeniameaa
open Go.Sym
set_option maxRecDepth 10000
theorem bits_ok (xs : List D) : LocalCall Try.prog 105 [.d (.arr 32 1 xs)] [] [7] (one [.fn (.func 112) [.ptr 7 []]]) [(7, .var (.d (.arr 32 1 xs)))] := by
  refine vc_fn mixed Try.func105 rfl rfl [] (vzH rfl) ?_
  repeat' (first | ((with_reducible refine vzH ?_); first | decide +kernel | rfl) | (with_reducible refine vzC ?_; rfl) | (with_reducible first | (refine vzZ ?_; constructor) | refine vzC ?_ | refine vc_ret [] [(7, 1000)] ?_ | refine vzB [] ?_ ?_ ?_ | refine vzD ?_ ?_ | refine vc_ret [] [] ?_) | ((with_reducible first | refine vzE (fun h => ?_) (fun h => ?_) | refine vzF (fun h => ?_) (fun h => ?_)) <;> try (exfalso; omega)) | ((with_reducible refine vzG (fun h => ?_) (fun h => ?_)) <;> (try simp at h) <;> try (exfalso; omega)) | ((conv in Vc _ => arg 1; whnf); first | (with_reducible refine vzC ?_; rfl) | (with_reducible first | (refine vzZ ?_; constructor) | refine vzC ?_ | refine vc_ret [] [(7, 1000)] ?_ | refine vzB [] ?_ ?_ ?_ | refine vzD ?_ ?_ | refine vc_ret [] [] ?_) | ((with_reducible first | refine vzE (fun h => ?_) (fun h => ?_) | refine vzF (fun h => ?_) (fun h => ?_)) <;> try (exfalso; omega)) | ((with_reducible refine vzG (fun h => ?_) (fun h => ?_)) <;> (try simp at h) <;> try (exfalso; omega))))
  all_goals rfl
end Go.Proofs.Ytjgkngjeniameaa

namespace Go.Proofs.Ytjgkngjeniameaa
open Go.Sym
set_option maxRecDepth 10000
section
variable (l : Nat) (xs : List D)
def bsO (k : Nat) : List (Nat × AV) := [(0, .fn (.yield l) []), (6, .d (.arr 32 1 xs)), (7, .d (.int .i64 (k : Int)))]
def bsO1 (k : Nat) : List (Nat × AV) := (8, .d (.bool (decide ((k : Int) < 32)))) :: bsO l xs k
def bsI0 (c k : Nat) : List (Nat × AV) := [(0, .fn (.yield l) []), (6, .d (.arr 32 1 xs)), (7, .d (.int .i64 (k : Int))), (3, .d (.int .i64 (k : Int))), (4, .d (.int .u8 (c : Int)))]
def bsI (c k m : Nat) : List (Nat × AV) := [(0, .fn (.yield l) []), (6, .d (.arr 32 1 xs)), (7, .d (.int .i64 (k : Int))), (3, .d (.int .i64 (k : Int))), (4, .d (.int .u8 (c : Int))), (5, .d (.int .i64 (m : Int)))]
def bsI1 (c k m : Nat) : List (Nat × AV) := (12, .d (.bool (decide ((m : Int) < 8)))) :: bsI l xs c k m
def bsI2 (c k m : Nat) : List (Nat × AV) := (15, .fn (.yield l) []) :: (19, .d (.int .i64 (8 * k + m : Nat))) :: (24, .d (.bool (c.testBit (7 - m)))) :: bsI l xs c k m
end
theorem flat_bsI {l : Nat} {xs : List D} {c k m : Nat} (hs : ∀ x, x ∈ xs → x.scal = true) : ∀ p, p ∈ bsI l xs c k m → FlatA p.2 := by
  intro p hp
  simp only [bsI, List.mem_cons, List.not_mem_nil, or_false] at hp
  rcases hp with rfl | rfl | rfl | rfl | rfl | rfl
  · exact flatA_fn
  · exact flatA_arr hs
  all_goals exact flatA_d rfl
theorem flat_bsO {l : Nat} {xs : List D} {k : Nat} (hs : ∀ x, x ∈ xs → x.scal = true) : ∀ p, p ∈ bsO l xs k → FlatA p.2 := by
  intro p hp
  simp only [bsO, List.mem_cons, List.not_mem_nil, or_false] at hp
  rcases hp with rfl | rfl | rfl
  · exact flatA_fn
  · exact flatA_arr hs
  all_goals exact flatA_d rfl
theorem flat_bsI0 {l : Nat} {xs : List D} {c k : Nat} (hs : ∀ x, x ∈ xs → x.scal = true) : ∀ p, p ∈ bsI0 l xs c k → FlatA p.2 := by
  intro p hp
  simp only [bsI0, List.mem_cons, List.not_mem_nil, or_false] at hp
  rcases hp with rfl | rfl | rfl | rfl | rfl
  · exact flatA_fn
  · exact flatA_arr hs
  all_goals exact flatA_d rfl
theorem bits_seq (bs : List UInt8) (hb : bs.length = 32) : SeqOK Try.prog 112 (.arr 32 1 (bs.map byteD)) 256 (fun i => [.int .i64 (i : Int), .bool (bitB bs i)]) := by
  intro J Jd l b w X cs hrep hrow s1 s2 hJ hy
  have hs : ∀ x, x ∈ bs.map byteD → x.scal = true := fun x hx => by
    obtain ⟨y, _, rfl⟩ := List.mem_map.1 hx; rfl
  refine calls_of_wp_marks Try.func112 rfl ?_
  have hbl : b < w.heap.size := row_lt hrow (by rw [hrep.length]; show 0 < 32 * 1; omega)
  have hstart := fl_start (n := 28) (l := l) (by omega) hrep hrow hbl
  refine wpIn_scope_straight (wpIn_seq (wpIn_label (wpIn_seq ?_)))
  refine flat_norm mixed (sl' := bsO l (bs.map byteD) 0) (flat_bsO hs) hstart ?_ fun a w0 hI hx => ?_
  ·
    repeat' (first | ((with_reducible refine vzH ?_); first | decide +kernel | rfl) | (with_reducible refine vzC ?_; rfl) | (with_reducible first | (refine vzZ ?_; constructor) | refine vzC ?_ | refine vzB [] ?_ ?_ ?_ | refine vzD ?_ ?_ | refine vc_ret [] [] ?_) | ((with_reducible first | refine vzE (fun h => ?_) (fun h => ?_) | refine vzF (fun h => ?_) (fun h => ?_)) <;> try (exfalso; omega)) | ((with_reducible refine vzG (fun h => ?_) (fun h => ?_)) <;> (try simp at h) <;> try (exfalso; omega)) | ((conv in Vc _ => arg 1; whnf); first | (with_reducible refine vzC ?_; rfl) | (with_reducible first | (refine vzZ ?_; constructor) | refine vzC ?_ | refine vzB [] ?_ ?_ ?_ | refine vzD ?_ ?_ | refine vc_ret [] [] ?_) | ((with_reducible first | refine vzE (fun h => ?_) (fun h => ?_) | refine vzF (fun h => ?_) (fun h => ?_)) <;> try (exfalso; omega)) | ((with_reducible refine vzG (fun h => ?_) (fun h => ?_)) <;> (try simp at h) <;> try (exfalso; omega))))
    all_goals rfl
  replace hJ := s1 _ _ _ hJ hx
  clear hx hstart
  refine wpIn_block (wpIn_loopI (fun (k : Nat) a w => k ≤ 32 ∧ Fl 28 (bsO l (bs.map byteD) k) a w ∧ J (8 * k) w) (fun k => 32 - k) (x0 := 0) ⟨Nat.zero_le _, hI, hJ⟩ fun k a w hk => ?_)
  obtain ⟨hk, hI, hJ⟩ := hk
  refine wpIn_seq (flat_norm mixed (sl' := bsO1 l (bs.map byteD) k) (fun p hp => ?_) hI ?_ fun a w1 hI hx => ?_)
  · rcases List.mem_cons.1 hp with rfl | hp
    · exact flatA_d rfl
    · exact flat_bsO hs p hp
  ·
    repeat' (first | ((with_reducible refine vzH ?_); first | decide +kernel | rfl) | (with_reducible refine vzC ?_; rfl) | (with_reducible first | (refine vzZ ?_; constructor) | refine vzC ?_ | refine vzB [] ?_ ?_ ?_ | refine vzD ?_ ?_ | refine vc_ret [] [] ?_) | ((with_reducible first | refine vzE (fun h => ?_) (fun h => ?_) | refine vzF (fun h => ?_) (fun h => ?_)) <;> try (exfalso; omega)) | ((with_reducible refine vzG (fun h => ?_) (fun h => ?_)) <;> (try simp at h) <;> try (exfalso; omega)) | ((conv in Vc _ => arg 1; whnf); first | (with_reducible refine vzC ?_; rfl) | (with_reducible first | (refine vzZ ?_; constructor) | refine vzC ?_ | refine vzB [] ?_ ?_ ?_ | refine vzD ?_ ?_ | refine vc_ret [] [] ?_) | ((with_reducible first | refine vzE (fun h => ?_) (fun h => ?_) | refine vzF (fun h => ?_) (fun h => ?_)) <;> try (exfalso; omega)) | ((with_reducible refine vzG (fun h => ?_) (fun h => ?_)) <;> (try simp at h) <;> try (exfalso; omega))))
    all_goals rfl
  replace hJ := s1 _ _ _ hJ hx
  refine wpIn_seq (fl_cond hI (b := decide ((k : Int) < 32)) rfl (fun ht => wpIn_skip ?_) (fun ht => wpIn_exit ?_))
  case refine_2 =>
    have : k = 32 := by simp at ht; omega
    subst this
    show LeavesInM _ _ _ _ _ _ _ _ _
    rw [fl_defers hI]
    exact ⟨_, results_run (vs := []) rfl, _, rfl, .inl hJ⟩
  have hlt : k < 32 := by simp at ht; omega
  refine wpIn_seq (wpIn_block (wpIn_seq ?_))
  have hgk : (bs.map byteD).getD k .nilp = byteD (bs.getD k 0) := getD_byte (by omega)
  refine flat_norm mixed (sl' := bsI0 l (bs.map byteD) (bs.getD k 0).toNat k) (flat_bsI0 hs) hI ?_ fun a w2 hI hx => ?_
  ·
    repeat' (first | ((with_reducible refine vzH ?_); first | decide +kernel | rfl) | (with_reducible refine vzC ?_; rfl) | (with_reducible first | (refine vzZ ?_; constructor) | refine vzC ?_ | refine vzB [] ?_ ?_ ?_ | refine vzD ?_ ?_ | refine vc_ret [] [] ?_) | ((with_reducible first | refine vzE (fun h => ?_) (fun h => ?_) | refine vzF (fun h => ?_) (fun h => ?_)) <;> try (exfalso; omega)) | ((with_reducible refine vzG (fun h => ?_) (fun h => ?_)) <;> (try simp at h) <;> try (exfalso; omega)) | ((conv in Vc _ => arg 1; whnf); first | (with_reducible refine vzC ?_; rfl) | (with_reducible first | (refine vzZ ?_; constructor) | refine vzC ?_ | refine vzB [] ?_ ?_ ?_ | refine vzD ?_ ?_ | refine vc_ret [] [] ?_) | ((with_reducible first | refine vzE (fun h => ?_) (fun h => ?_) | refine vzF (fun h => ?_) (fun h => ?_)) <;> try (exfalso; omega)) | ((with_reducible refine vzG (fun h => ?_) (fun h => ?_)) <;> (try simp at h) <;> try (exfalso; omega))))
    all_goals (try simp only [Int.toNat_natCast, hgk])
    all_goals first | rfl | exact ⟨⟨by omega, by omega⟩, rfl⟩
  replace hJ := s1 _ _ _ hJ hx
  refine wpIn_seq (flat_norm mixed (sl' := bsI l (bs.map byteD) (bs.getD k 0).toNat k 0) (flat_bsI hs) hI ?_ fun a w3 hI hx => ?_)
  ·
    repeat' (first | ((with_reducible refine vzH ?_); first | decide +kernel | rfl) | (with_reducible refine vzC ?_; rfl) | (with_reducible first | (refine vzZ ?_; constructor) | refine vzC ?_ | refine vzB [] ?_ ?_ ?_ | refine vzD ?_ ?_ | refine vc_ret [] [] ?_) | ((with_reducible first | refine vzE (fun h => ?_) (fun h => ?_) | refine vzF (fun h => ?_) (fun h => ?_)) <;> try (exfalso; omega)) | ((with_reducible refine vzG (fun h => ?_) (fun h => ?_)) <;> (try simp at h) <;> try (exfalso; omega)) | ((conv in Vc _ => arg 1; whnf); first | (with_reducible refine vzC ?_; rfl) | (with_reducible first | (refine vzZ ?_; constructor) | refine vzC ?_ | refine vzB [] ?_ ?_ ?_ | refine vzD ?_ ?_ | refine vc_ret [] [] ?_) | ((with_reducible first | refine vzE (fun h => ?_) (fun h => ?_) | refine vzF (fun h => ?_) (fun h => ?_)) <;> try (exfalso; omega)) | ((with_reducible refine vzG (fun h => ?_) (fun h => ?_)) <;> (try simp at h) <;> try (exfalso; omega))))
    all_goals rfl
  replace hJ := s1 _ _ _ hJ hx
  clear hx
  refine wpIn_block (wpIn_loopI (fun (m : Nat) a w => m ≤ 8 ∧ Fl 28 (bsI l (bs.map byteD) (bs.getD k 0).toNat k m) a w ∧ J (8 * k + m) w) (fun m => 8 - m) (x0 := 0) ⟨Nat.zero_le _, hI, hJ⟩ fun m a w hm => ?_)
  obtain ⟨hm, hI, hJ⟩ := hm
  refine wpIn_seq (wpIn_seq (flat_norm mixed (sl' := bsI1 l (bs.map byteD) (bs.getD k 0).toNat k m) (fun p hp => ?_) hI ?_ fun a w1 hI hx => ?_))
  · rcases List.mem_cons.1 hp with rfl | hp
    · exact flatA_d rfl
    · exact flat_bsI hs p hp
  ·
    repeat' (first | ((with_reducible refine vzH ?_); first | decide +kernel | rfl) | (with_reducible refine vzC ?_; rfl) | (with_reducible first | (refine vzZ ?_; constructor) | refine vzC ?_ | refine vzB [] ?_ ?_ ?_ | refine vzD ?_ ?_ | refine vc_ret [] [] ?_) | ((with_reducible first | refine vzE (fun h => ?_) (fun h => ?_) | refine vzF (fun h => ?_) (fun h => ?_)) <;> try (exfalso; omega)) | ((with_reducible refine vzG (fun h => ?_) (fun h => ?_)) <;> (try simp at h) <;> try (exfalso; omega)) | ((conv in Vc _ => arg 1; whnf); first | (with_reducible refine vzC ?_; rfl) | (with_reducible first | (refine vzZ ?_; constructor) | refine vzC ?_ | refine vzB [] ?_ ?_ ?_ | refine vzD ?_ ?_ | refine vc_ret [] [] ?_) | ((with_reducible first | refine vzE (fun h => ?_) (fun h => ?_) | refine vzF (fun h => ?_) (fun h => ?_)) <;> try (exfalso; omega)) | ((with_reducible refine vzG (fun h => ?_) (fun h => ?_)) <;> (try simp at h) <;> try (exfalso; omega))))
    all_goals rfl
  replace hJ := s1 _ _ _ hJ hx
  refine fl_cond hI (b := decide ((m : Int) < 8)) rfl (fun ht => wpIn_skip ?_) (fun ht => wpIn_exit ?_)
  case refine_2 =>
    have : m = 8 := by simp at ht; omega
    subst this
    show (Code.region _ _ _).wpIn _ _ _ _ _ _
    refine flat_norm mixed (sl' := bsO l (bs.map byteD) (k + 1)) (flat_bsO hs) hI ?_ fun a w2 hI hx => ?_
    ·
      repeat' (first | ((with_reducible refine vzH ?_); first | decide +kernel | rfl) | (with_reducible refine vzC ?_; rfl) | (with_reducible first | (refine vzZ ?_; constructor) | refine vzC ?_ | refine vzB [] ?_ ?_ ?_ | refine vzD ?_ ?_ | refine vc_ret [] [] ?_) | ((with_reducible first | refine vzE (fun h => ?_) (fun h => ?_) | refine vzF (fun h => ?_) (fun h => ?_)) <;> try (exfalso; omega)) | ((with_reducible refine vzG (fun h => ?_) (fun h => ?_)) <;> (try simp at h) <;> try (exfalso; omega)) | ((conv in Vc _ => arg 1; whnf); first | (with_reducible refine vzC ?_; rfl) | (with_reducible first | (refine vzZ ?_; constructor) | refine vzC ?_ | refine vzB [] ?_ ?_ ?_ | refine vzD ?_ ?_ | refine vc_ret [] [] ?_) | ((with_reducible first | refine vzE (fun h => ?_) (fun h => ?_) | refine vzF (fun h => ?_) (fun h => ?_)) <;> try (exfalso; omega)) | ((with_reducible refine vzG (fun h => ?_) (fun h => ?_)) <;> (try simp at h) <;> try (exfalso; omega))))
      all_goals first | rfl | (rw [wrap64_id (by omega) (by omega)]; rfl)
    exact ⟨k + 1, ⟨by omega, hI, s1 _ _ _ hJ hx⟩, by omega⟩
  have hlt : m < 8 := by simp at ht; omega
  have hi : 8 * k + m < 256 := by omega
  have hbit : bitB bs (8 * k + m) = (bs.getD k 0).toNat.testBit (7 - m) := by
    unfold bitB
    rw [show (8 * k + m) / 8 = k by omega, show (8 * k + m) % 8 = m by omega]
  refine wpIn_seq (wpIn_block (wpIn_seq (wpIn_region ?_)))
  rw [show List.range _ = List.range' 0 10 ++ (10 :: List.range' 11 1) from rfl]
  refine wpOpsIn_append _ (flat_pre (id := 6) (sl' := bsI2 l (bs.map byteD) (bs.getD k 0).toNat k m) (fun p hp => ?_) rfl hI ?_ fun a w2 hI hx => ?_)
  · simp only [bsI2, List.mem_cons] at hp
    rcases hp with rfl | rfl | rfl | hp
    · exact flatA_fn
    · exact flatA_d rfl
    · exact flatA_d rfl
    · exact flat_bsI hs p hp
  · simp only [List.take_succ_cons, List.take_zero]
    repeat' (first | ((with_reducible refine vzH ?_); first | decide +kernel | rfl) | (with_reducible refine vzC ?_; rfl) | (with_reducible first | (refine vzZ ?_; constructor) | refine vzC ?_ | refine vzB [] ?_ ?_ ?_ | refine vzD ?_ ?_ | refine vc_ret [] [] ?_) | ((with_reducible first | refine vzE (fun h => ?_) (fun h => ?_) | refine vzF (fun h => ?_) (fun h => ?_)) <;> try (exfalso; omega)) | ((with_reducible refine vzG (fun h => ?_) (fun h => ?_)) <;> (try simp at h) <;> try (exfalso; omega)) | ((conv in Vc _ => arg 1; whnf); first | (with_reducible refine vzC ?_; rfl) | (with_reducible first | (refine vzZ ?_; constructor) | refine vzC ?_ | refine vzB [] ?_ ?_ ?_ | refine vzD ?_ ?_ | refine vc_ret [] [] ?_) | ((with_reducible first | refine vzE (fun h => ?_) (fun h => ?_) | refine vzF (fun h => ?_) (fun h => ?_)) <;> try (exfalso; omega)) | ((with_reducible refine vzG (fun h => ?_) (fun h => ?_)) <;> (try simp at h) <;> try (exfalso; omega))))
    all_goals first | rfl | omega | exact congrArg D.bool (and_bit _ _ hlt) | (rw [wrap64_id (n := 8 * (k : Int)) (by omega) (by omega), wrap64_id (by omega) (by omega)]; congr 1)
  replace hJ := s1 _ _ _ hJ hx
  rw [wpOpsIn_cons]
  refine fl_yield (i := 8 * k + m) hy rfl rfl rfl rfl rfl hI rfl (by show _ = [AV.d (.int .i64 ((8 * k + m : Nat) : Int)), AV.d (.bool (bitB bs (8 * k + m)))]; rw [hbit]; rfl) rfl hi hJ (fun p hp => ?_) fun t a w3 hI j1 j2 => ?_
  · simp only [bsI2, List.mem_cons] at hp
    rcases hp with rfl | rfl | rfl | hp
    · exact flatA_fn
    · exact flatA_d rfl
    · exact flatA_d rfl
    · exact flat_bsI hs p hp
  refine flat_suf (id := 6) (sl' := (26, .d (.bool (!t))) :: bsI l (bs.map byteD) (bs.getD k 0).toNat k m) (fun p hp => ?_) rfl hI ?_ fun a w4 hI hx => ?_
  · rcases List.mem_cons.1 hp with rfl | hp
    · exact flatA_d rfl
    · exact flat_bsI hs p hp
  · simp only [List.drop_succ_cons, List.drop_zero]
    repeat' (first | ((with_reducible refine vzH ?_); first | decide +kernel | rfl) | (with_reducible refine vzC ?_; rfl) | (with_reducible first | (refine vzZ ?_; constructor) | refine vzC ?_ | refine vzB [] ?_ ?_ ?_ | refine vzD ?_ ?_ | refine vc_ret [] [] ?_) | ((with_reducible first | refine vzE (fun h => ?_) (fun h => ?_) | refine vzF (fun h => ?_) (fun h => ?_)) <;> try (exfalso; omega)) | ((with_reducible refine vzG (fun h => ?_) (fun h => ?_)) <;> (try simp at h) <;> try (exfalso; omega)) | ((conv in Vc _ => arg 1; whnf); first | (with_reducible refine vzC ?_; rfl) | (with_reducible first | (refine vzZ ?_; constructor) | refine vzC ?_ | refine vzB [] ?_ ?_ ?_ | refine vzD ?_ ?_ | refine vc_ret [] [] ?_) | ((with_reducible first | refine vzE (fun h => ?_) (fun h => ?_) | refine vzF (fun h => ?_) (fun h => ?_)) <;> try (exfalso; omega)) | ((with_reducible refine vzG (fun h => ?_) (fun h => ?_)) <;> (try simp at h) <;> try (exfalso; omega))))
    all_goals rfl
  refine fl_cond hI (b := !t) rfl (fun ht => wpIn_exit ?_) (fun ht => wpIn_skip ?_)
  · have htf : t = false := by simpa using ht
    show LeavesInM _ _ _ _ _ _ _ _ _
    rw [fl_defers hI]
    exact ⟨_, results_run (vs := []) rfl, _, rfl, .inr (s2 _ _ (j2 htf) hx)⟩
  · have htt : t = true := by simpa using ht
    have hJ' := s1 _ _ _ (j1 htt) hx
    show (Code.region _ _ _).wpIn _ _ _ _ _ _
    refine flat_norm mixed (sl' := bsI l (bs.map byteD) (bs.getD k 0).toNat k (m + 1)) (flat_bsI hs) hI ?_ fun a w5 hI hx => ?_
    ·
      repeat' (first | ((with_reducible refine vzH ?_); first | decide +kernel | rfl) | (with_reducible refine vzC ?_; rfl) | (with_reducible first | (refine vzZ ?_; constructor) | refine vzC ?_ | refine vzB [] ?_ ?_ ?_ | refine vzD ?_ ?_ | refine vc_ret [] [] ?_) | ((with_reducible first | refine vzE (fun h => ?_) (fun h => ?_) | refine vzF (fun h => ?_) (fun h => ?_)) <;> try (exfalso; omega)) | ((with_reducible refine vzG (fun h => ?_) (fun h => ?_)) <;> (try simp at h) <;> try (exfalso; omega)) | ((conv in Vc _ => arg 1; whnf); first | (with_reducible refine vzC ?_; rfl) | (with_reducible first | (refine vzZ ?_; constructor) | refine vzC ?_ | refine vzB [] ?_ ?_ ?_ | refine vzD ?_ ?_ | refine vc_ret [] [] ?_) | ((with_reducible first | refine vzE (fun h => ?_) (fun h => ?_) | refine vzF (fun h => ?_) (fun h => ?_)) <;> try (exfalso; omega)) | ((with_reducible refine vzG (fun h => ?_) (fun h => ?_)) <;> (try simp at h) <;> try (exfalso; omega))))
      all_goals first | rfl | (rw [wrap64_id (by omega) (by omega)]; rfl)
    exact ⟨m + 1, ⟨by omega, hI, s1 _ _ _ hJ' hx⟩, by omega⟩
end Go.Proofs.Ytjgkngjeniameaa

namespace Go.Proofs.Ytjgkngjeniameaa
open Go.Sym
set_option maxRecDepth 10000
set_option maxHeartbeats 1000000
theorem keyH_length (seed : List UInt8) (key i : Nat) (on : Bool) : (keyH seed key i on).length = 32 := shaB_length _
theorem t32k (seed : List UInt8) (key i : Nat) (on : Bool) : List.take (32 - Int.toNat 0) (List.drop (Int.toNat 0) ((keyH seed key i on).map byteD)) = (keyH seed key i on).map byteD := take32d (keyH_length seed key i on)
theorem t32s (b : List UInt8) : List.take (32 - Int.toNat 0) (List.drop (Int.toNat 0) ((shaB b).map byteD)) = (shaB b).map byteD := take32d (shaB_length b)
theorem len32 {d : List UInt8} (h : d.length = 32) : Int.toNat 0 + (32 - Int.toNat 0) ≤ (d.map byteD).length := by rw [List.length_map, h]; decide
def textN (P : Nat → Bool → List UInt8) (i : Nat) : List UInt8 := 80 :: rounds (textF P) i
theorem textN_length (P : Nat → Bool → List UInt8) (i : Nat) : (textN P i).length = 64 * i + 1 := by
  unfold textN
  rw [List.length_cons, rounds_length i fun i _ => textF_length P i]
theorem textN_succ (seed : List UInt8) (key i : Nat) : (textN (keyH seed key) i).map byteD ++ (shaB (keyH seed key i false)).map byteD ++ (shaB (keyH seed key i true)).map byteD = (textN (keyH seed key) (i + 1)).map byteD := by
  unfold textN
  rw [rounds_succ, ← List.map_append, ← List.map_append]
  simp [textF]
end Go.Proofs.Ytjgkngjeniameaa

namespace Go.Proofs.Ytjgkngjeniameaa
open Go.Sym
set_option maxRecDepth 10000
set_option maxHeartbeats 1000000
def signN (P : Nat → Bool → List UInt8) (d : List UInt8) (i : Nat) : List UInt8 := rounds (signF P d) i
theorem signN_length {P : Nat → Bool → List UInt8} (hP : ∀ i on, (P i on).length = 32) (d : List UInt8) (i : Nat) : (signN P d i).length = 64 * i :=
  rounds_length i fun i _ => signF_length hP d i
theorem signN_succ (seed : List UInt8) (key : Nat) (d : List UInt8) (i : Nat) : (signN (keyH seed key) d i).map byteD ++ (keyH seed key i (bitB d i)).map byteD ++ (shaB (keyH seed key i (!bitB d i))).map byteD = (signN (keyH seed key) d (i + 1)).map byteD := by
  unfold signN
  rw [rounds_succ, ← List.map_append, ← List.map_append]
  simp [signF]
theorem signN_all (P : Nat → Bool → List UInt8) (d : List UInt8) : signN P d 256 = signP P d := by unfold signN signP; rfl
end Go.Proofs.Ytjgkngjeniameaa

namespace Go.Proofs.Ytjgkngjeniameaa
open Go.Sym
set_option maxRecDepth 10000
set_option maxHeartbeats 1000000
def openN (d s : List UInt8) (i : Nat) : List UInt8 := 80 :: rounds (openF d s) i
theorem openN_length (d : List UInt8) {s : List UInt8} (hs : s.length = 16384) {i : Nat} (hi : i ≤ 256) : (openN d s i).length = 64 * i + 1 := by
  unfold openN
  rw [List.length_cons, rounds_length i fun i h => openF_length d hs (by omega)]
theorem openN_all (d s : List UInt8) : openN d s 256 = openP d s := by unfold openN openP; rfl
def openT (b sig : List UInt8) : List UInt8 := bif decide (sig.length = 16384) then openP (shaB b) sig else []
def openE (sig : List UInt8) : Int := bif decide (sig.length = 16384) then 0 else 15
def checkE (pub b sig : List UInt8) : Int := bif decide (sig.length = 16384) && decide (shaB (openP (shaB b) sig) = pub) then 0 else 15
theorem sig_x (s : List UInt8) (i : Nat) : cutD ((s.drop (64 * i)).map byteD) 0 32 = (sigX s i).map byteD := by
  show List.drop 0 (List.take 32 _) = _
  rw [List.drop_zero, ← List.map_take]; rfl
theorem sig_y (s : List UInt8) (i : Nat) : cutD ((s.drop (64 * i)).map byteD) 32 64 = (sigY s i).map byteD := by
  show List.drop 32 (List.take 64 _) = _
  rw [List.drop_take, ← List.map_drop, List.drop_drop, ← List.map_take]; rfl
theorem sig_n (s : List UInt8) (i : Nat) : cutD ((s.drop (64 * i)).map byteD) 64 (((s.drop (64 * i)).map byteD).length : Nat) = (s.drop (64 * (i + 1))).map byteD := by
  show List.drop 64 (List.take ((s.drop (64 * i)).map byteD).length _) = _
  rw [List.take_length, ← List.map_drop, List.drop_drop]
  rfl
theorem openN_succ {d s : List UInt8} (i : Nat) (h : bitB d i = true) : (openN d s i).map byteD ++ (sigY s i).map byteD ++ (shaB (sigX s i)).map byteD = (openN d s (i + 1)).map byteD := by
  unfold openN
  rw [rounds_succ, ← List.map_append, ← List.map_append]
  simp [openF, h]
theorem openN_succ0 {d s : List UInt8} (i : Nat) (h : bitB d i = false) : (openN d s i).map byteD ++ (shaB (sigX s i)).map byteD ++ (sigY s i).map byteD = (openN d s (i + 1)).map byteD := by
  unfold openN
  rw [rounds_succ, ← List.map_append, ← List.map_append]
  simp [openF, h]
theorem opened_ok (b sig : List UInt8) (hb : b.length < 2 ^ 58) :
    LocalCall Try.prog 98 [.d (.sl (b.map byteD)), .d (.sl (sig.map byteD))] [] [] (one [.d (.sl ((openT b sig).map byteD)), .d (.int .i64 (openE sig))]) [] := by
  by_cases hs : sig.length = 16384
  · have c1 := of_ok b hb
    unfold openT openE
    rw [decide_eq_true hs, cond_true, cond_true]
    generalize hd : shaB b = d at c1
    have ld : d.length = 32 := by rw [← hd]; exact shaB_length b
    have ls : ((sig.map byteD).length : Int) = 16384 := by rw [List.length_map, hs]; rfl
    have lo : ∀ i : Nat, i < 256 → (openN d sig i).length = 64 * i + 1 := fun i hi => openN_length d hs (by omega)
    have co : ∀ i : Nat, i < 256 → LocalCall Try.prog 82 [.d (.sl (cutD ((sig.drop (64 * i)).map byteD) 0 32))] [] [] (one [.d (.arr 32 1 ((shaB (sigX sig i)).map byteD))]) [] := fun i hi => by
      rw [sig_x]; exact of_ok _ (by rw [sigX_length hs hi]; decide)
    refine vc_fn mixed Try.func98 rfl rfl [] (vzH rfl) ?_
    repeat' (first | ((with_reducible refine vzH ?_); first | decide +kernel | rfl) | (with_reducible refine vzC ?_; rfl) | (with_reducible first | (refine vzZ ?_; constructor) | refine vzC ?_ | refine vc_pure c1 ?_ ?_ ?_ | refine vc_callU (bits_ok _) ?_ ?_ | refine vc_pure (co i hi) ?_ ?_ ?_ | refine vc_range 39 112 7 (.arr 32 1 (d.map byteD)) 256 (fun i => [.int .i64 (i : Int), .bool (bitB d i)]) [(3, .ptr 1000 []), (6, .ptr 4004 [])] (fun i => [(1000, .var (.d (.sl ((sig.drop (64 * i)).map byteD)))), (4004, .var (.sl 9 [] 1 0 ((openN d sig i).map byteD).length)), (9, .row 1 ((openN d sig i).map byteD))]) (fun _ => True) [(9, 4000)] ?_ ?_ ?_ ?_ (bits_seq d ld) (fun _ => ⟨rfl, rfl⟩) ?_ ?_ ?_ ?_ ?_ (fun i hi hI => ?_) (fun hI => ?_) | refine vc_endAt [(9, 10016)] 10016 (by with_unfolding_all rfl) trivial ?_ ?_ ?_ | refine vc_endAt [(9, 11016)] 11016 (by with_unfolding_all rfl) trivial ?_ ?_ ?_ | refine vc_ret [true] [] ?_ | refine vzB [] ?_ ?_ ?_ | refine vzD ?_ ?_ | refine vc_ret [] [] ?_) | ((with_reducible first | refine vzE (fun h => ?_) (fun h => ?_) | refine vzF (fun h => ?_) (fun h => ?_)) <;> try (exfalso; omega)) | ((with_reducible refine vzG (fun h => ?_) (fun h => ?_)) <;> (try simp only [Go.Sym.vs1, reduceCtorEq] at h) <;> try (exfalso; first | omega | (simp at h; done))) | ((conv in Vc _ => arg 1; whnf); first | (with_reducible refine vzC ?_; rfl) | (with_reducible first | (refine vzZ ?_; constructor) | refine vzC ?_ | refine vc_pure c1 ?_ ?_ ?_ | refine vc_callU (bits_ok _) ?_ ?_ | refine vc_pure (co i hi) ?_ ?_ ?_ | refine vc_range 39 112 7 (.arr 32 1 (d.map byteD)) 256 (fun i => [.int .i64 (i : Int), .bool (bitB d i)]) [(3, .ptr 1000 []), (6, .ptr 4004 [])] (fun i => [(1000, .var (.d (.sl ((sig.drop (64 * i)).map byteD)))), (4004, .var (.sl 9 [] 1 0 ((openN d sig i).map byteD).length)), (9, .row 1 ((openN d sig i).map byteD))]) (fun _ => True) [(9, 4000)] ?_ ?_ ?_ ?_ (bits_seq d ld) (fun _ => ⟨rfl, rfl⟩) ?_ ?_ ?_ ?_ ?_ (fun i hi hI => ?_) (fun hI => ?_) | refine vc_endAt [(9, 10016)] 10016 (by with_unfolding_all rfl) trivial ?_ ?_ ?_ | refine vc_endAt [(9, 11016)] 11016 (by with_unfolding_all rfl) trivial ?_ ?_ ?_ | refine vc_ret [true] [] ?_ | refine vzB [] ?_ ?_ ?_ | refine vzD ?_ ?_ | refine vc_ret [] [] ?_) | ((with_reducible first | refine vzE (fun h => ?_) (fun h => ?_) | refine vzF (fun h => ?_) (fun h => ?_)) <;> try (exfalso; omega)) | ((with_reducible refine vzG (fun h => ?_) (fun h => ?_)) <;> (try simp only [Go.Sym.vs1, reduceCtorEq] at h) <;> try (exfalso; first | omega | (simp at h; done)))))
    all_goals (try simp only [Int.toNat_natCast, t32s, sig_y])
    all_goals first
      | with_reducible rfl
      | omega
      | trivial
      | (rw [sig_n sig i]; done)
      | (rw [← openN_succ i h]; done)
      | (rw [← openN_succ0 i h]; done)
      | exact ⟨Nat.le_of_eq (Nat.zero_add _), trivial⟩
      | (refine ⟨?_, size_bytes _⟩; rw [List.length_map, List.length_drop]; omega)
      | exact ⟨⟨trivial, trivial, roomJ (by simp only [List.length_append, List.length_map, lo i hi, shaB_length, sigY_length hs hi]; omega)⟩, fun y hy => size_bytes _ y hy⟩
      | exact ⟨⟨⟨trivial, len32 (shaB_length _)⟩, trivial, roomJ (by simp only [List.length_append, List.length_map, lo i hi, shaB_length, sigY_length hs hi]; omega)⟩, fun y hy => size_bytes _ y hy⟩
      | (rw [List.drop_zero, List.take_length]; exact congrArg (fun l => D.sl (List.map byteD l)) (openN_all _ _))
      | rfl
  · have hn : ¬ ((sig.map byteD).length : Int) = 16384 := by rw [List.length_map]; omega
    unfold openT openE
    rw [decide_eq_false hs, cond_false, cond_false]
    have key : LocalCall Try.prog 98 [.d (.sl (b.map byteD)), .d (.sl (sig.map byteD))] [] [] (one [.d .nils, .d (.int .i64 15)]) [] := by
      refine vc_fn mixed Try.func98 rfl rfl [] (vzH rfl) ?_
      repeat' (first | ((with_reducible refine vzH ?_); first | decide +kernel | rfl) | (with_reducible refine vzC ?_; rfl) | (with_reducible first | (refine vzZ ?_; constructor) | refine vzC ?_ | refine vzB [] ?_ ?_ ?_ | refine vzD ?_ ?_ | refine vc_ret [] [] ?_) | ((with_reducible first | refine vzE (fun h => ?_) (fun h => ?_) | refine vzF (fun h => ?_) (fun h => ?_)) <;> try (exfalso; omega)) | ((with_reducible refine vzG (fun h => ?_) (fun h => ?_)) <;> (try simp only [Go.Sym.vs1, reduceCtorEq] at h) <;> try (exfalso; first | omega | (simp at h; done))) | ((conv in Vc _ => arg 1; whnf); first | (with_reducible refine vzC ?_; rfl) | (with_reducible first | (refine vzZ ?_; constructor) | refine vzC ?_ | refine vzB [] ?_ ?_ ?_ | refine vzD ?_ ?_ | refine vc_ret [] [] ?_) | ((with_reducible first | refine vzE (fun h => ?_) (fun h => ?_) | refine vzF (fun h => ?_) (fun h => ?_)) <;> try (exfalso; omega)) | ((with_reducible refine vzG (fun h => ?_) (fun h => ?_)) <;> (try simp only [Go.Sym.vs1, reduceCtorEq] at h) <;> try (exfalso; first | omega | (simp at h; done)))))
      all_goals first | rfl | exact ⟨trivial, trivial, trivial⟩
    exact local_dn key
theorem openT_length (b sig : List UInt8) : (openT b sig).length ≤ 16385 := by
  unfold openT
  by_cases hs : sig.length = 16384
  · rw [decide_eq_true hs, cond_true, openP_length _ hs]; omega
  · rw [decide_eq_false hs, cond_false]; simp
theorem checkE_yes {b sig : List UInt8} (pub : List UInt8) (h : openE sig = 0) : checkE pub b sig = bif decide (shaB (openT b sig) = pub) then 0 else 15 := by
  unfold openE at h
  unfold checkE openT
  by_cases hs : sig.length = 16384
  · rw [decide_eq_true hs, cond_true, Bool.true_and]
  · rw [decide_eq_false hs, cond_false] at h; cases h
theorem checkE_no {b sig : List UInt8} (pub : List UInt8) (h : ¬ openE sig = 0) : checkE pub b sig = 15 ∧ openE sig = 15 := by
  unfold openE at h ⊢
  unfold checkE
  by_cases hs : sig.length = 16384
  · rw [decide_eq_true hs, cond_true] at h; exact absurd rfl h
  · rw [decide_eq_false hs, Bool.false_and]; exact ⟨rfl, rfl⟩
theorem lcheck_ok (pub b sig : List UInt8) (hp : pub.length = 32) (hb : b.length < 2 ^ 58) :
    LocalCall Try.prog 81 [.d (.arr 32 1 (pub.map byteD)), .d (.sl (b.map byteD)), .d (.sl (sig.map byteD))] [] [] (one [.d (.int .i64 (checkE pub b sig))]) [] := by
  have c1 := opened_ok b sig hb
  have c2 := of_ok (openT b sig) (Nat.lt_of_le_of_lt (openT_length _ _) (by decide))
  refine vc_fn mixed Try.func81 rfl rfl [] (vzH rfl) ?_
  repeat' (first | ((with_reducible refine vzH ?_); first | decide +kernel | rfl) | (with_reducible refine vzC ?_; rfl) | (with_reducible first | (refine vzZ ?_; constructor) | refine vzC ?_ | refine vc_pure c1 ?_ ?_ ?_ | refine vc_pure c2 ?_ ?_ ?_ | refine vzB [] ?_ ?_ ?_ | refine vzD ?_ ?_ | refine vc_ret [] [] ?_) | ((with_reducible first | refine vzE (fun h => ?_) (fun h => ?_) | refine vzF (fun h => ?_) (fun h => ?_)) <;> try (exfalso; omega)) | ((with_reducible refine vzG (fun h => ?_) (fun h => ?_)) <;> (try simp only [Go.Sym.vs1, reduceCtorEq] at h) <;> try (exfalso; first | omega | (simp at h; done))) | ((conv in Vc _ => arg 1; whnf); first | (with_reducible refine vzC ?_; rfl) | (with_reducible first | (refine vzZ ?_; constructor) | refine vzC ?_ | refine vc_pure c1 ?_ ?_ ?_ | refine vc_pure c2 ?_ ?_ ?_ | refine vzB [] ?_ ?_ ?_ | refine vzD ?_ ?_ | refine vc_ret [] [] ?_) | ((with_reducible first | refine vzE (fun h => ?_) (fun h => ?_) | refine vzF (fun h => ?_) (fun h => ?_)) <;> try (exfalso; omega)) | ((with_reducible refine vzG (fun h => ?_) (fun h => ?_)) <;> (try simp only [Go.Sym.vs1, reduceCtorEq] at h) <;> try (exfalso; first | omega | (simp at h; done)))))
  all_goals (try simp only [beq_dig, cond_true, cond_false, Bool.not_eq_true', Bool.not_eq_false', decide_eq_true_eq, decide_eq_false_iff_not] at *)
  all_goals first
    | exact ⟨fits_dig 6 _, fits_dig 6 _⟩
    | (rw [(checkE_no (b := b) pub h).1, (checkE_no (b := b) pub h).2]; done)
    | (rw [checkE_yes pub (by assumption)]; simp_all; done)
end Go.Proofs.Ytjgkngjeniameaa

namespace Go.Proofs.Ytjgkngjeniameaa
open Go.Sym
set_option maxRecDepth 10000
set_option maxHeartbeats 1000000
structure Hd where
  epoch : Nat
  root : List UInt8
  key : List UInt8
abbrev hdD (h : Hd) : D := .st [.int .u64 (h.epoch : Int), digD h.root, digD h.key]
def hd0 : Hd := ⟨0, zero32, zero32⟩
def wfH (h : Hd) : Prop := h.epoch < 2 ^ 64 ∧ h.root.length = 32 ∧ h.key.length = 32
theorem wf_hd0 : wfH hd0 := ⟨by decide, rfl, rfl⟩
instance : DecidableEq Hd := fun a b => if h : a.epoch = b.epoch ∧ a.root = b.root ∧ a.key = b.key then isTrue (by cases a; cases b; simp_all) else isFalse (by rintro rfl; exact h ⟨rfl, rfl, rfl⟩)
def wfR (r : Rt) : Prop := r.epoch < 2 ^ 64 ∧ r.prev.length = 32 ∧ r.tree.length = 32 ∧ r.next.length = 32
theorem wfS.wfR {s : Sgn} (h : wfS s) : wfR s.root := ⟨h.1, h.2, h.3, h.4⟩
def rootB (r : Rt) : List UInt8 := 82 :: (num8 r.epoch ++ r.prev ++ r.tree ++ r.next)
theorem rootB_length {r : Rt} (h : wfR r) : (rootB r).length = 105 := by
  obtain ⟨_, h1, h2, h3⟩ := h
  simp only [rootB, List.length_cons, List.length_append, num8_length, h1, h2, h3]
def folE (h : Hd) (s : Sgn) : Int := bif decide (64 ≤ h.epoch) || !decide (s.root.epoch = h.epoch + 1) then 10 else bif !decide (s.root.prev = h.root) || !decide (checkE h.key (rootB s.root) s.sig = 0) then 15 else 0
def folY (s : Sgn) : Hd := ⟨s.root.epoch, shaB (rootB s.root), s.root.next⟩
def folH (h : Hd) (s : Sgn) : Hd := bif decide (folE h s = 0) then folY s else hd0
theorem wf_folY {s : Sgn} (hs : wfS s) : wfH (folY s) := ⟨hs.1, shaB_length _, hs.4⟩
def walk (h : Hd) : List Sgn → Hd × Nat × Int
  | [] => (h, 0, 0)
  | s :: l => bif decide (folE h s = 0) then ((walk (folY s) l).1, (walk (folY s) l).2.1 + 1, (walk (folY s) l).2.2) else (hd0, 0, folE h s)
theorem walk_wf : ∀ (l : List Sgn) (h : Hd), wfH h → (∀ s, s ∈ l → wfS s) → wfH (walk h l).1
  | [], _, hh, _ => hh
  | s :: l, h, hh, hl => by
    unfold walk
    cases decide (folE h s = 0)
    · exact wf_hd0
    · exact walk_wf l _ (wf_folY (hl s (by simp))) fun x hx => hl x (by simp [hx])
def walkAt (h : Hd) (l : List Sgn) (g : Hd) (i : Nat) : Prop := walk h l = ((walk g (l.drop i)).1, (walk g (l.drop i)).2.1 + i, (walk g (l.drop i)).2.2)
theorem walkAt_zero (h : Hd) (l : List Sgn) : walkAt h l h 0 := rfl
theorem walkAt_yes {h g : Hd} {l : List Sgn} {i : Nat} (hw : walkAt h l g i) (hi : i < l.length) (he : folE g (l.getD i s0) = 0) : walkAt h l (folY (l.getD i s0)) (i + 1) := by
  unfold walkAt at hw ⊢
  have hd : l.drop i = l.getD i s0 :: l.drop (i + 1) := by
    rw [List.drop_eq_getElem_cons hi, List.getD_eq_getElem?_getD, List.getElem?_eq_getElem hi]; rfl
  rw [hw, hd]
  simp only [walk, he, decide_true, cond_true]
  rw [Nat.add_assoc, Nat.add_comm 1 i]
theorem walkAt_no {h g : Hd} {l : List Sgn} {i : Nat} (hw : walkAt h l g i) (hi : i < l.length) (he : ¬ folE g (l.getD i s0) = 0) : walk h l = (hd0, i, folE g (l.getD i s0)) := by
  unfold walkAt at hw
  have hd : l.drop i = l.getD i s0 :: l.drop (i + 1) := by
    rw [List.drop_eq_getElem_cons hi, List.getD_eq_getElem?_getD, List.getElem?_eq_getElem hi]; rfl
  rw [hw, hd]
  simp only [walk, decide_eq_false he, cond_false, Nat.zero_add]
theorem walkAt_end {h g : Hd} {l : List Sgn} {i : Nat} (hw : walkAt h l g i) (hi : l.length ≤ i) : walk h l = (g, i, 0) := by
  unfold walkAt at hw
  rw [hw, List.drop_eq_nil_of_le hi]
  simp only [walk, Nat.zero_add]
theorem walk_append : ∀ (l m : List Sgn) (h : Hd), walk h (l ++ m) = bif decide ((walk h l).2.2 = 0) then ((walk (walk h l).1 m).1, (walk h l).2.1 + (walk (walk h l).1 m).2.1, (walk (walk h l).1 m).2.2) else walk h l
  | [], m, h => by simp [walk]
  | s :: l, m, h => by
    by_cases he : folE h s = 0
    · simp only [List.cons_append, walk, he, decide_true, cond_true]
      rw [walk_append l m]
      cases decide ((walk (folY s) l).2.2 = 0)
      · rfl
      · simp only [cond_true]; rw [Nat.add_right_comm]
    · simp only [List.cons_append, walk, decide_eq_false he, cond_false]
theorem folE_cases (h : Hd) (s : Sgn) : (64 ≤ h.epoch ∨ ¬ s.root.epoch = h.epoch + 1) ∧ folE h s = 10 ∨ (h.epoch < 64 ∧ s.root.epoch = h.epoch + 1) ∧ ((¬ s.root.prev = h.root ∨ ¬ checkE h.key (rootB s.root) s.sig = 0) ∧ folE h s = 15 ∨ s.root.prev = h.root ∧ checkE h.key (rootB s.root) s.sig = 0 ∧ folE h s = 0) := by
  unfold folE
  by_cases h1 : 64 ≤ h.epoch
  · exact .inl ⟨.inl h1, by rw [decide_eq_true h1]; rfl⟩
  · by_cases h2 : s.root.epoch = h.epoch + 1
    · refine .inr ⟨⟨by omega, h2⟩, ?_⟩
      rw [decide_eq_false h1, decide_eq_true h2]
      by_cases h3 : s.root.prev = h.root
      · by_cases h4 : checkE h.key (rootB s.root) s.sig = 0
        · exact .inr ⟨h3, h4, by rw [decide_eq_true h3, decide_eq_true h4]; rfl⟩
        · exact .inl ⟨.inr h4, by rw [decide_eq_true h3, decide_eq_false h4]; rfl⟩
      · exact .inl ⟨.inl h3, by rw [decide_eq_false h3]; rfl⟩
    · exact .inl ⟨.inr h2, by rw [decide_eq_false h1, decide_eq_false h2]; rfl⟩
end Go.Proofs.Ytjgkngjeniameaa

namespace Go.Proofs.Ytjgkngjeniameaa
open Go.Sym
set_option maxRecDepth 10000
theorem sgns_in {n : Nat} : ∀ (xs : List D), (∀ y, y ∈ xs → okD Try.prog (n + 5) 30 y) → ∃ l : List Sgn, xs = l.map sD ∧ ∀ s, s ∈ l → wfS s
  | [], _ => ⟨[], rfl, nofun⟩
  | x :: xs, h => by
    obtain ⟨s, rfl, hs⟩ := sgn_of (h x (by simp))
    obtain ⟨l, rfl, hl⟩ := sgns_in xs fun y hy => h y (by simp [hy])
    refine ⟨s :: l, rfl, fun v hv => ?_⟩
    rcases List.mem_cons.1 hv with rfl | hv
    · exact hs
    · exact hl v hv
theorem sgns_of {n : Nat} {x : D} (h : okD Try.prog (n + 6) 24 x) : ∃ l : List Sgn, x = .sl (l.map sD) ∧ (∀ s, s ∈ l → wfS s) ∧ l.length ≤ maxLen := by
  have hu : Try.prog.underlying 24 = some (.slice 30) := rfl
  rw [show n + 6 = (n + 5) + 1 from rfl, okD, hu] at h
  obtain ⟨xs, rfl, hl, hx⟩ := h
  obtain ⟨l, rfl, hs⟩ := sgns_in (n := n) xs hx
  exact ⟨l, rfl, hs, by simpa using hl⟩
end Go.Proofs.Ytjgkngjeniameaa

namespace Go.Proofs.Ytjgkngjeniameaa
open Go.Sym
set_option maxRecDepth 10000
set_option maxHeartbeats 4000000
theorem cut32c {d : List UInt8} (h : d.length = 32) : cutD (d.map byteD) 0 ((32 : Nat) : Int) = d.map byteD := by
  show List.drop 0 (List.take 32 _) = _
  rw [List.drop_zero, List.take_of_length_le (by rw [List.length_map, h]; exact Nat.le_refl _)]
theorem rootBytes_ok (r : Rt) (hr : wfR r) : LocalCall Try.prog 80 [.d (rootD r)] [] [] (one [.d (.sl ((rootB r).map byteD))]) [] := by
  have c1 := number_ok r.epoch r.epoch rfl
  have ef : (82 : UInt8) :: [num8 r.epoch, r.prev, r.tree, r.next].flatten = rootB r := by simp [rootB]
  have c3 := begin_ok 82 82 rfl [num8 r.epoch, r.prev, r.tree, r.next] (by show 4 < 2 ^ 63; decide) (by rw [ef, rootB_length hr]; decide)
  rw [ef] at c3
  have e1 := cut32c hr.2.1
  have e2 := cut32c hr.2.2.1
  have e3 := cut32c hr.2.2.2
  refine vc_fn mixed Try.func80 rfl rfl [(1, [500001])] (vzH rfl) ?_
  repeat' (first | ((with_reducible refine vzH ?_); first | decide +kernel | rfl) | (with_reducible refine vzC ?_; rfl) | (with_reducible first | (refine vzZ ?_; constructor) | refine vzC ?_ | refine vc_pure c1 ?_ ?_ ?_ | refine vc_call [false, true] c3 ?_ | refine vzB [] ?_ ?_ ?_ | refine vzD ?_ ?_ | refine vc_ret [] [] ?_) | ((with_reducible first | refine vzE (fun h => ?_) (fun h => ?_) | refine vzF (fun h => ?_) (fun h => ?_)) <;> try (exfalso; omega)) | ((with_reducible refine vzG (fun h => ?_) (fun h => ?_)) <;> (try simp only [Go.Sym.vs1, reduceCtorEq] at h) <;> try (exfalso; first | omega | (simp at h; done))) | ((conv in Vc _ => arg 1; whnf); first | (with_reducible refine vzC ?_; rfl) | (with_reducible first | (refine vzZ ?_; constructor) | refine vzC ?_ | refine vc_pure c1 ?_ ?_ ?_ | refine vc_call [false, true] c3 ?_ | refine vzB [] ?_ ?_ ?_ | refine vzD ?_ ?_ | refine vc_ret [] [] ?_) | ((with_reducible first | refine vzE (fun h => ?_) (fun h => ?_) | refine vzF (fun h => ?_) (fun h => ?_)) <;> try (exfalso; omega)) | ((with_reducible refine vzG (fun h => ?_) (fun h => ?_)) <;> (try simp only [Go.Sym.vs1, reduceCtorEq] at h) <;> try (exfalso; first | omega | (simp at h; done)))))
  all_goals first
    | with_reducible rfl
    | (show D.sl [.sl ((num8 r.epoch).map byteD), .sl (cutD (r.prev.map byteD) 0 ((32 : Nat) : Int)), .sl (cutD (r.tree.map byteD) 0 ((32 : Nat) : Int)), .sl (cutD (r.next.map byteD) 0 ((32 : Nat) : Int))] = _
       rw [e1, e2, e3]; first | done | rfl)
    | exact ⟨Nat.le_of_eq (Nat.zero_add _), trivial⟩
    | exact ⟨by decide, by decide, by decide⟩
    | rfl
    | skip
theorem rRootBytes_ok (r : Rt) (hr : wfR r) : LocalCall Try.prog 61 [.d (rootD r)] [] [] (one [.d (.sl ((rootB r).map byteD))]) [] := by
  have c1 := rNumber_ok r.epoch r.epoch rfl hr.1
  have ef : (82 : UInt8) :: [num8 r.epoch, r.prev, r.tree, r.next].flatten = rootB r := by simp [rootB]
  have c3 := sign_ok 82 82 rfl [num8 r.epoch, r.prev, r.tree, r.next] (by show 4 < 2 ^ 62; decide) (by rw [ef, rootB_length hr]; decide)
  rw [ef] at c3
  have e1 := cut32c hr.2.1
  have e2 := cut32c hr.2.2.1
  have e3 := cut32c hr.2.2.2
  refine vc_fn mixed Try.func61 rfl rfl [(1, [500001])] (vzH rfl) ?_
  repeat' (first | ((with_reducible refine vzH ?_); first | decide +kernel | rfl) | (with_reducible refine vzC ?_; rfl) | (with_reducible first | (refine vzZ ?_; constructor) | refine vzC ?_ | refine vc_pure c1 ?_ ?_ ?_ | refine vc_call [false, true] c3 ?_ | refine vzB [] ?_ ?_ ?_ | refine vzD ?_ ?_ | refine vc_ret [] [] ?_) | ((with_reducible first | refine vzE (fun h => ?_) (fun h => ?_) | refine vzF (fun h => ?_) (fun h => ?_)) <;> try (exfalso; omega)) | ((with_reducible refine vzG (fun h => ?_) (fun h => ?_)) <;> (try simp only [Go.Sym.vs1, reduceCtorEq] at h) <;> try (exfalso; first | omega | (simp at h; done))) | ((conv in Vc _ => arg 1; whnf); first | (with_reducible refine vzC ?_; rfl) | (with_reducible first | (refine vzZ ?_; constructor) | refine vzC ?_ | refine vc_pure c1 ?_ ?_ ?_ | refine vc_call [false, true] c3 ?_ | refine vzB [] ?_ ?_ ?_ | refine vzD ?_ ?_ | refine vc_ret [] [] ?_) | ((with_reducible first | refine vzE (fun h => ?_) (fun h => ?_) | refine vzF (fun h => ?_) (fun h => ?_)) <;> try (exfalso; omega)) | ((with_reducible refine vzG (fun h => ?_) (fun h => ?_)) <;> (try simp only [Go.Sym.vs1, reduceCtorEq] at h) <;> try (exfalso; first | omega | (simp at h; done)))))
  all_goals first
    | with_reducible rfl
    | (show D.sl [.sl ((num8 r.epoch).map byteD), .sl (cutD (r.prev.map byteD) 0 ((32 : Nat) : Int)), .sl (cutD (r.tree.map byteD) 0 ((32 : Nat) : Int)), .sl (cutD (r.next.map byteD) 0 ((32 : Nat) : Int))] = _
       rw [e1, e2, e3]; first | done | rfl)
    | exact ⟨Nat.le_of_eq (Nat.zero_add _), trivial⟩
    | exact ⟨by decide, by decide, by decide⟩
    | rfl
    | skip
theorem rRoot_ok (r : Rt) (hr : wfR r) : LocalCall Try.prog 45 [.d (rootD r)] [] [] (one [.d (digD (shaB (rootB r)))]) [] := by
  have c1 := rRootBytes_ok r hr
  have c2 := rOf_ok (rootB r) (by rw [rootB_length hr]; decide)
  refine vc_fn mixed Try.func45 rfl rfl [] (vzH rfl) ?_
  repeat' (first | ((with_reducible refine vzH ?_); first | decide +kernel | rfl) | (with_reducible refine vzC ?_; rfl) | (with_reducible first | (refine vzZ ?_; constructor) | refine vzC ?_ | refine vc_pure c1 ?_ ?_ ?_ | refine vc_pure c2 ?_ ?_ ?_ | refine vzB [] ?_ ?_ ?_ | refine vzD ?_ ?_ | refine vc_ret [] [] ?_) | ((with_reducible first | refine vzE (fun h => ?_) (fun h => ?_) | refine vzF (fun h => ?_) (fun h => ?_)) <;> try (exfalso; omega)) | ((with_reducible refine vzG (fun h => ?_) (fun h => ?_)) <;> (try simp only [Go.Sym.vs1, reduceCtorEq] at h) <;> try (exfalso; first | omega | (simp at h; done))) | ((conv in Vc _ => arg 1; whnf); first | (with_reducible refine vzC ?_; rfl) | (with_reducible first | (refine vzZ ?_; constructor) | refine vzC ?_ | refine vc_pure c1 ?_ ?_ ?_ | refine vc_pure c2 ?_ ?_ ?_ | refine vzB [] ?_ ?_ ?_ | refine vzD ?_ ?_ | refine vc_ret [] [] ?_) | ((with_reducible first | refine vzE (fun h => ?_) (fun h => ?_) | refine vzF (fun h => ?_) (fun h => ?_)) <;> try (exfalso; omega)) | ((with_reducible refine vzG (fun h => ?_) (fun h => ?_)) <;> (try simp only [Go.Sym.vs1, reduceCtorEq] at h) <;> try (exfalso; first | omega | (simp at h; done)))))
  all_goals first
    | with_reducible rfl
    | omega
    | exact ⟨trivial, trivial⟩
    | exact ⟨trivial, trivial, trivial⟩
    | exact ⟨trivial, trivial, trivial, trivial⟩
    | exact ⟨⟨by decide, by decide, by decide⟩, trivial⟩
    | exact ⟨Nat.le_of_eq (Nat.zero_add _), trivial⟩
    | exact ⟨Nat.le_refl _, trivial, trivial⟩
    | (rw [wrap64_id (by omega) (by omega)]; rfl)
    | rfl
    | (exfalso; simp at h; done)
    | skip
def pubH (seed : List UInt8) (key : Nat) : List UInt8 := shaB (textP (keyH seed key))
theorem pubH_length (seed : List UInt8) (key : Nat) : (pubH seed key).length = 32 := shaB_length _
theorem start_ok (pin : List UInt8) : LocalCall Try.prog 30 [.d (.arr 32 1 (pin.map byteD))] [] [] (one [.d (hdD ⟨0, zero32, pin⟩)]) [] := by
  refine vc_fn mixed Try.func30 rfl rfl [] (vzH rfl) ?_
  repeat' (first | ((with_reducible refine vzH ?_); first | decide +kernel | rfl) | (with_reducible refine vzC ?_; rfl) | (with_reducible first | (refine vzZ ?_; constructor) | refine vzC ?_ | refine vzB [] ?_ ?_ ?_ | refine vzD ?_ ?_ | refine vc_ret [] [] ?_) | ((with_reducible first | refine vzE (fun h => ?_) (fun h => ?_) | refine vzF (fun h => ?_) (fun h => ?_)) <;> try (exfalso; omega)) | ((with_reducible refine vzG (fun h => ?_) (fun h => ?_)) <;> (try simp only [Go.Sym.vs1, reduceCtorEq] at h) <;> try (exfalso; first | omega | (simp at h; done))) | ((conv in Vc _ => arg 1; whnf); first | (with_reducible refine vzC ?_; rfl) | (with_reducible first | (refine vzZ ?_; constructor) | refine vzC ?_ | refine vzB [] ?_ ?_ ?_ | refine vzD ?_ ?_ | refine vc_ret [] [] ?_) | ((with_reducible first | refine vzE (fun h => ?_) (fun h => ?_) | refine vzF (fun h => ?_) (fun h => ?_)) <;> try (exfalso; omega)) | ((with_reducible refine vzG (fun h => ?_) (fun h => ?_)) <;> (try simp only [Go.Sym.vs1, reduceCtorEq] at h) <;> try (exfalso; first | omega | (simp at h; done)))))
  all_goals first
    | with_reducible rfl
    | omega
    | exact ⟨trivial, trivial⟩
    | exact ⟨trivial, trivial, trivial⟩
    | exact ⟨trivial, trivial, trivial, trivial⟩
    | exact ⟨⟨by decide, by decide, by decide⟩, trivial⟩
    | exact ⟨Nat.le_of_eq (Nat.zero_add _), trivial⟩
    | exact ⟨Nat.le_refl _, trivial, trivial⟩
    | (rw [wrap64_id (by omega) (by omega)]; rfl)
    | rfl
    | (exfalso; simp at h; done)
    | skip
theorem fz6 : List.replicate 32 (D.zero Try.prog 6 5) = zero32.map byteD := rfl
theorem fz7 : List.replicate 32 (D.zero Try.prog 7 5) = zero32.map byteD := rfl
theorem follow_ok (g : Hd) (s : Sgn) (hh : wfH g) (hs : wfS s) : LocalCall Try.prog 54 [.d (hdD g), .d (sD s)] [] [] (one [.d (hdD (folH g s)), .d (.int .i64 (folE g s))]) [] := by
  have c1 := rootBytes_ok s.root hs.wfR
  have lr := rootB_length hs.wfR
  have c2 := lcheck_ok g.key (rootB s.root) s.sig hh.2.2 (by rw [lr]; decide)
  have c3 := of_ok (rootB s.root) (by rw [lr]; decide)
  have hc := folE_cases g s
  have hw : ¬ (g.epoch : Int) ≥ 64 → IntKind.u64.wrap ((g.epoch : Int) + 1) = ((g.epoch + 1 : Nat) : Int) := fun h => by
    rw [wrapU64_id (by omega) (by omega)]; rfl
  refine vc_fn mixed Try.func54 rfl rfl [] (vzH rfl) ?_
  repeat' (first | ((with_reducible refine vzH ?_); first | decide +kernel | rfl) | (with_reducible refine vzC ?_; rfl) | (with_reducible first | (refine vzZ ?_; constructor) | refine vzC ?_ | refine vc_pure c1 ?_ ?_ ?_ | refine vc_pure c2 ?_ ?_ ?_ | refine vc_pure c3 ?_ ?_ ?_ | refine vzB [] ?_ ?_ ?_ | refine vzD ?_ ?_ | refine vc_ret [] [] ?_) | ((with_reducible first | refine vzE (fun h => ?_) (fun h => ?_) | refine vzF (fun h => ?_) (fun h => ?_)) <;> try (exfalso; omega)) | ((with_reducible refine vzG (fun h => ?_) (fun h => ?_)) <;> (try simp only [Go.Sym.vs1, reduceCtorEq] at h) <;> try (exfalso; first | omega | (simp at h; done))) | ((conv in Vc _ => arg 1; whnf); first | (with_reducible refine vzC ?_; rfl) | (with_reducible first | (refine vzZ ?_; constructor) | refine vzC ?_ | refine vc_pure c1 ?_ ?_ ?_ | refine vc_pure c2 ?_ ?_ ?_ | refine vc_pure c3 ?_ ?_ ?_ | refine vzB [] ?_ ?_ ?_ | refine vzD ?_ ?_ | refine vc_ret [] [] ?_) | ((with_reducible first | refine vzE (fun h => ?_) (fun h => ?_) | refine vzF (fun h => ?_) (fun h => ?_)) <;> try (exfalso; omega)) | ((with_reducible refine vzG (fun h => ?_) (fun h => ?_)) <;> (try simp only [Go.Sym.vs1, reduceCtorEq] at h) <;> try (exfalso; first | omega | (simp at h; done)))))
  all_goals (try simp only [fz6, fz7, beq_dig, cond_true, cond_false, Bool.not_eq_true', Bool.not_eq_false', decide_eq_true_eq, decide_eq_false_iff_not] at *)
  all_goals (try simp only [hw (by assumption)] at *)
  all_goals first
    | exact ⟨trivial, trivial, trivial⟩
    | exact ⟨trivial, trivial, trivial, trivial⟩
    | exact ⟨fits_dig 6 _, fits_dig 6 _⟩
    | (rcases hc with ⟨q, e⟩ | ⟨⟨q1, q2⟩, ⟨q, e⟩ | ⟨q3, q4, e⟩⟩ <;> first
        | (rw [e]; done)
        | (unfold folH; rw [e]; rfl)
        | (exfalso; omega)
        | (exfalso; rcases q with q | q <;> first | omega | exact absurd (by assumption) q)
        | exact absurd q3 (by assumption)
        | exact absurd q4 (by assumption))
    | skip
end Go.Proofs.Ytjgkngjeniameaa

namespace Go.Proofs.Ytjgkngjeniameaa
open Go.Sym
set_option maxRecDepth 10000
set_option maxHeartbeats 4000000
theorem sgn_at {l : List Sgn} {i : Nat} (hi : i < l.length) : (l.map sD).getD i .nilp = sD (l.getD i s0) := (map_at (f := sD) (d := s0) hi).1
theorem wfS_at {l : List Sgn} (hl : ∀ s, s ∈ l → wfS s) {i : Nat} (hi : i < l.length) : wfS (l.getD i s0) := hl _ (by rw [List.getD_eq_getElem?_getD, List.getElem?_eq_getElem hi]; simp)
theorem walk_ok (g : Hd) (l : List Sgn) (hg : wfH g) (hl : ∀ s, s ∈ l → wfS s) (hm : l.length < 2 ^ 63) : LocalCall Try.prog 29 [.d (hdD g), .d (.sl (l.map sD))] [] [] (one [.d (hdD (walk g l).1), .d (.int .i64 ((walk g l).2.1 : Int)), .d (.int .i64 (walk g l).2.2)]) [] := by
  have fo : ∀ (g : Hd) (i : Nat), i < l.length → wfH g → LocalCall Try.prog 54 [.d (hdD g), .d (sD (l.getD i s0))] [] [] (one [.d (hdD (folH g (l.getD i s0))), .d (.int .i64 (folE g (l.getD i s0)))]) [] := fun g i hi hg => follow_ok g _ hg (wfS_at hl hi)
  have lm : (l.map sD).length = l.length := List.length_map _
  refine vc_fn mixed Try.func29 rfl rfl [] (vzH rfl) ?_
  repeat' (first | ((with_reducible refine vzH ?_); first | decide +kernel | rfl) | (with_reducible refine vzC ?_; rfl) | (with_reducible first | (refine vzZ ?_; constructor) | refine vzC ?_ | refine vc_loopI 34 (fun (x : Hd × Nat) => [(1, .d (.sl (l.map sD))), (2, .ptr 1000 []), (4, .ptr 1004 []), (11, .d (.int .i64 ((l.map sD).length : Nat))), (12, .d (.int .i64 (x.2 : Int)))]) (fun x => [(1000, .var (.d (hdD x.1))), (1004, .var (.d (hdD hd0)))]) (fun x => l.length - x.2) (fun x => x.2 ≤ l.length ∧ walkAt g l x.1 x.2 ∧ wfH x.1) (g, 0) [] ?_ ?_ ?_ ?_ ?_ (fun x hI => ?_) | refine vc_call [] (fo x.1 x.2 (by omega) hI.2.2) ?_ | refine vc_nextI (folY (l.getD x.2 s0), x.2 + 1) [] ?_ ?_ ?_ ?_ ?_ ?_ | refine vzB [] ?_ ?_ ?_ | refine vzD ?_ ?_ | refine vc_ret [] [] ?_) | ((with_reducible first | refine vzE (fun h => ?_) (fun h => ?_) | refine vzF (fun h => ?_) (fun h => ?_)) <;> try (exfalso; omega)) | ((with_reducible refine vzG (fun h => ?_) (fun h => ?_)) <;> (try simp only [Go.Sym.vs1, reduceCtorEq] at h) <;> try (exfalso; first | omega | (simp at h; done))) | ((conv in Vc _ => arg 1; whnf); first | (with_reducible refine vzC ?_; rfl) | (with_reducible first | (refine vzZ ?_; constructor) | refine vzC ?_ | refine vc_loopI 34 (fun (x : Hd × Nat) => [(1, .d (.sl (l.map sD))), (2, .ptr 1000 []), (4, .ptr 1004 []), (11, .d (.int .i64 ((l.map sD).length : Nat))), (12, .d (.int .i64 (x.2 : Int)))]) (fun x => [(1000, .var (.d (hdD x.1))), (1004, .var (.d (hdD hd0)))]) (fun x => l.length - x.2) (fun x => x.2 ≤ l.length ∧ walkAt g l x.1 x.2 ∧ wfH x.1) (g, 0) [] ?_ ?_ ?_ ?_ ?_ (fun x hI => ?_) | refine vc_call [] (fo x.1 x.2 (by omega) hI.2.2) ?_ | refine vc_nextI (folY (l.getD x.2 s0), x.2 + 1) [] ?_ ?_ ?_ ?_ ?_ ?_ | refine vzB [] ?_ ?_ ?_ | refine vzD ?_ ?_ | refine vc_ret [] [] ?_) | ((with_reducible first | refine vzE (fun h => ?_) (fun h => ?_) | refine vzF (fun h => ?_) (fun h => ?_)) <;> try (exfalso; omega)) | ((with_reducible refine vzG (fun h => ?_) (fun h => ?_)) <;> (try simp only [Go.Sym.vs1, reduceCtorEq] at h) <;> try (exfalso; first | omega | (simp at h; done)))))
  all_goals first
    | with_reducible rfl
    | exact ⟨Nat.zero_le _, walkAt_zero _ _, hg⟩
    | exact ⟨trivial, trivial, trivial, trivial⟩
    | exact ⟨⟨by omega, by omega⟩, by rw [Int.toNat_natCast, sgn_at (by omega)]; rfl⟩
    | (show D.st _ = sD _; simp only [Int.toNat_natCast, sgn_at (show x.2 < l.length by omega)]; rfl)
    | (rw [walkAt_no hI.2.1 (by omega) h]; first | done | rfl)
    | exact ⟨by show x.2 + 1 ≤ l.length; omega, walkAt_yes hI.2.1 (by omega) h, wf_folY (wfS_at hl (by omega))⟩
    | (show l.length - (x.2 + 1) < l.length - x.2; omega)
    | (rw [wrap64_id (by omega) (by omega)]; rfl)
    | (unfold folH; rw [decide_eq_true h]; rfl)
    | (rw [walkAt_end hI.2.1 (by omega)]; first | done | rfl)
    | (rw [walkAt_end hI.2.1 (by omega)]; exact congrArg (D.int .i64) (show ((l.map sD).length : Int) = (x.2 : Int) by omega))
    | rfl
    | trace_state
def sealRt (seed : List UInt8) (g : Hd) (tree : List UInt8) : Rt := ⟨g.epoch + 1, g.root, tree, pubH seed (g.epoch + 2)⟩
def sealS (seed : List UInt8) (g : Hd) (tree : List UInt8) : Sgn := ⟨sealRt seed g tree, signP (keyH seed (g.epoch + 1)) (shaB (rootB (sealRt seed g tree)))⟩
theorem wf_seal (seed : List UInt8) {g : Hd} (hg : wfH g) (he : g.epoch < 64) {tree : List UInt8} (ht : tree.length = 32) : wfS (sealS seed g tree) := ⟨by show g.epoch + 1 < _; omega, hg.2.1, ht, pubH_length _ _⟩
def sealE (g : Hd) : Int := bif decide (64 ≤ g.epoch) then 12 else 0
def sealR (seed : List UInt8) (g : Hd) (tree : List UInt8) : Sgn := bif decide (64 ≤ g.epoch) then s0 else sealS seed g tree
end Go.Proofs.Ytjgkngjeniameaa

namespace Go.Proofs.Ytjgkngjeniameaa
open Go.Sym
set_option maxRecDepth 10000
end Go.Proofs.Ytjgkngjeniameaa
