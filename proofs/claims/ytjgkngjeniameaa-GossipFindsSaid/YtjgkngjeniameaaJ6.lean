import Derived.Test.YtjgkngjeniameaaJ3
import Derived.Test.YtjgkngjeniameaaJ4
import Derived.Test.YtjgkngjeniameaaJ5
set_option linter.unusedSimpArgs false
set_option linter.unusedVariables false
namespace Go.Proofs.Ytjgkngjeniameaa
open Go.Sym
set_option maxRecDepth 10000
set_option maxHeartbeats 1000000
theorem shr_half (c : UInt8) (j : Nat) : IntKind.i64.wrap (((c.toNat >>> j : Nat) : Int).tdiv 2) = ((c.toNat >>> (j + 1) : Nat) : Int) := by
  have h1 : c.toNat >>> (j + 1) = (c.toNat >>> j) / 2 := Nat.shiftRight_succ _ _
  have h2 : c.toNat >>> j ≤ c.toNat := by rw [Nat.shiftRight_eq_div_pow]; exact Nat.div_le_self _ _
  have h3 := c.toNat_lt
  rw [h1]
  generalize c.toNat >>> j = q at h2
  rw [Int.tdiv_eq_ediv_of_nonneg (by omega), wrap64_id (by omega) (by omega)]; omega
theorem shr_bit (c m : Nat) : (((c >>> m : Nat) : Int).tmod 2 == 1) = c.testBit m := by
  rw [Nat.testBit_eq_decide_div_mod_eq, ← Nat.shiftRight_eq_div_pow]
  generalize c >>> m = q
  rw [Int.tmod_eq_emod_of_nonneg (by omega)]
  rw [Bool.eq_iff_iff]
  simp
  omega
theorem rBit_ok (xs : List D) (bs : List UInt8) (hx : xs = bs.map byteD) (hb : bs.length = 32) (i : Int) : LocalCall Try.prog 85 [.d (.arr 32 1 xs), .d (.int .i64 i)] [] [] (one [.d (.bool (bitI bs i))]) [] := by
  subst hx
  refine vc_fn mixed Try.func85 rfl rfl [] (vzH rfl) ?_
  repeat' (first | ((with_reducible refine vzH ?_); first | decide +kernel | rfl) | (with_reducible refine vzC ?_; rfl) | (with_reducible first | (refine vzZ ?_; constructor) | refine vzC ?_ | refine vc_loopI 29 (fun (j : Nat) => [(1, .d (.int .i64 i)), (5, .d (.int .i64 (((bs.getD (i.toNat / 8) 0).toNat >>> j : Nat) : Int))), (6, .d (.int .i64 ((7 - j : Nat) : Int)))]) (fun _ => []) (fun j => 7 - j) (fun j => j ≤ 7 - i.toNat % 8) 0 [] ?_ ?_ ?_ ?_ ?_ (fun j hj => ?_) | refine vc_nextI (j + 1) [] ?_ ?_ ?_ ?_ ?_ ?_ | refine vzB [] ?_ ?_ ?_ | refine vzD ?_ ?_ | refine vc_ret [] [] ?_) | ((with_reducible first | refine vzE (fun h => ?_) (fun h => ?_) | refine vzF (fun h => ?_) (fun h => ?_)) <;> try (exfalso; omega)) | ((with_reducible refine vzG (fun h => ?_) (fun h => ?_)) <;> (try simp at h) <;> try (exfalso; omega)) | ((conv in Vc _ => arg 1; whnf); first | (with_reducible refine vzC ?_; rfl) | (with_reducible first | (refine vzZ ?_; constructor) | refine vzC ?_ | refine vc_loopI 29 (fun (j : Nat) => [(1, .d (.int .i64 i)), (5, .d (.int .i64 (((bs.getD (i.toNat / 8) 0).toNat >>> j : Nat) : Int))), (6, .d (.int .i64 ((7 - j : Nat) : Int)))]) (fun _ => []) (fun j => 7 - j) (fun j => j ≤ 7 - i.toNat % 8) 0 [] ?_ ?_ ?_ ?_ ?_ (fun j hj => ?_) | refine vc_nextI (j + 1) [] ?_ ?_ ?_ ?_ ?_ ?_ | refine vzB [] ?_ ?_ ?_ | refine vzD ?_ ?_ | refine vc_ret [] [] ?_) | ((with_reducible first | refine vzE (fun h => ?_) (fun h => ?_) | refine vzF (fun h => ?_) (fun h => ?_)) <;> try (exfalso; omega)) | ((with_reducible refine vzG (fun h => ?_) (fun h => ?_)) <;> (try simp at h) <;> try (exfalso; omega))))
  all_goals first | rw [bitI_neg bs (by omega)] | rw [bitI_big bs (by omega)] | skip
  all_goals
    obtain ⟨n, rfl⟩ : ∃ n : Nat, i = n := ⟨i.toNat, by omega⟩
    have hn : n < 256 := by omega
    have hc := (bs.getD (n / 8) 0).toNat_lt
    try simp only [div8 hn, mod8, Int.toNat_natCast, getD_byte (show n / 8 < bs.length by omega)] at *
  all_goals first
    | rfl
    | omega
    | exact ⟨⟨by omega, trivial⟩, rfl⟩
    | (simp only [byteD, D.toInt]; rw [wrap64_id (by omega) (by omega)]; rfl)
    | (rw [shr_half])
    | (rw [wrap64_id (by omega) (by omega)]; congr 1; omega)
    | (obtain rfl : j = 7 - n % 8 := by omega
       rw [bitI_nat bs hn]; exact congrArg D.bool (shr_bit _ _))
end Go.Proofs.Ytjgkngjeniameaa

namespace Go.Proofs.Ytjgkngjeniameaa
open Go.Sym
set_option maxRecDepth 10000
set_option maxHeartbeats 1000000
theorem rPart_ok (seed : List UInt8) (hs : seed.length = 32) (key : Nat) (hk : key < 2 ^ 64) (i : Nat) (hi : i < 256) (on : Bool) :
    LocalCall Try.prog 86 [.d (.arr 32 1 (seed.map byteD)), .d (.int .u64 (key : Int)), .d (.int .i64 (i : Int)), .d (.bool on)] [] [] (one [.d (.arr 32 1 ((keyH seed key i on).map byteD))]) [] := by
  have c0 := rKeyOf_ok seed hs key hk i hi 0 (.inl rfl)
  have c1 := rKeyOf_ok seed hs key hk i hi 1 (.inr rfl)
  rw [decide_eq_false (by decide)] at c0
  rw [decide_eq_true rfl] at c1
  refine vc_fn mixed Try.func86 rfl rfl [] (vzH rfl) ?_
  repeat' (first | ((with_reducible refine vzH ?_); first | decide +kernel | rfl) | (with_reducible refine vzC ?_; rfl) | (with_reducible first | (refine vzZ ?_; constructor) | refine vzC ?_ | refine vc_pure c0 ?_ ?_ ?_ | refine vc_pure c1 ?_ ?_ ?_ | refine vzB [] ?_ ?_ ?_ | refine vzD ?_ ?_ | refine vc_ret [] [] ?_) | ((with_reducible first | refine vzE (fun h => ?_) (fun h => ?_) | refine vzF (fun h => ?_) (fun h => ?_)) <;> try (exfalso; omega)) | ((with_reducible refine vzG (fun h => ?_) (fun h => ?_)) <;> (try simp only [Go.Sym.vs1, reduceCtorEq] at h) <;> try (exfalso; first | omega | (simp at h; done))) | ((conv in Vc _ => arg 1; whnf); first | (with_reducible refine vzC ?_; rfl) | (with_reducible first | (refine vzZ ?_; constructor) | refine vzC ?_ | refine vc_pure c0 ?_ ?_ ?_ | refine vc_pure c1 ?_ ?_ ?_ | refine vzB [] ?_ ?_ ?_ | refine vzD ?_ ?_ | refine vc_ret [] [] ?_) | ((with_reducible first | refine vzE (fun h => ?_) (fun h => ?_) | refine vzF (fun h => ?_) (fun h => ?_)) <;> try (exfalso; omega)) | ((with_reducible refine vzG (fun h => ?_) (fun h => ?_)) <;> (try simp only [Go.Sym.vs1, reduceCtorEq] at h) <;> try (exfalso; first | omega | (simp at h; done)))))
  all_goals first
    | rfl
    | (subst h; rfl)
    | skip
theorem rHashed_ok (seed : List UInt8) (hs : seed.length = 32) (key : Nat) (hk : key < 2 ^ 64) (i : Nat) (hi : i < 256) (on : Bool) :
    LocalCall Try.prog 87 [.d (.arr 32 1 (seed.map byteD)), .d (.int .u64 (key : Int)), .d (.int .i64 (i : Int)), .d (.bool on)] [] [] (one [.d (.arr 32 1 ((shaB (keyH seed key i on)).map byteD))]) [] := by
  have c0 := rPart_ok seed hs key hk i hi on
  have c1 := rOf_ok (keyH seed key i on) (by rw [keyH_length]; decide)
  refine vc_fn mixed Try.func87 rfl rfl [] (vzH rfl) ?_
  repeat' (first | ((with_reducible refine vzH ?_); first | decide +kernel | rfl) | (with_reducible refine vzC ?_; rfl) | (with_reducible first | (refine vzZ ?_; constructor) | refine vzC ?_ | refine vc_pure c0 ?_ ?_ ?_ | refine vc_call [true] c1 ?_ | refine vzB [] ?_ ?_ ?_ | refine vzD ?_ ?_ | refine vc_ret [] [] ?_) | ((with_reducible first | refine vzE (fun h => ?_) (fun h => ?_) | refine vzF (fun h => ?_) (fun h => ?_)) <;> try (exfalso; omega)) | ((with_reducible refine vzG (fun h => ?_) (fun h => ?_)) <;> (try simp only [Go.Sym.vs1, reduceCtorEq] at h) <;> try (exfalso; first | omega | (simp at h; done))) | ((conv in Vc _ => arg 1; whnf); first | (with_reducible refine vzC ?_; rfl) | (with_reducible first | (refine vzZ ?_; constructor) | refine vzC ?_ | refine vc_pure c0 ?_ ?_ ?_ | refine vc_call [true] c1 ?_ | refine vzB [] ?_ ?_ ?_ | refine vzD ?_ ?_ | refine vc_ret [] [] ?_) | ((with_reducible first | refine vzE (fun h => ?_) (fun h => ?_) | refine vzF (fun h => ?_) (fun h => ?_)) <;> try (exfalso; omega)) | ((with_reducible refine vzG (fun h => ?_) (fun h => ?_)) <;> (try simp only [Go.Sym.vs1, reduceCtorEq] at h) <;> try (exfalso; first | omega | (simp at h; done)))))
  all_goals (try simp only [take32d (keyH_length _ _ _ _)])
  all_goals first
    | rfl
    | exact ⟨⟨by decide, by decide, by decide⟩, trivial⟩
    | exact ⟨⟨trivial, len32 (keyH_length _ _ _ _)⟩, trivial⟩
    | exact ⟨trivial, trivial, trivial⟩
    | skip
theorem lrText_ok (seed : List UInt8) (hs : seed.length = 32) (key : Nat) (hk : key < 2 ^ 64) :
    LocalCall Try.prog 63 [.d (.arr 32 1 (seed.map byteD)), .d (.int .u64 (key : Int))] [] [] (one [.d (.sl ((textP (keyH seed key)).map byteD))]) [] := by
  have hc0 : ∀ i : Nat, i < 256 → _ := fun i hi => rHashed_ok seed hs key hk i hi false
  have hc1 : ∀ i : Nat, i < 256 → _ := fun i hi => rHashed_ok seed hs key hk i hi true
  refine vc_fn mixed Try.func63 rfl rfl [] (vzH rfl) ?_
  repeat' (first | ((with_reducible refine vzH ?_); first | decide +kernel | rfl) | (with_reducible refine vzC ?_; rfl) | (with_reducible first | (refine vzZ ?_; constructor) | refine vzC ?_ | refine vc_loopI 31 (fun (i : Nat) => [(1, .d (.int .u64 (key : Int))), (2, .ptr 1000 []), (5, .sl 7 [] 1 0 ((textN (keyH seed key) i).map byteD).length), (6, .d (.int .i64 (i : Int)))]) (fun i => [(1000, .var (.d (.arr 32 1 (seed.map byteD)))), (7, .row 1 ((textN (keyH seed key) i).map byteD))]) (fun i => 256 - i) (fun i => i ≤ 256) 0 [(7, 2000)] ?_ ?_ ?_ ?_ ?_ (fun i hI => ?_) | refine vc_pure (hc0 i (by omega)) ?_ ?_ ?_ | refine vc_pure (hc1 i (by omega)) ?_ ?_ ?_ | refine vc_nextI (i + 1) [(7, 10008)] ?_ ?_ ?_ ?_ ?_ ?_ | refine vc_ret [true] [] ?_ | refine vzB [] ?_ ?_ ?_ | refine vzD ?_ ?_ | refine vc_ret [] [] ?_) | ((with_reducible first | refine vzE (fun h => ?_) (fun h => ?_) | refine vzF (fun h => ?_) (fun h => ?_)) <;> try (exfalso; omega)) | ((with_reducible refine vzG (fun h => ?_) (fun h => ?_)) <;> (try simp only [Go.Sym.vs1, reduceCtorEq] at h) <;> try (exfalso; first | omega | (simp at h; done))) | ((conv in Vc _ => arg 1; whnf); first | (with_reducible refine vzC ?_; rfl) | (with_reducible first | (refine vzZ ?_; constructor) | refine vzC ?_ | refine vc_loopI 31 (fun (i : Nat) => [(1, .d (.int .u64 (key : Int))), (2, .ptr 1000 []), (5, .sl 7 [] 1 0 ((textN (keyH seed key) i).map byteD).length), (6, .d (.int .i64 (i : Int)))]) (fun i => [(1000, .var (.d (.arr 32 1 (seed.map byteD)))), (7, .row 1 ((textN (keyH seed key) i).map byteD))]) (fun i => 256 - i) (fun i => i ≤ 256) 0 [(7, 2000)] ?_ ?_ ?_ ?_ ?_ (fun i hI => ?_) | refine vc_pure (hc0 i (by omega)) ?_ ?_ ?_ | refine vc_pure (hc1 i (by omega)) ?_ ?_ ?_ | refine vc_nextI (i + 1) [(7, 10008)] ?_ ?_ ?_ ?_ ?_ ?_ | refine vc_ret [true] [] ?_ | refine vzB [] ?_ ?_ ?_ | refine vzD ?_ ?_ | refine vc_ret [] [] ?_) | ((with_reducible first | refine vzE (fun h => ?_) (fun h => ?_) | refine vzF (fun h => ?_) (fun h => ?_)) <;> try (exfalso; omega)) | ((with_reducible refine vzG (fun h => ?_) (fun h => ?_)) <;> (try simp only [Go.Sym.vs1, reduceCtorEq] at h) <;> try (exfalso; first | omega | (simp at h; done)))))
  all_goals (try simp only [Int.toNat_natCast, t32k, t32s])
  all_goals first
    | with_reducible rfl
    | omega
    | exact ⟨trivial, trivial⟩
    | exact ⟨trivial, trivial, trivial⟩
    | exact ⟨trivial, trivial, trivial, trivial⟩
    | exact ⟨⟨by decide, by decide, by decide⟩, trivial⟩
    | exact ⟨Nat.le_of_eq (Nat.zero_add _), trivial⟩
    | exact ⟨Nat.le_refl _, trivial, trivial⟩
    | (rw [wrap64_id (by omega) (by omega)]; rfl)
    | exact ⟨by decide, by decide, by decide, by decide⟩
    | (decide; done)
    | exact ⟨⟨⟨trivial, len32 (shaB_length _)⟩, trivial, roomJ (by simp only [List.length_append, List.length_map, textN_length, shaB_length]; omega)⟩, fun y hy => size_bytes _ y hy⟩
    | (rw [← textN_succ]; done)
    | ((obtain rfl : i = 256 := (by omega)); rw [List.drop_zero, List.take_length]; rfl)
    | rfl
    | (exfalso; simp at h; done)
    | skip
theorem rPublic_ok (seed : List UInt8) (hs : seed.length = 32) (key : Nat) (hk : key < 2 ^ 64) :
    LocalCall Try.prog 46 [.d (.arr 32 1 (seed.map byteD)), .d (.int .u64 (key : Int))] [] [] (one [.d (.arr 32 1 ((shaB (textP (keyH seed key))).map byteD))]) [] := by
  have c1 := lrText_ok seed hs key hk
  have c2 := rOf_ok (textP (keyH seed key)) (by rw [textP_length]; decide)
  refine vc_fn mixed Try.func46 rfl rfl [] (vzH rfl) ?_
  repeat' (first | ((with_reducible refine vzH ?_); first | decide +kernel | rfl) | (with_reducible refine vzC ?_; rfl) | (with_reducible first | (refine vzZ ?_; constructor) | refine vzC ?_ | refine vc_pure c1 ?_ ?_ ?_ | refine vc_pure c2 ?_ ?_ ?_ | refine vzB [] ?_ ?_ ?_ | refine vzD ?_ ?_ | refine vc_ret [] [] ?_) | ((with_reducible first | refine vzE (fun h => ?_) (fun h => ?_) | refine vzF (fun h => ?_) (fun h => ?_)) <;> try (exfalso; omega)) | ((with_reducible refine vzG (fun h => ?_) (fun h => ?_)) <;> (try simp only [Go.Sym.vs1, reduceCtorEq] at h) <;> try (exfalso; first | omega | (simp at h; done))) | ((conv in Vc _ => arg 1; whnf); first | (with_reducible refine vzC ?_; rfl) | (with_reducible first | (refine vzZ ?_; constructor) | refine vzC ?_ | refine vc_pure c1 ?_ ?_ ?_ | refine vc_pure c2 ?_ ?_ ?_ | refine vzB [] ?_ ?_ ?_ | refine vzD ?_ ?_ | refine vc_ret [] [] ?_) | ((with_reducible first | refine vzE (fun h => ?_) (fun h => ?_) | refine vzF (fun h => ?_) (fun h => ?_)) <;> try (exfalso; omega)) | ((with_reducible refine vzG (fun h => ?_) (fun h => ?_)) <;> (try simp only [Go.Sym.vs1, reduceCtorEq] at h) <;> try (exfalso; first | omega | (simp at h; done)))))
  all_goals first
    | rfl
    | skip
theorem rSign_ok (seed : List UInt8) (hs : seed.length = 32) (key : Nat) (hk : key < 2 ^ 64) (b : List UInt8) (hb : b.length < 2 ^ 28) :
    LocalCall Try.prog 60 [.d (.arr 32 1 (seed.map byteD)), .d (.int .u64 (key : Int)), .d (.sl (b.map byteD))] [] [] (one [.d (.sl ((signP (keyH seed key) (shaB b)).map byteD))]) [] := by
  have c1 := rOf_ok b hb
  generalize hd : shaB b = d at c1
  have ld : d.length = 32 := by rw [← hd]; exact shaB_length b
  have cb : ∀ i : Nat, i < 256 → LocalCall Try.prog 85 [.d (.arr 32 1 (d.map byteD)), .d (.int .i64 (i : Int))] [] [] (one [.d (.bool (bitB d i))]) [] := fun i hi => by
    have h := rBit_ok (d.map byteD) d rfl ld (i : Int)
    rwa [bitI_nat d hi] at h
  have cp : ∀ i : Nat, i < 256 → _ := fun i hi => rPart_ok seed hs key hk i hi (bitB d i)
  have ch : ∀ i : Nat, i < 256 → _ := fun i hi => rHashed_ok seed hs key hk i hi (!bitB d i)
  refine vc_fn mixed Try.func60 rfl rfl [] (vzH rfl) ?_
  repeat' (first | ((with_reducible refine vzH ?_); first | decide +kernel | rfl) | (with_reducible refine vzC ?_; rfl) | (with_reducible first | (refine vzZ ?_; constructor) | refine vzC ?_ | refine vc_loopI 41 (fun (i : Nat) => [(1, .d (.int .u64 (key : Int))), (3, .ptr 1000 []), (7, .ptr 2008 []), (8, .sl 9 [] 1 0 ((signN (keyH seed key) d i).map byteD).length), (9, .d (.int .i64 (i : Int)))]) (fun i => [(1000, .var (.d (.arr 32 1 (seed.map byteD)))), (2008, .var (.d (.arr 32 1 (d.map byteD)))), (9, .row 1 ((signN (keyH seed key) d i).map byteD))]) (fun i => 256 - i) (fun i => i ≤ 256) 0 [(9, 3000)] ?_ ?_ ?_ ?_ ?_ (fun i hI => ?_) | refine vc_pure c1 ?_ ?_ ?_ | refine vc_pure (cb i (by omega)) ?_ ?_ ?_ | refine vc_pure (cp i (by omega)) ?_ ?_ ?_ | refine vc_pure (ch i (by omega)) ?_ ?_ ?_ | refine vc_nextI (i + 1) [(9, 11008)] ?_ ?_ ?_ ?_ ?_ ?_ | refine vc_ret [true] [] ?_ | refine vzB [] ?_ ?_ ?_ | refine vzD ?_ ?_ | refine vc_ret [] [] ?_) | ((with_reducible first | refine vzE (fun h => ?_) (fun h => ?_) | refine vzF (fun h => ?_) (fun h => ?_)) <;> try (exfalso; omega)) | ((with_reducible refine vzG (fun h => ?_) (fun h => ?_)) <;> (try simp only [Go.Sym.vs1, reduceCtorEq] at h) <;> try (exfalso; first | omega | (simp at h; done))) | ((conv in Vc _ => arg 1; whnf); first | (with_reducible refine vzC ?_; rfl) | (with_reducible first | (refine vzZ ?_; constructor) | refine vzC ?_ | refine vc_loopI 41 (fun (i : Nat) => [(1, .d (.int .u64 (key : Int))), (3, .ptr 1000 []), (7, .ptr 2008 []), (8, .sl 9 [] 1 0 ((signN (keyH seed key) d i).map byteD).length), (9, .d (.int .i64 (i : Int)))]) (fun i => [(1000, .var (.d (.arr 32 1 (seed.map byteD)))), (2008, .var (.d (.arr 32 1 (d.map byteD)))), (9, .row 1 ((signN (keyH seed key) d i).map byteD))]) (fun i => 256 - i) (fun i => i ≤ 256) 0 [(9, 3000)] ?_ ?_ ?_ ?_ ?_ (fun i hI => ?_) | refine vc_pure c1 ?_ ?_ ?_ | refine vc_pure (cb i (by omega)) ?_ ?_ ?_ | refine vc_pure (cp i (by omega)) ?_ ?_ ?_ | refine vc_pure (ch i (by omega)) ?_ ?_ ?_ | refine vc_nextI (i + 1) [(9, 11008)] ?_ ?_ ?_ ?_ ?_ ?_ | refine vc_ret [true] [] ?_ | refine vzB [] ?_ ?_ ?_ | refine vzD ?_ ?_ | refine vc_ret [] [] ?_) | ((with_reducible first | refine vzE (fun h => ?_) (fun h => ?_) | refine vzF (fun h => ?_) (fun h => ?_)) <;> try (exfalso; omega)) | ((with_reducible refine vzG (fun h => ?_) (fun h => ?_)) <;> (try simp only [Go.Sym.vs1, reduceCtorEq] at h) <;> try (exfalso; first | omega | (simp at h; done)))))
  all_goals (try simp only [Int.toNat_natCast, t32k, t32s])
  all_goals first
    | with_reducible rfl
    | omega
    | exact ⟨trivial, trivial⟩
    | exact ⟨trivial, trivial, trivial⟩
    | exact ⟨trivial, trivial, trivial, trivial⟩
    | exact ⟨⟨by decide, by decide, by decide⟩, trivial⟩
    | exact ⟨Nat.le_of_eq (Nat.zero_add _), trivial⟩
    | exact ⟨Nat.le_refl _, trivial, trivial⟩
    | (rw [wrap64_id (by omega) (by omega)]; rfl)
    | exact ⟨by decide, by decide, by decide, by decide⟩
    | (decide; done)
    | exact ⟨⟨⟨trivial, len32 (shaB_length _)⟩, trivial, roomJ (by simp only [List.length_append, List.length_map, signN_length (keyH_length _ _), shaB_length, keyH_length]; omega)⟩, fun y hy => size_bytes _ y hy⟩
    | (rw [← signN_succ]; done)
    | ((obtain rfl : i = 256 := (by omega)); rw [List.drop_zero, List.take_length]; exact congrArg (fun l => D.sl (List.map byteD l)) (signN_all _ _))
    | rfl
    | (exfalso; simp at h; done)
    | skip
theorem rsig_x {s : List UInt8} (hs : s.length = 16384) {i : Nat} (hi : i < 256) : cutD (s.map byteD) (IntKind.i64.wrap (64 * (i : Int))) (IntKind.i64.wrap (IntKind.i64.wrap (64 * (i : Int)) + 32)) = (sigX s i).map byteD := by
  rw [wrap64_id (n := 64 * (i : Int)) (by omega) (by omega), wrap64_id (by omega) (by omega)]
  unfold cutD sigX
  rw [show (64 * (i : Int) + 32).toNat = 64 * i + 32 by omega, show (64 * (i : Int)).toNat = 64 * i by omega, List.drop_take, ← List.map_drop, ← List.map_take, show 64 * i + 32 - 64 * i = 32 by omega]
theorem rsig_y {s : List UInt8} (hs : s.length = 16384) {i : Nat} (hi : i < 256) : cutD (s.map byteD) (IntKind.i64.wrap (IntKind.i64.wrap (64 * (i : Int)) + 32)) (IntKind.i64.wrap (IntKind.i64.wrap (64 * (i : Int)) + 64)) = (sigY s i).map byteD := by
  rw [wrap64_id (n := 64 * (i : Int)) (by omega) (by omega), wrap64_id (n := 64 * (i : Int) + 32) (by omega) (by omega), wrap64_id (by omega) (by omega)]
  unfold cutD sigY
  rw [show (64 * (i : Int) + 64).toNat = 64 * i + 64 by omega, show (64 * (i : Int) + 32).toNat = 64 * i + 32 by omega, List.drop_take, ← List.map_drop, ← List.map_take, show 64 * i + 64 - (64 * i + 32) = 32 by omega]
theorem rsig_r {s : List UInt8} (hs : s.length = 16384) {i : Nat} (hi : i < 256) : (0 ≤ IntKind.i64.wrap (64 * (i : Int)) ∧ IntKind.i64.wrap (64 * (i : Int)) ≤ IntKind.i64.wrap (IntKind.i64.wrap (64 * (i : Int)) + 32) ∧ IntKind.i64.wrap (IntKind.i64.wrap (64 * (i : Int)) + 32) ≤ ((s.map byteD).length : Int)) := by
  rw [wrap64_id (n := 64 * (i : Int)) (by omega) (by omega), wrap64_id (n := 64 * (i : Int) + 32) (by omega) (by omega), List.length_map]
  omega
theorem rsig_q {s : List UInt8} (hs : s.length = 16384) {i : Nat} (hi : i < 256) : (0 ≤ IntKind.i64.wrap (IntKind.i64.wrap (64 * (i : Int)) + 32) ∧ IntKind.i64.wrap (IntKind.i64.wrap (64 * (i : Int)) + 32) ≤ IntKind.i64.wrap (IntKind.i64.wrap (64 * (i : Int)) + 64) ∧ IntKind.i64.wrap (IntKind.i64.wrap (64 * (i : Int)) + 64) ≤ ((s.map byteD).length : Int)) := by
  rw [wrap64_id (n := 64 * (i : Int)) (by omega) (by omega), wrap64_id (n := 64 * (i : Int) + 32) (by omega) (by omega), wrap64_id (n := 64 * (i : Int) + 64) (by omega) (by omega), List.length_map]
  omega
theorem rOpened_ok (b sig : List UInt8) (hb : b.length < 2 ^ 28) :
    LocalCall Try.prog 100 [.d (.sl (b.map byteD)), .d (.sl (sig.map byteD))] [] [] (one [.d (.sl ((openT b sig).map byteD)), .d (.int .i64 (openE sig))]) [] := by
  by_cases hs : sig.length = 16384
  · have c1 := rOf_ok b hb
    unfold openT openE
    rw [decide_eq_true hs, cond_true, cond_true]
    generalize hd : shaB b = d at c1
    have ld : d.length = 32 := by rw [← hd]; exact shaB_length b
    have ls : ((sig.map byteD).length : Int) = 16384 := by rw [List.length_map, hs]; rfl
    have lo : ∀ i : Nat, i < 256 → (openN d sig i).length = 64 * i + 1 := fun i hi => openN_length d hs (by omega)
    have cb : ∀ i : Nat, i < 256 → LocalCall Try.prog 85 [.d (.arr 32 1 (d.map byteD)), .d (.int .i64 (i : Int))] [] [] (one [.d (.bool (bitB d i))]) [] := fun i hi => by
      have h := rBit_ok (d.map byteD) d rfl ld (i : Int)
      rwa [bitI_nat d hi] at h
    have co : ∀ i : Nat, i < 256 → LocalCall Try.prog 62 [.d (.sl (cutD (sig.map byteD) (IntKind.i64.wrap (64 * (i : Int))) (IntKind.i64.wrap (IntKind.i64.wrap (64 * (i : Int)) + 32))))] [] [] (one [.d (.arr 32 1 ((shaB (sigX sig i)).map byteD))]) [] := fun i hi => by
      rw [rsig_x hs hi]; exact rOf_ok _ (by rw [sigX_length hs hi]; decide)
    refine vc_fn mixed Try.func100 rfl rfl [] (vzH rfl) ?_
    repeat' (first | ((with_reducible refine vzH ?_); first | decide +kernel | rfl) | (with_reducible refine vzC ?_; rfl) | (with_reducible first | (refine vzZ ?_; constructor) | refine vzC ?_ | refine vc_pure c1 ?_ ?_ ?_ | refine vc_pure (co i (by omega)) ?_ ?_ ?_ | refine vc_pure (cb i (by omega)) ?_ ?_ ?_ | refine vc_pure c1 ?_ ?_ ?_ | refine vc_pure (cb i (by omega)) ?_ ?_ ?_ | refine vc_loopI 55 (fun (i : Nat) => [(1, .d (.sl (sig.map byteD))), (6, .ptr 4008 []), (7, .sl 9 [] 1 0 ((openN d sig i).map byteD).length), (8, .d (.int .i64 (i : Int)))]) (fun i => [(4008, .var (.d (.arr 32 1 (d.map byteD)))), (9, .row 1 ((openN d sig i).map byteD))]) (fun i => 256 - i) (fun i => i ≤ 256) 0 [(9, 5000)] ?_ ?_ ?_ ?_ ?_ (fun i hI => ?_) | refine vc_nextAt (i + 1) [(9, 14008)] 14008 (by with_unfolding_all rfl) ?_ ?_ ?_ ?_ ?_ ?_ | refine vc_nextAt (i + 1) [(9, 16008)] 16008 (by with_unfolding_all rfl) ?_ ?_ ?_ ?_ ?_ ?_ | refine vc_ret [true] [] ?_ | refine vzB [] ?_ ?_ ?_ | refine vzD ?_ ?_ | refine vc_ret [] [] ?_) | ((with_reducible first | refine vzE (fun h => ?_) (fun h => ?_) | refine vzF (fun h => ?_) (fun h => ?_)) <;> try (exfalso; omega)) | ((with_reducible refine vzG (fun h => ?_) (fun h => ?_)) <;> (try simp only [Go.Sym.vs1, reduceCtorEq] at h) <;> try (exfalso; first | omega | (simp at h; done))) | ((conv in Vc _ => arg 1; whnf); first | (with_reducible refine vzC ?_; rfl) | (with_reducible first | (refine vzZ ?_; constructor) | refine vzC ?_ | refine vc_pure c1 ?_ ?_ ?_ | refine vc_pure (co i (by omega)) ?_ ?_ ?_ | refine vc_pure (cb i (by omega)) ?_ ?_ ?_ | refine vc_pure c1 ?_ ?_ ?_ | refine vc_pure (cb i (by omega)) ?_ ?_ ?_ | refine vc_loopI 55 (fun (i : Nat) => [(1, .d (.sl (sig.map byteD))), (6, .ptr 4008 []), (7, .sl 9 [] 1 0 ((openN d sig i).map byteD).length), (8, .d (.int .i64 (i : Int)))]) (fun i => [(4008, .var (.d (.arr 32 1 (d.map byteD)))), (9, .row 1 ((openN d sig i).map byteD))]) (fun i => 256 - i) (fun i => i ≤ 256) 0 [(9, 5000)] ?_ ?_ ?_ ?_ ?_ (fun i hI => ?_) | refine vc_nextAt (i + 1) [(9, 14008)] 14008 (by with_unfolding_all rfl) ?_ ?_ ?_ ?_ ?_ ?_ | refine vc_nextAt (i + 1) [(9, 16008)] 16008 (by with_unfolding_all rfl) ?_ ?_ ?_ ?_ ?_ ?_ | refine vc_ret [true] [] ?_ | refine vzB [] ?_ ?_ ?_ | refine vzD ?_ ?_ | refine vc_ret [] [] ?_) | ((with_reducible first | refine vzE (fun h => ?_) (fun h => ?_) | refine vzF (fun h => ?_) (fun h => ?_)) <;> try (exfalso; omega)) | ((with_reducible refine vzG (fun h => ?_) (fun h => ?_)) <;> (try simp only [Go.Sym.vs1, reduceCtorEq] at h) <;> try (exfalso; first | omega | (simp at h; done)))))
    all_goals (try simp only [Int.toNat_natCast, t32s])
    all_goals (try have hi : i < 256 := (by omega))
    all_goals (try simp only [rsig_y hs hi])
    all_goals first
      | with_reducible rfl
      | omega
      | exact ⟨trivial, trivial⟩
      | exact ⟨trivial, trivial, trivial⟩
      | exact ⟨trivial, trivial, trivial, trivial⟩
      | exact ⟨⟨by decide, by decide, by decide⟩, trivial⟩
      | exact ⟨Nat.le_of_eq (Nat.zero_add _), trivial⟩
      | exact ⟨Nat.le_refl _, trivial, trivial⟩
      | (rw [wrap64_id (by omega) (by omega)]; rfl)
      | exact ⟨by decide, by decide, by decide, by decide⟩
      | (decide; done)
      | exact ⟨rsig_r hs hi, size_bytes _⟩
      | exact ⟨rsig_q hs hi, size_bytes _⟩
      | (rw [← openN_succ i h]; done)
      | (rw [← openN_succ0 i h]; done)
      | exact ⟨⟨trivial, trivial, roomJ (by simp only [List.length_append, List.length_map, lo i hi, shaB_length, sigY_length hs hi]; omega)⟩, fun y hy => size_bytes _ y hy⟩
      | exact ⟨⟨⟨trivial, len32 (shaB_length _)⟩, trivial, roomJ (by simp only [List.length_append, List.length_map, lo i hi, shaB_length, sigY_length hs hi]; omega)⟩, fun y hy => size_bytes _ y hy⟩
      | ((obtain rfl : i = 256 := (by omega)); rw [List.drop_zero, List.take_length]; exact congrArg (fun l => D.sl (List.map byteD l)) (openN_all _ _))
      | rfl
      | (exfalso; simp at h; done)
      | skip
  · have hn : ¬ ((sig.map byteD).length : Int) = 16384 := by rw [List.length_map]; omega
    unfold openT openE
    rw [decide_eq_false hs, cond_false, cond_false]
    have key : LocalCall Try.prog 100 [.d (.sl (b.map byteD)), .d (.sl (sig.map byteD))] [] [] (one [.d .nils, .d (.int .i64 15)]) [] := by
      refine vc_fn mixed Try.func100 rfl rfl [] (vzH rfl) ?_
      repeat' (first | ((with_reducible refine vzH ?_); first | decide +kernel | rfl) | (with_reducible refine vzC ?_; rfl) | (with_reducible first | (refine vzZ ?_; constructor) | refine vzC ?_ | refine vzB [] ?_ ?_ ?_ | refine vzD ?_ ?_ | refine vc_ret [] [] ?_) | ((with_reducible first | refine vzE (fun h => ?_) (fun h => ?_) | refine vzF (fun h => ?_) (fun h => ?_)) <;> try (exfalso; omega)) | ((with_reducible refine vzG (fun h => ?_) (fun h => ?_)) <;> (try simp only [Go.Sym.vs1, reduceCtorEq] at h) <;> try (exfalso; first | omega | (simp at h; done))) | ((conv in Vc _ => arg 1; whnf); first | (with_reducible refine vzC ?_; rfl) | (with_reducible first | (refine vzZ ?_; constructor) | refine vzC ?_ | refine vzB [] ?_ ?_ ?_ | refine vzD ?_ ?_ | refine vc_ret [] [] ?_) | ((with_reducible first | refine vzE (fun h => ?_) (fun h => ?_) | refine vzF (fun h => ?_) (fun h => ?_)) <;> try (exfalso; omega)) | ((with_reducible refine vzG (fun h => ?_) (fun h => ?_)) <;> (try simp only [Go.Sym.vs1, reduceCtorEq] at h) <;> try (exfalso; first | omega | (simp at h; done)))))
      all_goals first | rfl | exact ⟨trivial, trivial, trivial⟩
    exact local_dn key
theorem lrCheck_ok (pub b sig : List UInt8) (hp : pub.length = 32) (hb : b.length < 2 ^ 28) :
    LocalCall Try.prog 84 [.d (.arr 32 1 (pub.map byteD)), .d (.sl (b.map byteD)), .d (.sl (sig.map byteD))] [] [] (one [.d (.int .i64 (checkE pub b sig))]) [] := by
  have c1 := rOpened_ok b sig hb
  have c2 := rOf_ok (openT b sig) (Nat.lt_of_le_of_lt (openT_length _ _) (by decide))
  refine vc_fn mixed Try.func84 rfl rfl [] (vzH rfl) ?_
  repeat' (first | ((with_reducible refine vzH ?_); first | decide +kernel | rfl) | (with_reducible refine vzC ?_; rfl) | (with_reducible first | (refine vzZ ?_; constructor) | refine vzC ?_ | refine vc_pure c1 ?_ ?_ ?_ | refine vc_pure c2 ?_ ?_ ?_ | refine vzB [] ?_ ?_ ?_ | refine vzD ?_ ?_ | refine vc_ret [] [] ?_) | ((with_reducible first | refine vzE (fun h => ?_) (fun h => ?_) | refine vzF (fun h => ?_) (fun h => ?_)) <;> try (exfalso; omega)) | ((with_reducible refine vzG (fun h => ?_) (fun h => ?_)) <;> (try simp only [Go.Sym.vs1, reduceCtorEq] at h) <;> try (exfalso; first | omega | (simp at h; done))) | ((conv in Vc _ => arg 1; whnf); first | (with_reducible refine vzC ?_; rfl) | (with_reducible first | (refine vzZ ?_; constructor) | refine vzC ?_ | refine vc_pure c1 ?_ ?_ ?_ | refine vc_pure c2 ?_ ?_ ?_ | refine vzB [] ?_ ?_ ?_ | refine vzD ?_ ?_ | refine vc_ret [] [] ?_) | ((with_reducible first | refine vzE (fun h => ?_) (fun h => ?_) | refine vzF (fun h => ?_) (fun h => ?_)) <;> try (exfalso; omega)) | ((with_reducible refine vzG (fun h => ?_) (fun h => ?_)) <;> (try simp only [Go.Sym.vs1, reduceCtorEq] at h) <;> try (exfalso; first | omega | (simp at h; done)))))
  all_goals (try simp only [beq_dig, cond_true, cond_false, Bool.not_eq_true', Bool.not_eq_false', decide_eq_true_eq, decide_eq_false_iff_not] at *)
  all_goals first
    | exact ⟨fits_dig 6 _, fits_dig 6 _⟩
    | (rw [(checkE_no (b := b) pub h).1]; done)
    | (rw [(checkE_no (b := b) pub (by assumption)).1]; done)
    | (rw [checkE_yes pub (by assumption)]; simp_all; done)
end Go.Proofs.Ytjgkngjeniameaa

namespace Go.Proofs.Ytjgkngjeniameaa
open Go.Sym
set_option maxRecDepth 10000
set_option maxHeartbeats 4000000
theorem rFollow_ok (g : Hd) (s : Sgn) (hh : wfH g) (hs : wfS s) : LocalCall Try.prog 56 [.d (hdD g), .d (sD s)] [] [] (one [.d (hdD (folH g s)), .d (.int .i64 (folE g s))]) [] := by
  have c1 := rRootBytes_ok s.root hs.wfR
  have lr := rootB_length hs.wfR
  have c2 := lrCheck_ok g.key (rootB s.root) s.sig hh.2.2 (by rw [lr]; decide)
  have c3 := rRoot_ok s.root hs.wfR
  have hc := folE_cases g s
  have hw : ¬ (g.epoch : Int) ≥ 64 → IntKind.u64.wrap ((g.epoch : Int) + 1) = ((g.epoch + 1 : Nat) : Int) := fun h => by
    rw [wrapU64_id (by omega) (by omega)]; rfl
  refine vc_fn mixed Try.func56 rfl rfl [] (vzH rfl) ?_
  repeat' (first | ((with_reducible refine vzH ?_); first | decide +kernel | rfl) | (with_reducible refine vzC ?_; rfl) | (with_reducible first | (refine vzZ ?_; constructor) | refine vzC ?_ | refine vc_pure c1 ?_ ?_ ?_ | refine vc_pure c2 ?_ ?_ ?_ | refine vc_pure c3 ?_ ?_ ?_ | refine vzB [] ?_ ?_ ?_ | refine vzD ?_ ?_ | refine vc_ret [] [] ?_) | ((with_reducible first | refine vzE (fun h => ?_) (fun h => ?_) | refine vzF (fun h => ?_) (fun h => ?_)) <;> try (exfalso; omega)) | ((with_reducible refine vzG (fun h => ?_) (fun h => ?_)) <;> (try simp only [Go.Sym.vs1, reduceCtorEq] at h) <;> try (exfalso; first | omega | (simp at h; done))) | ((conv in Vc _ => arg 1; whnf); first | (with_reducible refine vzC ?_; rfl) | (with_reducible first | (refine vzZ ?_; constructor) | refine vzC ?_ | refine vc_pure c1 ?_ ?_ ?_ | refine vc_pure c2 ?_ ?_ ?_ | refine vc_pure c3 ?_ ?_ ?_ | refine vzB [] ?_ ?_ ?_ | refine vzD ?_ ?_ | refine vc_ret [] [] ?_) | ((with_reducible first | refine vzE (fun h => ?_) (fun h => ?_) | refine vzF (fun h => ?_) (fun h => ?_)) <;> try (exfalso; omega)) | ((with_reducible refine vzG (fun h => ?_) (fun h => ?_)) <;> (try simp only [Go.Sym.vs1, reduceCtorEq] at h) <;> try (exfalso; first | omega | (simp at h; done)))))
  all_goals (try simp only [fz6, fz7, beq_dig, cond_true, cond_false, Bool.not_eq_true', Bool.not_eq_false', decide_eq_true_eq, decide_eq_false_iff_not] at *)
  all_goals (try simp only [hw (by assumption)] at *)
  all_goals first
    | exact ⟨trivial, trivial, trivial⟩
    | exact ⟨trivial, trivial, trivial, trivial⟩
    | exact ⟨fits_dig 6 _, fits_dig 6 _⟩
    | (rcases hc with ⟨q, e⟩ | ⟨⟨q1, q2⟩, ⟨q, e⟩ | ⟨q3, q4, e⟩⟩ <;> first
        | (rw [e]; done)
        | (unfold folH; rw [e]; rfl)
        | (exfalso; omega)
        | (exfalso; rcases q with q | q <;> first | omega | exact absurd (by assumption) q)
        | exact absurd q3 (by assumption)
        | exact absurd q4 (by assumption))
    | skip
theorem rWalk_ok (g : Hd) (l : List Sgn) (hg : wfH g) (hl : ∀ s, s ∈ l → wfS s) (hm : l.length < 2 ^ 63) : LocalCall Try.prog 34 [.d (hdD g), .d (.sl (l.map sD))] [] [] (one [.d (hdD (walk g l).1), .d (.int .i64 ((walk g l).2.1 : Int)), .d (.int .i64 (walk g l).2.2)]) [] := by
  have fo : ∀ (g : Hd) (i : Nat), i < l.length → wfH g → LocalCall Try.prog 56 [.d (hdD g), .d (sD (l.getD i s0))] [] [] (one [.d (hdD (folH g (l.getD i s0))), .d (.int .i64 (folE g (l.getD i s0)))]) [] := fun g i hi hg => rFollow_ok g _ hg (wfS_at hl hi)
  have lm : (l.map sD).length = l.length := List.length_map _
  refine vc_fn mixed Try.func34 rfl rfl [] (vzH rfl) ?_
  repeat' (first | ((with_reducible refine vzH ?_); first | decide +kernel | rfl) | (with_reducible refine vzC ?_; rfl) | (with_reducible first | (refine vzZ ?_; constructor) | refine vzC ?_ | refine vc_loopI 34 (fun (x : Hd × Nat) => [(1, .d (.sl (l.map sD))), (2, .ptr 1000 []), (4, .ptr 1004 []), (7, .d (.int .i64 (x.2 : Int)))]) (fun x => [(1000, .var (.d (hdD x.1))), (1004, .var (.d (hdD hd0)))]) (fun x => l.length - x.2) (fun x => x.2 ≤ l.length ∧ walkAt g l x.1 x.2 ∧ wfH x.1) (g, 0) [] ?_ ?_ ?_ ?_ ?_ (fun x hI => ?_) | refine vc_call [] (fo x.1 x.2 (by omega) hI.2.2) ?_ | refine vc_nextI (folY (l.getD x.2 s0), x.2 + 1) [] ?_ ?_ ?_ ?_ ?_ ?_ | refine vzB [] ?_ ?_ ?_ | refine vzD ?_ ?_ | refine vc_ret [] [] ?_) | ((with_reducible first | refine vzE (fun h => ?_) (fun h => ?_) | refine vzF (fun h => ?_) (fun h => ?_)) <;> try (exfalso; omega)) | ((with_reducible refine vzG (fun h => ?_) (fun h => ?_)) <;> (try simp only [Go.Sym.vs1, reduceCtorEq] at h) <;> try (exfalso; first | omega | (simp at h; done))) | ((conv in Vc _ => arg 1; whnf); first | (with_reducible refine vzC ?_; rfl) | (with_reducible first | (refine vzZ ?_; constructor) | refine vzC ?_ | refine vc_loopI 34 (fun (x : Hd × Nat) => [(1, .d (.sl (l.map sD))), (2, .ptr 1000 []), (4, .ptr 1004 []), (7, .d (.int .i64 (x.2 : Int)))]) (fun x => [(1000, .var (.d (hdD x.1))), (1004, .var (.d (hdD hd0)))]) (fun x => l.length - x.2) (fun x => x.2 ≤ l.length ∧ walkAt g l x.1 x.2 ∧ wfH x.1) (g, 0) [] ?_ ?_ ?_ ?_ ?_ (fun x hI => ?_) | refine vc_call [] (fo x.1 x.2 (by omega) hI.2.2) ?_ | refine vc_nextI (folY (l.getD x.2 s0), x.2 + 1) [] ?_ ?_ ?_ ?_ ?_ ?_ | refine vzB [] ?_ ?_ ?_ | refine vzD ?_ ?_ | refine vc_ret [] [] ?_) | ((with_reducible first | refine vzE (fun h => ?_) (fun h => ?_) | refine vzF (fun h => ?_) (fun h => ?_)) <;> try (exfalso; omega)) | ((with_reducible refine vzG (fun h => ?_) (fun h => ?_)) <;> (try simp only [Go.Sym.vs1, reduceCtorEq] at h) <;> try (exfalso; first | omega | (simp at h; done)))))
  all_goals first
    | with_reducible rfl
    | exact ⟨Nat.zero_le _, walkAt_zero _ _, hg⟩
    | exact ⟨trivial, trivial, trivial, trivial⟩
    | exact ⟨⟨by omega, by omega⟩, by rw [Int.toNat_natCast, sgn_at (by omega)]; rfl⟩
    | (show D.st _ = sD _; simp only [Int.toNat_natCast, sgn_at (show x.2 < l.length by omega)]; rfl)
    | (rw [walkAt_no hI.2.1 (by omega) h]; first | done | rfl)
    | exact ⟨by show x.2 + 1 ≤ l.length; omega, walkAt_yes hI.2.1 (by omega) h, wf_folY (wfS_at hl (by omega))⟩
    | (show l.length - (x.2 + 1) < l.length - x.2; omega)
    | (rw [wrap64_id (by omega) (by omega)]; rfl)
    | (unfold folH; rw [decide_eq_true h]; rfl)
    | (rw [walkAt_end hI.2.1 (by omega)]; first | done | rfl)
    | (rw [walkAt_end hI.2.1 (by omega)]; exact congrArg (D.int .i64) (show ((l.map sD).length : Int) = (x.2 : Int) by omega))
    | rfl
    | trace_state
theorem rSeal_ok (seed : List UInt8) (hs : seed.length = 32) (g : Hd) (hg : wfH g) (tree : List UInt8) (ht : tree.length = 32) :
    LocalCall Try.prog 44 [.d (.arr 32 1 (seed.map byteD)), .d (hdD g), .d (.arr 32 1 (tree.map byteD))] [] [] (one [.d (sD (sealR seed g tree)), .d (.int .i64 (sealE g))]) [] := by
  by_cases he : 64 ≤ g.epoch
  · unfold sealR sealE
    rw [decide_eq_true he, cond_true, cond_true]
    have key : LocalCall Try.prog 44 [.d (.arr 32 1 (seed.map byteD)), .d (hdD g), .d (.arr 32 1 (tree.map byteD))] [] [] (one [.d (.st [rootD s0.root, .nils]), .d (.int .i64 12)]) [] := by
      refine vc_fn mixed Try.func44 rfl rfl [] (vzH rfl) ?_
      repeat' (first | ((with_reducible refine vzH ?_); first | decide +kernel | rfl) | (with_reducible refine vzC ?_; rfl) | (with_reducible first | (refine vzZ ?_; constructor) | refine vzC ?_ | refine vzB [] ?_ ?_ ?_ | refine vzD ?_ ?_ | refine vc_ret [] [] ?_) | ((with_reducible first | refine vzE (fun h => ?_) (fun h => ?_) | refine vzF (fun h => ?_) (fun h => ?_)) <;> try (exfalso; omega)) | ((with_reducible refine vzG (fun h => ?_) (fun h => ?_)) <;> (try simp only [Go.Sym.vs1, reduceCtorEq] at h) <;> try (exfalso; first | omega | (simp at h; done))) | ((conv in Vc _ => arg 1; whnf); first | (with_reducible refine vzC ?_; rfl) | (with_reducible first | (refine vzZ ?_; constructor) | refine vzC ?_ | refine vzB [] ?_ ?_ ?_ | refine vzD ?_ ?_ | refine vc_ret [] [] ?_) | ((with_reducible first | refine vzE (fun h => ?_) (fun h => ?_) | refine vzF (fun h => ?_) (fun h => ?_)) <;> try (exfalso; omega)) | ((with_reducible refine vzG (fun h => ?_) (fun h => ?_)) <;> (try simp only [Go.Sym.vs1, reduceCtorEq] at h) <;> try (exfalso; first | omega | (simp at h; done)))))
      all_goals first | with_reducible rfl | exact ⟨trivial, trivial, trivial⟩ | exact ⟨trivial, trivial, trivial, trivial, trivial⟩ | (exfalso; omega) | rfl | trace_state
    exact local_dn key
  · unfold sealR sealE
    rw [decide_eq_false he, cond_false, cond_false]
    have w1 : IntKind.u64.wrap ((g.epoch : Int) + 1) = ((g.epoch + 1 : Nat) : Int) := by rw [wrapU64_id (by omega) (by omega)]; rfl
    have w2 : IntKind.u64.wrap ((g.epoch : Int) + 2) = ((g.epoch + 2 : Nat) : Int) := by rw [wrapU64_id (by omega) (by omega)]; rfl
    have c1 := rPublic_ok seed hs (g.epoch + 2) (by omega)
    have wr : wfR (sealRt seed g tree) := (wf_seal seed hg (by omega) ht).wfR
    have c2 := rRootBytes_ok (sealRt seed g tree) wr
    have c3 := rSign_ok seed hs (g.epoch + 1) (by omega) (rootB (sealRt seed g tree)) (by rw [rootB_length wr]; decide)
    refine vc_fn mixed Try.func44 rfl rfl [] (vzH rfl) ?_
    repeat' (first | ((with_reducible refine vzH ?_); first | decide +kernel | rfl) | (with_reducible refine vzC ?_; rfl) | (with_reducible first | (refine vzZ ?_; constructor) | refine vzC ?_ | refine vc_call [] c1 ?_ | refine vc_call [] c2 ?_ | refine vc_call [] c3 ?_ | refine vzB [] ?_ ?_ ?_ | refine vzD ?_ ?_ | refine vc_ret [] [] ?_) | ((with_reducible first | refine vzE (fun h => ?_) (fun h => ?_) | refine vzF (fun h => ?_) (fun h => ?_)) <;> try (exfalso; omega)) | ((with_reducible refine vzG (fun h => ?_) (fun h => ?_)) <;> (try simp only [Go.Sym.vs1, reduceCtorEq] at h) <;> try (exfalso; first | omega | (simp at h; done))) | ((conv in Vc _ => arg 1; whnf); first | (with_reducible refine vzC ?_; rfl) | (with_reducible first | (refine vzZ ?_; constructor) | refine vzC ?_ | refine vc_call [] c1 ?_ | refine vc_call [] c2 ?_ | refine vc_call [] c3 ?_ | refine vzB [] ?_ ?_ ?_ | refine vzD ?_ ?_ | refine vc_ret [] [] ?_) | ((with_reducible first | refine vzE (fun h => ?_) (fun h => ?_) | refine vzF (fun h => ?_) (fun h => ?_)) <;> try (exfalso; omega)) | ((with_reducible refine vzG (fun h => ?_) (fun h => ?_)) <;> (try simp only [Go.Sym.vs1, reduceCtorEq] at h) <;> try (exfalso; first | omega | (simp at h; done)))))
    all_goals (try simp only [w1, w2])
    all_goals first | with_reducible rfl | exact ⟨trivial, trivial, trivial⟩ | exact ⟨trivial, trivial, trivial, trivial, trivial⟩ | (exfalso; omega) | rfl | trace_state
end Go.Proofs.Ytjgkngjeniameaa

namespace Go.Proofs.Ytjgkngjeniameaa
open Go.Sym
set_option maxRecDepth 10000
set_option maxHeartbeats 4000000
theorem digNo {a b : List UInt8} (h : (bif false then !(D.arr (31 + 1) (0 + 1) (a.map byteD)).beq (D.arr (31 + 1) (0 + 1) (b.map byteD)) else (D.arr (31 + 1) (0 + 1) (a.map byteD)).beq (D.arr (31 + 1) (0 + 1) (b.map byteD))) = false) : ¬ a = b := by
  have h2 : (D.arr 32 1 (a.map byteD)).beq (D.arr 32 1 (b.map byteD)) = false := h
  rw [beq_dig] at h2
  exact of_decide_eq_false h2
theorem digYes {a b : List UInt8} (h : (bif false then !(D.arr (31 + 1) (0 + 1) (a.map byteD)).beq (D.arr (31 + 1) (0 + 1) (b.map byteD)) else (D.arr (31 + 1) (0 + 1) (a.map byteD)).beq (D.arr (31 + 1) (0 + 1) (b.map byteD))) = true) : a = b := by
  have h2 : (D.arr 32 1 (a.map byteD)).beq (D.arr 32 1 (b.map byteD)) = true := h
  rw [beq_dig] at h2
  exact of_decide_eq_true h2
end Go.Proofs.Ytjgkngjeniameaa

namespace Go.Proofs.Ytjgkngjeniameaa
open Go.Sym
set_option maxRecDepth 10000
set_option maxHeartbeats 4000000
end Go.Proofs.Ytjgkngjeniameaa

namespace Go.Proofs.Ytjgkngjeniameaa
open Go.Sym
set_option maxRecDepth 10000
set_option maxHeartbeats 4000000
theorem folE_yes {g : Hd} {s : Sgn} (h : folE g s = 0) : g.epoch < 64 ∧ s.root.epoch = g.epoch + 1 ∧ s.root.prev = g.root ∧ checkE g.key (rootB s.root) s.sig = 0 := by
  rcases folE_cases g s with ⟨_, e⟩ | ⟨⟨a, b⟩, ⟨_, e⟩ | ⟨c, d, _⟩⟩
  · rw [h] at e; cases e
  · rw [h] at e; cases e
  · exact ⟨a, b, c, d⟩
theorem rtNe {a b : Rt} (h : (bif true then !(D.beq (rootD a) (rootD b)) else D.beq (rootD a) (rootD b)) = true) : ¬ a = b := by
  have h2 : (!(D.beq (rootD a) (rootD b))) = true := h
  rw [beq_root, Bool.not_eq_true'] at h2
  exact of_decide_eq_false h2
theorem rtYes {a b : Rt} (h : (bif true then !(D.beq (rootD a) (rootD b)) else D.beq (rootD a) (rootD b)) = false) : a = b := by
  have h2 : (!(D.beq (rootD a) (rootD b))) = false := h
  rw [beq_root, Bool.not_eq_false'] at h2
  exact of_decide_eq_true h2
abbrev kK (l : List Sgn) (cut : Int) : Int := IntKind.i64.wrap ((IntKind.u64.wrap cut).tmod (IntKind.u64.wrap (IntKind.i64.wrap (((l.map sD).length : Int) + 1))))
theorem u64_wrap_eq (n : Int) : IntKind.u64.wrap n = n % 18446744073709551616 := by simp [IntKind.wrap, IntKind.signed, IntKind.bits]
theorem kK_eq (l : List Sgn) (cut : Int) (hl : l.length ≤ 40) : ∃ k : Nat, k ≤ l.length ∧ kK l cut = k := by
  unfold kK
  rw [List.length_map, wrap64_id (n := (l.length : Int) + 1) (by omega) (by omega), wrapU64_id (n := (l.length : Int) + 1) (by omega) (by omega), u64_wrap_eq, Int.tmod_eq_emod_of_nonneg (by omega)]
  have h1 := Int.emod_nonneg (cut % 18446744073709551616) (show (l.length : Int) + 1 ≠ 0 by omega)
  have h2 := Int.emod_lt_of_pos (cut % 18446744073709551616) (show (0 : Int) < (l.length : Int) + 1 by omega)
  rw [wrap64_id (by omega) (by omega)]
  exact ⟨((cut % 18446744073709551616) % ((l.length : Int) + 1)).toNat, by omega, by omega⟩
end Go.Proofs.Ytjgkngjeniameaa

namespace Go.Proofs.Ytjgkngjeniameaa
open Go.Sym
set_option maxRecDepth 10000
set_option maxHeartbeats 1000000
def rdNs (bs : List UInt8) : Nat → Nat → Option (List Nat × Nat)
  | 0, k => some ([], k)
  | n + 1, k => match rdN bs 10 k 0 0 with
    | some (v, e) => (rdNs bs n e).map fun p => (v :: p.1, p.2)
    | none => none
structure RnI (bs : List UInt8) (R : Option (List Nat × Nat)) (x : List Nat × Nat × Nat) : Prop where
  h : (rdNs bs x.2.1 x.2.2).map (fun p => (x.1 ++ p.1, p.2)) = R
  le : x.1.length + x.2.1 ≤ 4096
theorem RnI.cases {bs : List UInt8} {R : Option (List Nat × Nat)} {x : List Nat × Nat × Nat} (hI : RnI bs R x) : (x.2.1 = 0 ∧ R = some (x.1, x.2.2)) ∨ (0 < x.2.1 ∧ ((rdN bs 10 x.2.2 0 0 = none ∧ R = none) ∨
    ∃ v e, rdN bs 10 x.2.2 0 0 = some (v, e) ∧ RnI bs R (x.1 ++ [v], x.2.1 - 1, e))) := by
  obtain ⟨acc, n, k⟩ := x
  obtain ⟨h, le⟩ := hI
  simp only at h le ⊢
  cases n with
  | zero => exact .inl ⟨rfl, by rw [← h]; simp [rdNs]⟩
  | succ n =>
    refine .inr ⟨by omega, ?_⟩
    simp only [rdNs] at h
    cases hr : rdN bs 10 k 0 0 with
    | none => rw [hr] at h; exact .inl ⟨rfl, h.symm⟩
    | some p =>
      obtain ⟨v, e⟩ := p
      rw [hr] at h
      refine .inr ⟨v, e, rfl, ?_, ?_⟩
      · simp only [Nat.add_sub_cancel]
        rw [← h, Option.map_map]
        congr 1
        funext p
        simp
      · simp; omega
theorem RnI.ok {bs : List UInt8} {vs : List Nat} {e : Nat} {x : List Nat × Nat × Nat} (hI : RnI bs (some (vs, e)) x) {q : Prop} (h0 : x.2.1 = 0 → x.1 = vs → x.2.2 = e → Vc q)
    (h : ∀ v e', 0 < x.2.1 → x.1.length + x.2.1 ≤ 4096 → rdN bs 10 x.2.2 0 0 = some (v, e') → RnI bs (some (vs, e)) (x.1 ++ [v], x.2.1 - 1, e') → Vc q) : Vc q := by
  rcases hI.cases with ⟨h1, h2⟩ | ⟨h1, ⟨_, h2⟩ | ⟨v, e', h2, h3⟩⟩
  · cases h2; exact h0 h1 rfl rfl
  · cases h2
  · exact h v e' h1 hI.le h2 h3
theorem RnI.no {bs : List UInt8} {x : List Nat × Nat × Nat} (hI : RnI bs none x) {q : Prop} (h0 : 0 < x.2.1 → rdN bs 10 x.2.2 0 0 = none → Vc q)
    (h : ∀ v e', 0 < x.2.1 → x.1.length + x.2.1 ≤ 4096 → rdN bs 10 x.2.2 0 0 = some (v, e') → RnI bs none (x.1 ++ [v], x.2.1 - 1, e') → Vc q) : Vc q := by
  rcases hI.cases with ⟨h1, h2⟩ | ⟨h1, ⟨h2, _⟩ | ⟨v, e', h2, h3⟩⟩
  · cases h2
  · exact h0 h1 h2
  · exact h v e' h1 hI.le h2 h3
end Go.Proofs.Ytjgkngjeniameaa

namespace Go.Proofs.Ytjgkngjeniameaa
open Go.Sym
set_option maxRecDepth 10000
set_option maxHeartbeats 1000000
end Go.Proofs.Ytjgkngjeniameaa

namespace Go.Proofs.Ytjgkngjeniameaa
open Go.Sym
set_option maxRecDepth 10000
set_option maxHeartbeats 1000000
end Go.Proofs.Ytjgkngjeniameaa

namespace Go.Proofs.Ytjgkngjeniameaa
open Go.Sym
set_option maxRecDepth 10000
set_option maxHeartbeats 1000000
def rdTs (bs : List UInt8) : Nat → Nat → Option (List (List UInt8) × Nat)
  | 0, k => some ([], k)
  | n + 1, k => match rdT bs k with
    | some (v, e) => (rdTs bs n e).map fun p => (v :: p.1, p.2)
    | none => none
structure RtI (bs : List UInt8) (R : Option (List (List UInt8) × Nat)) (x : List (List UInt8) × Nat × Nat) : Prop where
  h : (rdTs bs x.2.1 x.2.2).map (fun p => (x.1 ++ p.1, p.2)) = R
  le : x.1.length + x.2.1 ≤ 4096
theorem RtI.cases {bs : List UInt8} {R : Option (List (List UInt8) × Nat)} {x : List (List UInt8) × Nat × Nat} (hI : RtI bs R x) : (x.2.1 = 0 ∧ R = some (x.1, x.2.2)) ∨ (0 < x.2.1 ∧ ((rdT bs x.2.2 = none ∧ R = none) ∨
    ∃ v e, rdT bs x.2.2 = some (v, e) ∧ RtI bs R (x.1 ++ [v], x.2.1 - 1, e))) := by
  obtain ⟨acc, n, k⟩ := x
  obtain ⟨h, le⟩ := hI
  simp only at h le ⊢
  cases n with
  | zero => exact .inl ⟨rfl, by rw [← h]; simp [rdTs]⟩
  | succ n =>
    refine .inr ⟨by omega, ?_⟩
    simp only [rdTs] at h
    cases hr : rdT bs k with
    | none => rw [hr] at h; exact .inl ⟨rfl, h.symm⟩
    | some p =>
      obtain ⟨v, e⟩ := p
      rw [hr] at h
      refine .inr ⟨v, e, rfl, ?_, ?_⟩
      · simp only [Nat.add_sub_cancel]
        rw [← h, Option.map_map]
        congr 1
        funext p
        simp
      · simp; omega
theorem RtI.ok {bs : List UInt8} {vs : List (List UInt8)} {e : Nat} {x : List (List UInt8) × Nat × Nat} (hI : RtI bs (some (vs, e)) x) {q : Prop} (h0 : x.2.1 = 0 → x.1 = vs → x.2.2 = e → Vc q)
    (h : ∀ v e', 0 < x.2.1 → x.1.length + x.2.1 ≤ 4096 → rdT bs x.2.2 = some (v, e') → RtI bs (some (vs, e)) (x.1 ++ [v], x.2.1 - 1, e') → Vc q) : Vc q := by
  rcases hI.cases with ⟨h1, h2⟩ | ⟨h1, ⟨_, h2⟩ | ⟨v, e', h2, h3⟩⟩
  · cases h2; exact h0 h1 rfl rfl
  · cases h2
  · exact h v e' h1 hI.le h2 h3
theorem RtI.no {bs : List UInt8} {x : List (List UInt8) × Nat × Nat} (hI : RtI bs none x) {q : Prop} (h0 : 0 < x.2.1 → rdT bs x.2.2 = none → Vc q)
    (h : ∀ v e', 0 < x.2.1 → x.1.length + x.2.1 ≤ 4096 → rdT bs x.2.2 = some (v, e') → RtI bs none (x.1 ++ [v], x.2.1 - 1, e') → Vc q) : Vc q := by
  rcases hI.cases with ⟨h1, h2⟩ | ⟨h1, ⟨h2, _⟩ | ⟨v, e', h2, h3⟩⟩
  · cases h2
  · exact h0 h1 h2
  · exact h v e' h1 hI.le h2 h3
theorem tD_app (l : List (List UInt8)) (v : List UInt8) : (l.map tD) ++ [D.sl (v.map byteD)] = (l ++ [v]).map tD := by simp [tD]
theorem room24 {n k : Nat} (hk : k = 24) (h : n ≤ 4096) : Room n k := by subst hk; unfold Room; omega
theorem texts_in (B : List D) (bs : List UInt8) (hB : B = bs.map byteD) (n k e : Nat) (vs : List (List UInt8)) (hc : rdC bs 4096 0 = some (n, k)) (hr : rdTs bs n k = some (vs, e)) (hl : bs.length < 2 ^ 63) :
    LocalCall Try.prog 68 [.ptr 9 [], .ptr 8 []] [(9, rd B 0), (8, .var (.d .nils))] [7] (one []) [(9, rd B e), (8, .var (.sl 7 [] 1 0 (vs.map tD).length)), (7, .row 1 (vs.map tD))] := by
  have hn := (rdC_ok hc).2.2
  have h0 : RtI bs (some (vs, e)) ([], n, k) := ⟨by rw [hr]; rfl, by simp; omega⟩
  refine vc_fn mixed Try.func68 rfl rfl [(500000, [1000000007000000008])] (vzH rfl) ?_
  repeat' (first | ((with_reducible refine vzH ?_); first | decide +kernel | rfl) | (with_reducible refine vzC ?_; rfl) | (with_reducible first | (refine vzZ ?_; constructor) | refine vzC ?_ | refine vc_call [] (count_ok B bs hB 4096 0 n k hc (by omega) hl) ?_ | refine vc_loopI 15 (fun (x : List (List UInt8) × Nat × Nat) => [(0, .ptr 9 []), (1, .ptr 8 []), (3, .d (.int .i64 (x.2.1 : Int)))]) (fun x => [(9, rd B x.2.2), (8, .var (.sl 7 [] 1 0 (x.1.map tD).length)), (7, .row 1 (x.1.map tD))]) (fun x => x.2.1) (RtI bs (some (vs, e))) ([], n, k) [] ?_ ?_ ?_ ?_ ?_ (fun x hI => hI.ok (fun hz he1 he2 => ?_) (fun v e' hz hle hv hx => ?_)) | refine vc_call [] (text_read B bs v hB x.2.2 e' hv hl) ?_ | refine vc_nextI (x.1 ++ [v], x.2.1 - 1, e') [(7, 4016)] ?_ ?_ ?_ ?_ ?_ ?_ | refine vzB [] ?_ ?_ ?_ | refine vzD ?_ ?_ | refine vc_ret [] [] ?_) | ((with_reducible first | refine vzE (fun h => ?_) (fun h => ?_) | refine vzF (fun h => ?_) (fun h => ?_)) <;> try (exfalso; omega)) | ((with_reducible refine vzG (fun h => ?_) (fun h => ?_)) <;> (try simp at h) <;> try (exfalso; omega)) | ((conv in Vc _ => arg 1; whnf); first | (with_reducible refine vzC ?_; rfl) | (with_reducible first | (refine vzZ ?_; constructor) | refine vzC ?_ | refine vc_call [] (count_ok B bs hB 4096 0 n k hc (by omega) hl) ?_ | refine vc_loopI 15 (fun (x : List (List UInt8) × Nat × Nat) => [(0, .ptr 9 []), (1, .ptr 8 []), (3, .d (.int .i64 (x.2.1 : Int)))]) (fun x => [(9, rd B x.2.2), (8, .var (.sl 7 [] 1 0 (x.1.map tD).length)), (7, .row 1 (x.1.map tD))]) (fun x => x.2.1) (RtI bs (some (vs, e))) ([], n, k) [] ?_ ?_ ?_ ?_ ?_ (fun x hI => hI.ok (fun hz he1 he2 => ?_) (fun v e' hz hle hv hx => ?_)) | refine vc_call [] (text_read B bs v hB x.2.2 e' hv hl) ?_ | refine vc_nextI (x.1 ++ [v], x.2.1 - 1, e') [(7, 4016)] ?_ ?_ ?_ ?_ ?_ ?_ | refine vzB [] ?_ ?_ ?_ | refine vzD ?_ ?_ | refine vc_ret [] [] ?_) | ((with_reducible first | refine vzE (fun h => ?_) (fun h => ?_) | refine vzF (fun h => ?_) (fun h => ?_)) <;> try (exfalso; omega)) | ((with_reducible refine vzG (fun h => ?_) (fun h => ?_)) <;> (try simp at h) <;> try (exfalso; omega))))
  all_goals first
    | rfl
    | exact h0
    | exact hx
    | (simp only; omega)
    | (rw [he1]; done)
    | (rw [he2]; done)
    | (simp only [List.drop_zero, List.take_length]; rw [tD_app]; done)
    | (congr 1; rw [wrap64_id (by omega) (by omega)]; simp only; omega)
    | (refine ⟨⟨by simp, by first | trivial | rfl, room24 rfl ?_⟩, fun y hy => ?_⟩
       · rw [List.length_append, List.length_map]
         show x.1.length + 1 ≤ 4096
         omega
       · simp only [List.drop_zero, List.take_length, List.mem_singleton] at hy; subst hy; rfl)
theorem texts_not (B : List D) (bs : List UInt8) (hB : B = bs.map byteD) (hc : ∀ n k, rdC bs 4096 0 = some (n, k) → rdTs bs n k = none) (hl : bs.length < 2 ^ 63) :
    LocalPan Try.prog 68 [.ptr 9 [], .ptr 8 []] [(9, rd B 0), (8, .var (.d .nils))] [] fault [(9, .dead), (8, .dead)] := by
  refine vc_fnPan mixed Try.func68 rfl rfl [(500000, [1000000007000000008])] (vzH rfl) ?_
  rcases hr0 : rdC bs 4096 0 with _ | ⟨n, k⟩
  · skip
    repeat' (first | ((with_reducible refine vzH ?_); first | decide +kernel | rfl) | (with_reducible refine vzC ?_; rfl) | (with_reducible first | (refine vzZ ?_; constructor) | refine vzC ?_ | refine vc_pan [] (count_pan B bs hB 4096 0 hr0 (by omega) (by omega) hl) ?_ | refine vc_panc [] [8] ?_ ?_ | refine vzB [] ?_ ?_ ?_ | refine vzD ?_ ?_ | refine vc_ret [] [] ?_) | ((with_reducible first | refine vzE (fun h => ?_) (fun h => ?_) | refine vzF (fun h => ?_) (fun h => ?_)) <;> try (exfalso; omega)) | ((with_reducible refine vzG (fun h => ?_) (fun h => ?_)) <;> (try simp at h) <;> try (exfalso; omega)) | ((conv in Vc _ => arg 1; whnf); first | (with_reducible refine vzC ?_; rfl) | (with_reducible first | (refine vzZ ?_; constructor) | refine vzC ?_ | refine vc_pan [] (count_pan B bs hB 4096 0 hr0 (by omega) (by omega) hl) ?_ | refine vc_panc [] [8] ?_ ?_ | refine vzB [] ?_ ?_ ?_ | refine vzD ?_ ?_ | refine vc_ret [] [] ?_) | ((with_reducible first | refine vzE (fun h => ?_) (fun h => ?_) | refine vzF (fun h => ?_) (fun h => ?_)) <;> try (exfalso; omega)) | ((with_reducible refine vzG (fun h => ?_) (fun h => ?_)) <;> (try simp at h) <;> try (exfalso; omega))))
    all_goals rfl
  · have hn := (rdC_ok hr0).2.2
    have h0 : RtI bs none ([], n, k) := ⟨by rw [hc n k hr0]; rfl, by simp; omega⟩
    repeat' (first | ((with_reducible refine vzH ?_); first | decide +kernel | rfl) | (with_reducible refine vzC ?_; rfl) | (with_reducible first | (refine vzZ ?_; constructor) | refine vzC ?_ | refine vc_call [] (count_ok B bs hB 4096 0 n k hr0 (by omega) hl) ?_ | refine vc_loopI 15 (fun (x : List (List UInt8) × Nat × Nat) => [(0, .ptr 9 []), (1, .ptr 8 []), (3, .d (.int .i64 (x.2.1 : Int)))]) (fun x => [(9, rd B x.2.2), (8, .var (.sl 7 [] 1 0 (x.1.map tD).length)), (7, .row 1 (x.1.map tD))]) (fun x => x.2.1) (RtI bs none) ([], n, k) [] ?_ ?_ ?_ ?_ ?_ (fun x hI => hI.no (fun hz hv => ?_) (fun v e' hz hle hv hx => ?_)) | refine vc_call [] (text_read B bs v hB x.2.2 e' hv hl) ?_ | refine vc_pan [] (text_nread B bs hB x.2.2 hv hl) ?_ | refine vc_nextI (x.1 ++ [v], x.2.1 - 1, e') [(7, 4016)] ?_ ?_ ?_ ?_ ?_ ?_ | refine vc_panc [] [8] ?_ ?_ | refine vzB [] ?_ ?_ ?_ | refine vzD ?_ ?_ | refine vc_ret [] [] ?_) | ((with_reducible first | refine vzE (fun h => ?_) (fun h => ?_) | refine vzF (fun h => ?_) (fun h => ?_)) <;> try (exfalso; omega)) | ((with_reducible refine vzG (fun h => ?_) (fun h => ?_)) <;> (try simp at h) <;> try (exfalso; omega)) | ((conv in Vc _ => arg 1; whnf); first | (with_reducible refine vzC ?_; rfl) | (with_reducible first | (refine vzZ ?_; constructor) | refine vzC ?_ | refine vc_call [] (count_ok B bs hB 4096 0 n k hr0 (by omega) hl) ?_ | refine vc_loopI 15 (fun (x : List (List UInt8) × Nat × Nat) => [(0, .ptr 9 []), (1, .ptr 8 []), (3, .d (.int .i64 (x.2.1 : Int)))]) (fun x => [(9, rd B x.2.2), (8, .var (.sl 7 [] 1 0 (x.1.map tD).length)), (7, .row 1 (x.1.map tD))]) (fun x => x.2.1) (RtI bs none) ([], n, k) [] ?_ ?_ ?_ ?_ ?_ (fun x hI => hI.no (fun hz hv => ?_) (fun v e' hz hle hv hx => ?_)) | refine vc_call [] (text_read B bs v hB x.2.2 e' hv hl) ?_ | refine vc_pan [] (text_nread B bs hB x.2.2 hv hl) ?_ | refine vc_nextI (x.1 ++ [v], x.2.1 - 1, e') [(7, 4016)] ?_ ?_ ?_ ?_ ?_ ?_ | refine vc_panc [] [8] ?_ ?_ | refine vzB [] ?_ ?_ ?_ | refine vzD ?_ ?_ | refine vc_ret [] [] ?_) | ((with_reducible first | refine vzE (fun h => ?_) (fun h => ?_) | refine vzF (fun h => ?_) (fun h => ?_)) <;> try (exfalso; omega)) | ((with_reducible refine vzG (fun h => ?_) (fun h => ?_)) <;> (try simp at h) <;> try (exfalso; omega))))
    all_goals first
      | rfl
      | exact h0
      | exact hx
      | (simp only; omega)
      | (simp only [List.drop_zero, List.take_length]; rw [tD_app]; done)
      | (congr 1; rw [wrap64_id (by omega) (by omega)]; simp only; omega)
      | (refine ⟨⟨by simp, by first | trivial | rfl, room24 rfl ?_⟩, fun y hy => ?_⟩
         · rw [List.length_append, List.length_map]
           show x.1.length + 1 ≤ 4096
           omega
         · simp only [List.drop_zero, List.take_length, List.mem_singleton] at hy; subst hy; rfl)
end Go.Proofs.Ytjgkngjeniameaa

namespace Go.Proofs.Ytjgkngjeniameaa
open Go.Sym
set_option maxRecDepth 10000
set_option maxHeartbeats 1000000
def rdTexts (bs : List UInt8) : Option (List (List UInt8)) := match rdC bs 4096 0 with
  | some (n, k) => match rdTs bs n k with
    | some (vs, e) => bif decide (e = bs.length) then some vs else none
    | none => none
  | none => none
theorem readTexts_in (B : List D) (bs : List UInt8) (hB : B = bs.map byteD) (n k e : Nat) (vs : List (List UInt8)) (hc : rdC bs 4096 0 = some (n, k)) (hr : rdTs bs n k = some (vs, e)) (he : e = bs.length) (hl : bs.length < 2 ^ 63) :
    LocalCall Try.prog 67 [.d (.sl B), .fn (.func 68) [.ptr 8 []]] [(8, .var (.d .nils))] [7] (one [.d (.int .i64 0)]) [(8, .var (.sl 7 [] 1 0 (vs.map tD).length)), (7, .row 1 (vs.map tD))] := by
  have hlen : B.length = bs.length := by rw [hB]; simp
  refine local_recovers mixed (sl2 := [(0, .d (.sl B)), (1, .fn (.func 68) [.ptr 8 []]), (4, .ptr 1000 [])]) (hp2 := [(8, .var (.d .nils)), (1000, .var (.d (.int .i64 0)))]) (N := 1000) Try.func67 rfl rfl rfl rfl rfl rfl rfl rfl rfl rfl [] catch_idle catch_pan rfl (vzH rfl) rfl (by decide) (by decide) rfl ?_ ?_
  · skip
    repeat' (first | ((with_reducible refine vzH ?_); first | decide +kernel | rfl) | (with_reducible refine vzC ?_; rfl) | (with_reducible first | (refine vzZ ?_; constructor) | refine vzC ?_ | refine vc_mid [] ?_ ?_ ?_ ?_ | refine vzB [] ?_ ?_ ?_ | refine vzD ?_ ?_ | refine vc_ret [] [] ?_) | ((with_reducible first | refine vzE (fun h => ?_) (fun h => ?_) | refine vzF (fun h => ?_) (fun h => ?_)) <;> try (exfalso; omega)) | ((with_reducible refine vzG (fun h => ?_) (fun h => ?_)) <;> (try simp at h) <;> try (exfalso; omega)) | ((conv in Vc _ => arg 1; whnf); first | (with_reducible refine vzC ?_; rfl) | (with_reducible first | (refine vzZ ?_; constructor) | refine vzC ?_ | refine vc_mid [] ?_ ?_ ?_ ?_ | refine vzB [] ?_ ?_ ?_ | refine vzD ?_ ?_ | refine vc_ret [] [] ?_) | ((with_reducible first | refine vzE (fun h => ?_) (fun h => ?_) | refine vzF (fun h => ?_) (fun h => ?_)) <;> try (exfalso; omega)) | ((with_reducible refine vzG (fun h => ?_) (fun h => ?_)) <;> (try simp at h) <;> try (exfalso; omega))))
    all_goals rfl
  · have hcl := local_ren [(9, 3008)] [(3008, 9)] (texts_in B bs hB n k e vs hc hr hl) rfl
    repeat' (first | ((with_reducible refine vzH ?_); first | decide +kernel | rfl) | (with_reducible refine vzC ?_; rfl) | (with_reducible first | (refine vzZ ?_; constructor) | refine vzC ?_ | refine vc_call [] hcl ?_ | refine vzB [] ?_ ?_ ?_ | refine vzD ?_ ?_ | refine vc_ret [] [] ?_) | ((with_reducible first | refine vzE (fun h => ?_) (fun h => ?_) | refine vzF (fun h => ?_) (fun h => ?_)) <;> try (exfalso; omega)) | ((with_reducible refine vzG (fun h => ?_) (fun h => ?_)) <;> (try simp at h) <;> try (exfalso; omega)) | ((conv in Vc _ => arg 1; whnf); first | (with_reducible refine vzC ?_; rfl) | (with_reducible first | (refine vzZ ?_; constructor) | refine vzC ?_ | refine vc_call [] hcl ?_ | refine vzB [] ?_ ?_ ?_ | refine vzD ?_ ?_ | refine vc_ret [] [] ?_) | ((with_reducible first | refine vzE (fun h => ?_) (fun h => ?_) | refine vzF (fun h => ?_) (fun h => ?_)) <;> try (exfalso; omega)) | ((with_reducible refine vzG (fun h => ?_) (fun h => ?_)) <;> (try simp at h) <;> try (exfalso; omega))))
    all_goals rfl
theorem readTexts_not (B : List D) (bs : List UInt8) (hB : B = bs.map byteD) (hc : ∀ n k, rdC bs 4096 0 = some (n, k) → rdTs bs n k = none) (hl : bs.length < 2 ^ 63) :
    LocalCall Try.prog 67 [.d (.sl B), .fn (.func 68) [.ptr 8 []]] [(8, .var (.d .nils))] [] (one [.d (.int .i64 3)]) [(8, .dead)] := by
  have hlen : B.length = bs.length := by rw [hB]; simp
  refine local_recovers mixed (sl2 := [(0, .d (.sl B)), (1, .fn (.func 68) [.ptr 8 []]), (4, .ptr 1000 [])]) (hp2 := [(8, .var (.d .nils)), (1000, .var (.d (.int .i64 0)))]) (N := 1000) Try.func67 rfl rfl rfl rfl rfl rfl rfl rfl rfl rfl [] catch_idle catch_pan rfl (vzH rfl) rfl (by decide) (by decide) rfl ?_ ?_
  · skip
    repeat' (first | ((with_reducible refine vzH ?_); first | decide +kernel | rfl) | (with_reducible refine vzC ?_; rfl) | (with_reducible first | (refine vzZ ?_; constructor) | refine vzC ?_ | refine vc_mid [] ?_ ?_ ?_ ?_ | refine vzB [] ?_ ?_ ?_ | refine vzD ?_ ?_ | refine vc_ret [] [] ?_) | ((with_reducible first | refine vzE (fun h => ?_) (fun h => ?_) | refine vzF (fun h => ?_) (fun h => ?_)) <;> try (exfalso; omega)) | ((with_reducible refine vzG (fun h => ?_) (fun h => ?_)) <;> (try simp at h) <;> try (exfalso; omega)) | ((conv in Vc _ => arg 1; whnf); first | (with_reducible refine vzC ?_; rfl) | (with_reducible first | (refine vzZ ?_; constructor) | refine vzC ?_ | refine vc_mid [] ?_ ?_ ?_ ?_ | refine vzB [] ?_ ?_ ?_ | refine vzD ?_ ?_ | refine vc_ret [] [] ?_) | ((with_reducible first | refine vzE (fun h => ?_) (fun h => ?_) | refine vzF (fun h => ?_) (fun h => ?_)) <;> try (exfalso; omega)) | ((with_reducible refine vzG (fun h => ?_) (fun h => ?_)) <;> (try simp at h) <;> try (exfalso; omega))))
    all_goals rfl
  · have hcl := localPan_ren [(9, 3008)] [(3008, 9)] (texts_not B bs hB hc hl) rfl
    repeat' (first | ((with_reducible refine vzH ?_); first | decide +kernel | rfl) | (with_reducible refine vzC ?_; rfl) | (with_reducible first | (refine vzZ ?_; constructor) | refine vzC ?_ | refine vc_pan [] hcl ?_ | refine vzB [] ?_ ?_ ?_ | refine vzD ?_ ?_ | refine vc_ret [] [] ?_) | ((with_reducible first | refine vzE (fun h => ?_) (fun h => ?_) | refine vzF (fun h => ?_) (fun h => ?_)) <;> try (exfalso; omega)) | ((with_reducible refine vzG (fun h => ?_) (fun h => ?_)) <;> (try simp at h) <;> try (exfalso; omega)) | ((conv in Vc _ => arg 1; whnf); first | (with_reducible refine vzC ?_; rfl) | (with_reducible first | (refine vzZ ?_; constructor) | refine vzC ?_ | refine vc_pan [] hcl ?_ | refine vzB [] ?_ ?_ ?_ | refine vzD ?_ ?_ | refine vc_ret [] [] ?_) | ((with_reducible first | refine vzE (fun h => ?_) (fun h => ?_) | refine vzF (fun h => ?_) (fun h => ?_)) <;> try (exfalso; omega)) | ((with_reducible refine vzG (fun h => ?_) (fun h => ?_)) <;> (try simp at h) <;> try (exfalso; omega))))
    all_goals rfl
theorem readTexts_more (B : List D) (bs : List UInt8) (hB : B = bs.map byteD) (n k e : Nat) (vs : List (List UInt8)) (hc : rdC bs 4096 0 = some (n, k)) (hr : rdTs bs n k = some (vs, e)) (he : ¬ e = bs.length) (hl : bs.length < 2 ^ 63) :
    LocalCall Try.prog 67 [.d (.sl B), .fn (.func 68) [.ptr 8 []]] [(8, .var (.d .nils))] [] (one [.d (.int .i64 3)]) [(8, .dead)] := by
  have hlen : B.length = bs.length := by rw [hB]; simp
  refine local_recovers mixed (sl2 := [(0, .d (.sl B)), (1, .fn (.func 68) [.ptr 8 []]), (4, .ptr 1000 [])]) (hp2 := [(8, .var (.d .nils)), (1000, .var (.d (.int .i64 0)))]) (N := 1000) Try.func67 rfl rfl rfl rfl rfl rfl rfl rfl rfl rfl [] catch_idle catch_pan rfl (vzH rfl) rfl (by decide) (by decide) rfl ?_ ?_
  · skip
    repeat' (first | ((with_reducible refine vzH ?_); first | decide +kernel | rfl) | (with_reducible refine vzC ?_; rfl) | (with_reducible first | (refine vzZ ?_; constructor) | refine vzC ?_ | refine vc_mid [] ?_ ?_ ?_ ?_ | refine vzB [] ?_ ?_ ?_ | refine vzD ?_ ?_ | refine vc_ret [] [] ?_) | ((with_reducible first | refine vzE (fun h => ?_) (fun h => ?_) | refine vzF (fun h => ?_) (fun h => ?_)) <;> try (exfalso; omega)) | ((with_reducible refine vzG (fun h => ?_) (fun h => ?_)) <;> (try simp at h) <;> try (exfalso; omega)) | ((conv in Vc _ => arg 1; whnf); first | (with_reducible refine vzC ?_; rfl) | (with_reducible first | (refine vzZ ?_; constructor) | refine vzC ?_ | refine vc_mid [] ?_ ?_ ?_ ?_ | refine vzB [] ?_ ?_ ?_ | refine vzD ?_ ?_ | refine vc_ret [] [] ?_) | ((with_reducible first | refine vzE (fun h => ?_) (fun h => ?_) | refine vzF (fun h => ?_) (fun h => ?_)) <;> try (exfalso; omega)) | ((with_reducible refine vzG (fun h => ?_) (fun h => ?_)) <;> (try simp at h) <;> try (exfalso; omega))))
    all_goals rfl
  · have hcl := local_ren [(9, 3008)] [(3008, 9)] (texts_in B bs hB n k e vs hc hr hl) rfl
    repeat' (first | ((with_reducible refine vzH ?_); first | decide +kernel | rfl) | (with_reducible refine vzC ?_; rfl) | (with_reducible first | (refine vzZ ?_; constructor) | refine vzC ?_ | refine vc_call [] hcl ?_ | refine vc_retK [] [] [8] ?_ | refine vzB [] ?_ ?_ ?_ | refine vzD ?_ ?_ | refine vc_ret [] [] ?_) | ((with_reducible first | refine vzE (fun h => ?_) (fun h => ?_) | refine vzF (fun h => ?_) (fun h => ?_)) <;> try (exfalso; omega)) | ((with_reducible refine vzG (fun h => ?_) (fun h => ?_)) <;> (try simp at h) <;> try (exfalso; omega)) | ((conv in Vc _ => arg 1; whnf); first | (with_reducible refine vzC ?_; rfl) | (with_reducible first | (refine vzZ ?_; constructor) | refine vzC ?_ | refine vc_call [] hcl ?_ | refine vc_retK [] [] [8] ?_ | refine vzB [] ?_ ?_ ?_ | refine vzD ?_ ?_ | refine vc_ret [] [] ?_) | ((with_reducible first | refine vzE (fun h => ?_) (fun h => ?_) | refine vzF (fun h => ?_) (fun h => ?_)) <;> try (exfalso; omega)) | ((with_reducible refine vzG (fun h => ?_) (fun h => ?_)) <;> (try simp at h) <;> try (exfalso; omega))))
    all_goals rfl
theorem readTexts_no (B : List D) (bs : List UInt8) (hB : B = bs.map byteD) (h : rdTexts bs = none) (hl : bs.length < 2 ^ 63) :
    LocalCall Try.prog 67 [.d (.sl B), .fn (.func 68) [.ptr 8 []]] [(8, .var (.d .nils))] [] (one [.d (.int .i64 3)]) [(8, .dead)] := by
  unfold rdTexts at h
  split at h
  · rename_i n k hc
    split at h
    · rename_i vs e hr
      refine readTexts_more B bs hB n k e vs hc hr (fun he => ?_) hl
      rw [decide_eq_true he] at h; cases h
    · rename_i hr
      exact readTexts_not B bs hB (fun n' k' hc' => by rw [hc] at hc'; cases hc'; exact hr) hl
  · rename_i hc
    exact readTexts_not B bs hB (fun n' k' hc' => by rw [hc] at hc'; cases hc') hl
theorem rdTexts_some {bs : List UInt8} {vs : List (List UInt8)} (h : rdTexts bs = some vs) : ∃ n k e, rdC bs 4096 0 = some (n, k) ∧ rdTs bs n k = some (vs, e) ∧ e = bs.length := by
  unfold rdTexts at h
  split at h
  · rename_i n k hc
    split at h
    · rename_i vs' e hr
      cases hb : decide (e = bs.length) with
      | true => rw [hb] at h; cases h; exact ⟨n, k, e, hc, hr, of_decide_eq_true hb⟩
      | false => rw [hb] at h; cases h
    · cases h
  · cases h
theorem rTexts_yes (B : List D) (bs : List UInt8) (hB : B = bs.map byteD) (vs : List (List UInt8)) (h : rdTexts bs = some vs) (hl : bs.length < 2 ^ 63) :
    LocalCall Try.prog 50 [.d (.sl B)] [] [] (one [.d (.sl (vs.map tD)), .d (.int .i64 0)]) [] := by
  obtain ⟨n, k, e, hc, hr, he⟩ := rdTexts_some h
  have hcl := local_ren [(8, 2000)] [(2000, 8)] (readTexts_in B bs hB n k e vs hc hr he hl) rfl
  refine vc_fn mixed Try.func50 rfl rfl [] (vzH rfl) ?_
  repeat' (first | ((with_reducible refine vzH ?_); first | decide +kernel | rfl) | (with_reducible refine vzC ?_; rfl) | (with_reducible first | (refine vzZ ?_; constructor) | refine vzC ?_ | refine vc_call [] hcl ?_ | refine vc_ret [true] [] ?_ | refine vzB [] ?_ ?_ ?_ | refine vzD ?_ ?_ | refine vc_ret [] [] ?_) | ((with_reducible first | refine vzE (fun h => ?_) (fun h => ?_) | refine vzF (fun h => ?_) (fun h => ?_)) <;> try (exfalso; omega)) | ((with_reducible refine vzG (fun h => ?_) (fun h => ?_)) <;> (try simp at h) <;> try (exfalso; omega)) | ((conv in Vc _ => arg 1; whnf); first | (with_reducible refine vzC ?_; rfl) | (with_reducible first | (refine vzZ ?_; constructor) | refine vzC ?_ | refine vc_call [] hcl ?_ | refine vc_ret [true] [] ?_ | refine vzB [] ?_ ?_ ?_ | refine vzD ?_ ?_ | refine vc_ret [] [] ?_) | ((with_reducible first | refine vzE (fun h => ?_) (fun h => ?_) | refine vzF (fun h => ?_) (fun h => ?_)) <;> try (exfalso; omega)) | ((with_reducible refine vzG (fun h => ?_) (fun h => ?_)) <;> (try simp at h) <;> try (exfalso; omega))))
  all_goals first
    | rfl
    | exact ⟨trivial, trivial, trivial⟩
    | exact ⟨Nat.le_of_eq (Nat.zero_add _), trivial⟩
    | (rw [List.drop_zero, List.take_length]; done)
theorem rTexts_no (B : List D) (bs : List UInt8) (hB : B = bs.map byteD) (h : rdTexts bs = none) (hl : bs.length < 2 ^ 63) :
    LocalCall Try.prog 50 [.d (.sl B)] [] [] (one [.d (.sl []), .d (.int .i64 3)]) [] := by
  have hcl := local_ren [(8, 2000)] [(2000, 8)] (readTexts_no B bs hB h hl) rfl
  refine vc_fn mixed Try.func50 rfl rfl [] (vzH rfl) ?_
  repeat' (first | ((with_reducible refine vzH ?_); first | decide +kernel | rfl) | (with_reducible refine vzC ?_; rfl) | (with_reducible first | (refine vzZ ?_; constructor) | refine vzC ?_ | refine vc_call [] hcl ?_ | refine vc_ret [true] [] ?_ | refine vzB [] ?_ ?_ ?_ | refine vzD ?_ ?_ | refine vc_ret [] [] ?_) | ((with_reducible first | refine vzE (fun h => ?_) (fun h => ?_) | refine vzF (fun h => ?_) (fun h => ?_)) <;> try (exfalso; omega)) | ((with_reducible refine vzG (fun h => ?_) (fun h => ?_)) <;> (try simp at h) <;> try (exfalso; omega)) | ((conv in Vc _ => arg 1; whnf); first | (with_reducible refine vzC ?_; rfl) | (with_reducible first | (refine vzZ ?_; constructor) | refine vzC ?_ | refine vc_call [] hcl ?_ | refine vc_ret [true] [] ?_ | refine vzB [] ?_ ?_ ?_ | refine vzD ?_ ?_ | refine vc_ret [] [] ?_) | ((with_reducible first | refine vzE (fun h => ?_) (fun h => ?_) | refine vzF (fun h => ?_) (fun h => ?_)) <;> try (exfalso; omega)) | ((with_reducible refine vzG (fun h => ?_) (fun h => ?_)) <;> (try simp at h) <;> try (exfalso; omega))))
  all_goals first
    | rfl
    | exact ⟨trivial, trivial, trivial⟩
    | exact ⟨Nat.le_of_eq (Nat.zero_add _), trivial⟩
    | (rw [List.drop_zero, List.take_length]; done)
end Go.Proofs.Ytjgkngjeniameaa

namespace Go.Proofs.Ytjgkngjeniameaa
open Go.Sym
set_option maxRecDepth 10000
set_option maxHeartbeats 1000000
end Go.Proofs.Ytjgkngjeniameaa

namespace Go.Proofs.Ytjgkngjeniameaa
open Go.Sym
set_option maxRecDepth 10000
set_option maxHeartbeats 1000000
end Go.Proofs.Ytjgkngjeniameaa

namespace Go.Proofs.Ytjgkngjeniameaa
open Go.Sym
set_option maxRecDepth 10000
set_option maxHeartbeats 1000000
theorem textsB_take (vs : List (List UInt8)) {i : Nat} (h : i < vs.length) : textsB (vs.take i) ++ textB (vs.getD i []) = textsB (vs.take (i + 1)) := by
  unfold textsB
  rw [List.take_succ_eq_append_getElem h, List.flatMap_append, List.getD_eq_getElem?_getD, List.getElem?_eq_getElem h]
  simp
theorem textsB_sub (vs : List (List UInt8)) (i : Nat) : (textsB (vs.take i)).length ≤ (textsB vs).length := by
  have : textsB vs = textsB (vs.take i) ++ textsB (vs.drop i) := by
    unfold textsB
    rw [← List.flatMap_append, List.take_append_drop]
  rw [this]; simp
theorem texts_ok (L : List D) (vs : List (List UInt8)) (hL : L = vs.map tD) (hroom : Room (numB vs.length ++ textsB vs).length 1) :
    LocalCall Try.prog 49 [.d (.sl L)] [] [] (one [.d (.sl ((numB vs.length ++ textsB vs).map byteD))]) [] := by
  have hlen : L.length = vs.length := by rw [hL]; simp
  have hl := room_lt hroom
  have hge : ∀ ws : List (List UInt8), ws.length ≤ (textsB ws).length := fun ws => by
    induction ws with
    | nil => simp
    | cons w ws ih => have := numB_pos w.length; simp only [textsB, textB, List.flatMap_cons, List.length_append, List.length_cons] at ih ⊢; omega
  have := hge vs
  simp only [List.length_append] at hl
  have hget : ∀ i, i < vs.length → L.getD i .nilp = .sl ((vs.getD i []).map byteD) := fun i hi => by
    rw [hL, List.getD_eq_getElem?_getD, List.getElem?_map, List.getD_eq_getElem?_getD, List.getElem?_eq_getElem hi]; rfl
  have hels : ∀ i, i < vs.length → (L.getD ((i : Int)).toNat .nilp).els = (vs.getD i []).map byteD := fun i hi => by
    rw [Int.toNat_natCast, hget i hi]; rfl
  have hR : ∀ i, i < vs.length → Room ((numB vs.length ++ textsB (vs.take i)).map byteD ++ (numB ((vs.getD i []).map byteD).length).map byteD ++ (vs.getD i []).map byteD).length 1 := fun i hi => by
    refine room_le hroom rfl ?_
    have h2 := congrArg List.length (textsB_take vs hi)
    have h3 := textsB_sub vs (i + 1)
    simp only [textB, List.length_append, List.length_map] at h2 ⊢
    omega
  have hS : ∀ i, i < vs.length → ∀ y, y ∈ (L.getD ((i : Int)).toNat .nilp).els → y.size = 1 := fun i hi => by rw [hels i hi]; exact size_bytes _
  have hR2 : ∀ i, i < vs.length → Room ((numB vs.length ++ textsB (vs.take i)).map byteD ++ (numB ((L.getD ((i : Int)).toNat .nilp).els).length).map byteD ++ (L.getD ((i : Int)).toNat .nilp).els).length 1 := fun i hi => by rw [hels i hi]; exact hR i hi
  refine vc_fn mixed Try.func49 rfl rfl [] (vzH rfl) ?_
  repeat' (first | ((with_reducible refine vzH ?_); first | decide +kernel | rfl) | (with_reducible refine vzC ?_; rfl) | (with_reducible first | (refine vzZ ?_; constructor) | refine vzC ?_ | refine vc_callU (num_nil (A := 3) (B := 7) (by decide) _ vs.length (by rw [hlen, wrapU64_id (by omega) (by omega)]) (by omega)) ?_ ?_ | refine vc_loopI 21 (fun (i : Nat) => [(0, .d (.sl L)), (3, .sl 7 [] 1 0 ((numB vs.length ++ textsB (vs.take i)).map byteD).length), (10, .d (.sl L)), (11, .d (.int .i64 (L.length : Int))), (12, .d (.int .i64 (i : Int)))]) (fun i => [(7, .row 1 ((numB vs.length ++ textsB (vs.take i)).map byteD))]) (fun i => vs.length - i) (fun i => i ≤ vs.length) 0 [] ?_ ?_ ?_ ?_ ?_ (fun i hI => ?_) | refine vc_callU (text_at (A := 7) (B := 8) (by decide) ((numB vs.length ++ textsB (vs.take i)).map byteD) _ (hS i (by omega)) (hR2 i (by omega))) ?_ ?_ | refine vc_nextI (i + 1) [(7, 8)] ?_ ?_ ?_ ?_ ?_ ?_ | refine vc_ret [true] [] ?_ | refine vzB [] ?_ ?_ ?_ | refine vzD ?_ ?_ | refine vc_ret [] [] ?_) | ((with_reducible first | refine vzE (fun h => ?_) (fun h => ?_) | refine vzF (fun h => ?_) (fun h => ?_)) <;> try (exfalso; omega)) | ((with_reducible refine vzG (fun h => ?_) (fun h => ?_)) <;> (try simp at h) <;> try (exfalso; omega)) | ((conv in Vc _ => arg 1; whnf); first | (with_reducible refine vzC ?_; rfl) | (with_reducible first | (refine vzZ ?_; constructor) | refine vzC ?_ | refine vc_callU (num_nil (A := 3) (B := 7) (by decide) _ vs.length (by rw [hlen, wrapU64_id (by omega) (by omega)]) (by omega)) ?_ ?_ | refine vc_loopI 21 (fun (i : Nat) => [(0, .d (.sl L)), (3, .sl 7 [] 1 0 ((numB vs.length ++ textsB (vs.take i)).map byteD).length), (10, .d (.sl L)), (11, .d (.int .i64 (L.length : Int))), (12, .d (.int .i64 (i : Int)))]) (fun i => [(7, .row 1 ((numB vs.length ++ textsB (vs.take i)).map byteD))]) (fun i => vs.length - i) (fun i => i ≤ vs.length) 0 [] ?_ ?_ ?_ ?_ ?_ (fun i hI => ?_) | refine vc_callU (text_at (A := 7) (B := 8) (by decide) ((numB vs.length ++ textsB (vs.take i)).map byteD) _ (hS i (by omega)) (hR2 i (by omega))) ?_ ?_ | refine vc_nextI (i + 1) [(7, 8)] ?_ ?_ ?_ ?_ ?_ ?_ | refine vc_ret [true] [] ?_ | refine vzB [] ?_ ?_ ?_ | refine vzD ?_ ?_ | refine vc_ret [] [] ?_) | ((with_reducible first | refine vzE (fun h => ?_) (fun h => ?_) | refine vzF (fun h => ?_) (fun h => ?_)) <;> try (exfalso; omega)) | ((with_reducible refine vzG (fun h => ?_) (fun h => ?_)) <;> (try simp at h) <;> try (exfalso; omega))))
  all_goals first
    | rfl
    | omega
    | (rw [hels i (by omega), ← textsB_take vs (by omega)]; simp [textB]; done)
    | (congr 1; rw [wrap64_id (by omega) (by omega)]; omega)
    | (refine ⟨⟨by omega, by omega⟩, ?_⟩
       rw [Int.toNat_natCast, hget i (by omega)]; rfl)
    | (obtain rfl : i = vs.length := by omega
       exact ⟨Nat.le_of_eq (Nat.zero_add _), trivial⟩)
    | (obtain rfl : i = vs.length := by omega
       rw [List.drop_zero, List.take_length, List.take_length]; done)
    | (simp [textsB]; done)
end Go.Proofs.Ytjgkngjeniameaa

namespace Go.Proofs.Ytjgkngjeniameaa
open Go.Sym
set_option maxRecDepth 10000
set_option maxHeartbeats 1000000
theorem rdTs_iff {bs : List UInt8} : ∀ {n k e : Nat} {vs : List (List UInt8)}, rdTs bs n k = some (vs, e) → vs.length = n ∧ (∀ v, v ∈ vs → v.length ≤ 1048576) ∧ bs.drop k = textsB vs ++ bs.drop e
  | 0, k, e, vs, h => by cases h; exact ⟨rfl, nofun, rfl⟩
  | n + 1, k, e, vs, h => by
    rw [rdTs] at h
    split at h
    · rename_i v e' hr
      cases hq : rdTs bs n e' with
      | none => rw [hq] at h; cases h
      | some p =>
        obtain ⟨ws, e2⟩ := p
        rw [hq] at h
        simp only [Option.map_some, Option.some.injEq, Prod.mk.injEq] at h
        obtain ⟨rfl, rfl⟩ := h
        obtain ⟨h1, h2, h3⟩ := rdTs_iff hq
        obtain ⟨h4, h5⟩ := rdT_iff hr
        refine ⟨by simp [h1], fun v' hv' => ?_, ?_⟩
        · rcases List.mem_cons.1 hv' with rfl | hv'
          · exact h4
          · exact h2 v' hv'
        · rw [h5, h3]; simp [textsB]
    · cases h
theorem iff_rdTs {bs rest : List UInt8} : ∀ {vs : List (List UInt8)} {k : Nat}, (∀ v, v ∈ vs → v.length ≤ 1048576) → bs.drop k = textsB vs ++ rest → rdTs bs vs.length k = some (vs, k + (textsB vs).length) ∧ bs.drop (k + (textsB vs).length) = rest
  | [], k, _, h => ⟨rfl, h⟩
  | v :: vs, k, hv, h => by
    have e : textsB (v :: vs) = textB v ++ textsB vs := by simp [textsB]
    rw [e, List.append_assoc] at h
    obtain ⟨h1, h2⟩ := iff_rdT (hv v (by simp)) h
    obtain ⟨h3, h4⟩ := iff_rdTs (vs := vs) (fun w hw => hv w (by simp [hw])) h2
    rw [e, List.length_append, ← Nat.add_assoc]
    refine ⟨?_, h4⟩
    rw [List.length_cons, rdTs, h1]
    simp only [h3, Option.map_some]
def encT (vs : List (List UInt8)) : List UInt8 := numB vs.length ++ textsB vs
theorem rdTexts_iff {bs : List UInt8} {vs : List (List UInt8)} : rdTexts bs = some vs ↔ bs = encT vs ∧ vs.length ≤ 4096 ∧ ∀ v, v ∈ vs → v.length ≤ 1048576 := by
  constructor
  · intro h
    obtain ⟨n, k, e, h1, h2, h3⟩ := rdTexts_some h
    obtain ⟨h4, _, h6⟩ := rdC_ok h1
    obtain ⟨h7, h8⟩ := rdN_iff h4
    obtain ⟨h9, h10, h11⟩ := rdTs_iff h2
    subst h3
    rw [h11, List.drop_zero, List.drop_length, List.append_nil] at h8
    exact ⟨by rw [h8, encT, h9], by omega, h10⟩
  · intro ⟨h1, h2, h3⟩
    have hd : bs.drop 0 = numB vs.length ++ (textsB vs ++ []) := by rw [h1]; simp [encT]
    obtain ⟨h4, h5⟩ := iff_rdC (most := 4096) (by omega) (by omega) (by omega) hd
    obtain ⟨h6, h7⟩ := iff_rdTs h3 h5
    unfold rdTexts
    rw [h4]
    simp only [h6]
    have : 0 + (numB vs.length).length + (textsB vs).length = bs.length := by rw [h1, encT, List.length_append]; omega
    rw [decide_eq_true this, cond_true]
end Go.Proofs.Ytjgkngjeniameaa

namespace Go.Proofs.Ytjgkngjeniameaa
open Go.Sym
set_option maxRecDepth 10000
set_option maxHeartbeats 1000000
end Go.Proofs.Ytjgkngjeniameaa

namespace Go.Proofs.Ytjgkngjeniameaa
open Go.Sym
set_option maxRecDepth 10000
set_option maxHeartbeats 1000000
end Go.Proofs.Ytjgkngjeniameaa

namespace Go.Proofs.Ytjgkngjeniameaa
open Go.Sym
set_option maxRecDepth 10000
set_option maxHeartbeats 1000000
end Go.Proofs.Ytjgkngjeniameaa

namespace Go.Proofs.Ytjgkngjeniameaa
open Go.Sym
set_option maxRecDepth 10000
set_option maxHeartbeats 1000000
structure RfI {α : Type} (rd : Nat → Nat → Option (List α × Nat)) (len n : Nat) (R : Option (List α × Nat)) (x : List α × Nat × Bool × Nat) : Prop where
  h : (bif x.2.2.1 then none else (rd (n - x.2.2.2) x.2.1).map fun p => (x.1 ++ p.1, p.2)) = R
  hi : x.2.2.2 ≤ n
  hl : x.1.length = x.2.2.2
  hk : x.2.1 ≤ len
theorem RfI.bad {α : Type} {rd : Nat → Nat → Option (List α × Nat)} {len n : Nat} {R : Option (List α × Nat)} {x : List α × Nat × Bool × Nat} (hI : RfI rd len n R x) (h : x.2.2.1 = true) : R = none := by
  rw [← hI.h, h]; rfl
theorem RfI.stop {α : Type} {rd : Nat → Nat → Option (List α × Nat)} {len n : Nat} {R : Option (List α × Nat)} {x : List α × Nat × Bool × Nat} (h0 : ∀ k, rd 0 k = some ([], k)) (hI : RfI rd len n R x) (h : x.2.2.1 = false) (hn : n ≤ x.2.2.2) : R = some (x.1, x.2.1) := by
  rw [← hI.h, h, Nat.sub_eq_zero_of_le hn, h0]
  simp
theorem RfN.next {bs : List UInt8} {len n : Nat} {R : Option (List Nat × Nat)} {x : List Nat × Nat × Bool × Nat} (hlen : len = bs.length) (hI : RfI (rdNs bs) len n R x) (h : x.2.2.1 = false) (hn : x.2.2.2 < n) :
    RfI (rdNs bs) len n R (x.1 ++ [(inNs bs x.2.2.1 x.2.1).1], (inNs bs x.2.2.1 x.2.1).2.1, (inNs bs x.2.2.1 x.2.1).2.2, x.2.2.2 + 1) := by
  obtain ⟨acc, k, b, i⟩ := x
  obtain ⟨e, hi, hl, hk⟩ := hI
  simp only at e hi hl hk h hn ⊢
  subst h
  refine ⟨?_, by simp only; omega, by simp [hl], by subst hlen; exact inNs_le bs false k hk⟩
  rw [← e]
  obtain ⟨m, hm⟩ : ∃ m, n - i = m + 1 := ⟨n - i - 1, by omega⟩
  simp only [cond_false]
  rw [hm, show n - (i + 1) = m by omega, rdNs, inN_rdN]
  show (bif (inN bs 10 k 0 0).2.2 then none else (rdNs bs m (inN bs 10 k 0 0).2.1).map fun p => (acc ++ [(inN bs 10 k 0 0).1] ++ p.1, p.2)) = _
  rcases inN bs 10 k 0 0 with ⟨v, e', b'⟩
  cases b' with
  | true => rfl
  | false =>
    simp only [optN, cond_false]
    cases rdNs bs m e' with
    | none => rfl
    | some p => simp
theorem RfT.next {bs : List UInt8} {len n : Nat} {R : Option (List (List UInt8) × Nat)} {x : List (List UInt8) × Nat × Bool × Nat} (hlen : len = bs.length) (hI : RfI (rdTs bs) len n R x) (h : x.2.2.1 = false) (hn : x.2.2.2 < n) :
    RfI (rdTs bs) len n R (x.1 ++ [(inTs bs x.2.2.1 x.2.1).1], (inTs bs x.2.2.1 x.2.1).2.1, (inTs bs x.2.2.1 x.2.1).2.2, x.2.2.2 + 1) := by
  obtain ⟨acc, k, b, i⟩ := x
  obtain ⟨e, hi, hl, hk⟩ := hI
  simp only at e hi hl hk h hn ⊢
  subst h
  refine ⟨?_, by simp only; omega, by simp [hl], by subst hlen; exact inTs_le bs false k hk⟩
  rw [← e]
  obtain ⟨m, hm⟩ : ∃ m, n - i = m + 1 := ⟨n - i - 1, by omega⟩
  simp only [cond_false]
  rw [hm, show n - (i + 1) = m by omega, rdTs, inT_rdT]
  show (bif (inT bs k).2.2 then none else (rdTs bs m (inT bs k).2.1).map fun p => (acc ++ [(inT bs k).1] ++ p.1, p.2)) = _
  rcases inT bs k with ⟨v, e', b'⟩
  cases b' with
  | true => rfl
  | false =>
    simp only [optT, cond_false]
    cases rdTs bs m e' with
    | none => rfl
    | some p => simp
def toEnd {α : Type} (len : Nat) : Option (List α × Nat) → Option (List α)
  | some (vs, e) => bif decide (e = len) then some vs else none
  | none => none
theorem RfI.yes {α : Type} {rd : Nat → Nat → Option (List α × Nat)} {len n : Nat} {R : Option (List α × Nat)} {x : List α × Nat × Bool × Nat} {O : Option (List α)} (h0 : ∀ k, rd 0 k = some ([], k)) (hI : RfI rd len n R x) (hO : O = toEnd len R) (h : x.2.2.1 = false) (hn : n ≤ x.2.2.2) (hk : x.2.1 = len) : O = some x.1 := by
  rw [hO, hI.stop h0 h hn, toEnd, decide_eq_true hk]; rfl
theorem RfI.no {α : Type} {rd : Nat → Nat → Option (List α × Nat)} {len n : Nat} {R : Option (List α × Nat)} {x : List α × Nat × Bool × Nat} {O : Option (List α)} (h0 : ∀ k, rd 0 k = some ([], k)) (hI : RfI rd len n R x) (hO : O = toEnd len R) (hn : x.2.2.1 = false → n ≤ x.2.2.2) (hk : x.2.2.1 = false → ¬ x.2.1 = len) : O = none := by
  cases hb : x.2.2.1 with
  | true => rw [hO, hI.bad hb]; rfl
  | false => rw [hO, hI.stop h0 hb (hn hb), toEnd, decide_eq_false (hk hb)]; rfl
theorem rdTexts_end (bs : List UInt8) {n k : Nat} {b : Bool} (h : inC bs 4096 0 = (n, k, b)) : rdTexts bs = toEnd bs.length (bif b then none else rdTs bs n k) := by
  have h1 := inC_rdC bs 4096 0
  rw [show ((4096 : Nat) : Int) = 4096 from rfl, h] at h1
  unfold rdTexts
  rw [h1]
  cases b with
  | true => rfl
  | false =>
    simp only [optN, cond_false]
    cases rdTs bs n k <;> rfl
theorem refTexts_ok (B : List D) (bs : List UInt8) (hB : B = bs.map byteD) (hl : bs.length < 2 ^ 63) (O : Option (List (List UInt8))) (hO : rdTexts bs = O) :
    LocalCall Try.prog 52 [.d (.sl B)] [] [] (one [.d (.sl ((O.getD []).map tD)), .d (.int .i64 (errI O))]) [] := by
  have hlen : B.length = bs.length := by rw [hB]; simp
  rcases h0 : inC bs 4096 0 with ⟨n, k, b⟩
  have hn := inC_most bs 4096 0
  have hk := inC_le bs 4096 0 (Nat.zero_le _)
  have hc := inCnt_ok B bs hB 4096 0 (by omega) (Nat.zero_le _) hl _ h0
  rw [h0] at hn hk
  simp only at hn hk hc
  rw [rdTexts_end bs h0] at hO
  generalize hR : (bif b then none else rdTs bs n k) = R at hO
  have hI0 : RfI (rdTs bs) bs.length n R ([], k, b, 0) := ⟨by rw [← hR]; simp, Nat.zero_le _, rfl, hk⟩
  have hcl := local_ren [(9, 2008)] [(2008, 9)] hc rfl
  refine vc_fn mixed Try.func52 rfl rfl [(500002, [7001005])] (vzH rfl) ?_
  repeat' (first | ((with_reducible refine vzH ?_); first | decide +kernel | rfl) | (with_reducible refine vzC ?_; rfl) | (with_reducible first | (refine vzZ ?_; constructor) | refine vzC ?_ | refine vc_call [] hcl ?_ | refine vc_loopI 34 (fun (x : List (List UInt8) × Nat × Bool × Nat) => [(0, .d (.sl B)), (4, .ptr 2008 []), (5, .sl 7 [] 1 0 (x.1.map tD).length), (6, .d (.int .i64 (n : Int))), (7, .d (.int .i64 (x.2.2.2 : Int)))]) (fun x => [(2008, rIn B x.2.1 x.2.2.1), (7, .row 1 (x.1.map tD))]) (fun x => n - x.2.2.2) (RfI (rdTs bs) bs.length n R) ([], k, b, 0) [] ?_ ?_ ?_ ?_ ?_ (fun x hI => ?_) | refine vc_call [] (local_ren [(9, 2008)] [(2008, 9)] (inText_any B bs hB x.2.1 x.2.2.1 hI.hk hl) rfl) ?_ | refine vc_call [] (local_ren [(9, 2008)] [(2008, 9)] (inDone_ok B x.2.1 x.2.2.1) rfl) ?_ | refine vc_nextI (x.1 ++ [(inTs bs x.2.2.1 x.2.1).1], (inTs bs x.2.2.1 x.2.1).2.1, (inTs bs x.2.2.1 x.2.1).2.2, x.2.2.2 + 1) [(7, 8016)] ?_ ?_ ?_ ?_ ?_ ?_ | refine vc_ret [true] [] ?_ | refine vzB [] ?_ ?_ ?_ | refine vzD ?_ ?_ | refine vc_ret [] [] ?_) | ((with_reducible first | refine vzE (fun h => ?_) (fun h => ?_) | refine vzF (fun h => ?_) (fun h => ?_)) <;> try (exfalso; omega)) | ((with_reducible refine vzG (fun h => ?_) (fun h => ?_)) <;> (try simp at h) <;> try (exfalso; omega)) | ((conv in Vc _ => arg 1; whnf); first | (with_reducible refine vzC ?_; rfl) | (with_reducible first | (refine vzZ ?_; constructor) | refine vzC ?_ | refine vc_call [] hcl ?_ | refine vc_loopI 34 (fun (x : List (List UInt8) × Nat × Bool × Nat) => [(0, .d (.sl B)), (4, .ptr 2008 []), (5, .sl 7 [] 1 0 (x.1.map tD).length), (6, .d (.int .i64 (n : Int))), (7, .d (.int .i64 (x.2.2.2 : Int)))]) (fun x => [(2008, rIn B x.2.1 x.2.2.1), (7, .row 1 (x.1.map tD))]) (fun x => n - x.2.2.2) (RfI (rdTs bs) bs.length n R) ([], k, b, 0) [] ?_ ?_ ?_ ?_ ?_ (fun x hI => ?_) | refine vc_call [] (local_ren [(9, 2008)] [(2008, 9)] (inText_any B bs hB x.2.1 x.2.2.1 hI.hk hl) rfl) ?_ | refine vc_call [] (local_ren [(9, 2008)] [(2008, 9)] (inDone_ok B x.2.1 x.2.2.1) rfl) ?_ | refine vc_nextI (x.1 ++ [(inTs bs x.2.2.1 x.2.1).1], (inTs bs x.2.2.1 x.2.1).2.1, (inTs bs x.2.2.1 x.2.1).2.2, x.2.2.2 + 1) [(7, 8016)] ?_ ?_ ?_ ?_ ?_ ?_ | refine vc_ret [true] [] ?_ | refine vzB [] ?_ ?_ ?_ | refine vzD ?_ ?_ | refine vc_ret [] [] ?_) | ((with_reducible first | refine vzE (fun h => ?_) (fun h => ?_) | refine vzF (fun h => ?_) (fun h => ?_)) <;> try (exfalso; omega)) | ((with_reducible refine vzG (fun h => ?_) (fun h => ?_)) <;> (try simp at h) <;> try (exfalso; omega))))
  all_goals first
    | rfl
    | exact hI0
    | (simp only; omega)
    | (have hi := hI.hi
       congr 1; rw [wrap64_id (by omega) (by omega)]; simp only; omega)
    | exact RfT.next rfl hI (by assumption) (by omega)
    | (simp only [List.drop_zero, List.take_length]; rw [tD_app]; done)
    | (have hll := hI.hl
       have hi := hI.hi
       refine ⟨⟨by simp, by first | trivial | rfl, room24 rfl ?_⟩, fun y hy => ?_⟩
       · rw [List.length_append, List.length_map]
         show x.1.length + 1 ≤ 4096
         omega
       · simp only [List.drop_zero, List.take_length, List.mem_singleton] at hy; subst hy; rfl)
    | exact ⟨trivial, trivial, trivial⟩
    | exact ⟨Nat.le_of_eq (Nat.zero_add _), trivial⟩
    | (have e : O = none := hI.no (fun _ => rfl) hO.symm (fun hb => by first | omega | (exfalso; simp_all; done)) (fun hb => by
         rcases h with h | h
         · exfalso; simp_all
         · exact fun e2 => h (by omega))
       subst e; rfl)
    | (have e : O = some x.1 := hI.yes (fun _ => rfl) hO.symm h.1 (by first | omega | (exfalso; simp_all; done)) (by omega)
       subst e
       first
       | rfl
       | (rw [List.drop_zero, List.take_length]; rfl))
    | fail
end Go.Proofs.Ytjgkngjeniameaa

namespace Go.Proofs.Ytjgkngjeniameaa
open Go.Sym
set_option maxRecDepth 10000
set_option maxHeartbeats 1000000
theorem rTexts_any (bs : List UInt8) (hl : bs.length < 2 ^ 63) :
    LocalCall Try.prog 50 [.d (.sl (bs.map byteD))] [] [] (one [.d (.sl (((rdTexts bs).getD []).map tD)), .d (.int .i64 (errI (rdTexts bs)))]) [] := by
  cases h : rdTexts bs with
  | none => exact rTexts_no _ bs rfl h hl
  | some vs => exact rTexts_yes _ bs rfl vs h hl
theorem refTexts_any (bs : List UInt8) (hl : bs.length < 2 ^ 63) :
    LocalCall Try.prog 52 [.d (.sl (bs.map byteD))] [] [] (one [.d (.sl (((rdTexts bs).getD []).map tD)), .d (.int .i64 (errI (rdTexts bs)))]) [] := refTexts_ok _ bs rfl hl _ rfl
theorem textsB_len (vs : List (List UInt8)) (h : ∀ v, v ∈ vs → v.length < 2 ^ 64) : (textsB vs).length ≤ 10 * vs.length + vs.flatten.length := by
  induction vs with
  | nil => simp [textsB]
  | cons v vs ih =>
    have := ih (fun w hw => h w (by simp [hw]))
    have h1 := numB_le10 (h v (by simp))
    simp only [textsB, textB, List.flatMap_cons, List.length_append, List.length_cons, List.flatten_cons] at this ⊢
    omega
theorem encT_len {vs : List (List UInt8)} (h : ∀ v, v ∈ vs → v.length < 2 ^ 64) (hl : vs.length < 2 ^ 64) : (encT vs).length ≤ 10 * vs.length + 10 + vs.flatten.length := by
  have := textsB_len vs h
  have h1 := numB_le10 hl
  unfold encT
  rw [List.length_append]; omega
theorem refTs_ok (vs : List (List UInt8)) (hl : vs.length < 2 ^ 63) (hroom : Room (encT vs).length 1) :
    LocalCall Try.prog 43 [.d (.sl (vs.map tD))] [] [] (one [.d (.sl ((encT vs).map byteD))]) [] := by
  have lx : (vs.map tD).length = vs.length := List.length_map _
  have hR : ∀ i, i < vs.length → Room ((numB vs.length ++ textsB (vs.take i)).map byteD ++ (textB (vs.getD i [])).map byteD).length 1 := fun i hi => by
    refine room_le hroom rfl ?_
    have h2 := congrArg List.length (textsB_take vs hi)
    have h3 := textsB_sub vs (i + 1)
    simp only [encT, List.length_append, List.length_map] at h2 ⊢
    omega
  have hnum : ∀ i, i < vs.length → LocalCall Try.prog 59 [.d ((vs.map tD).getD i .nilp)] [] [] (one [.d (.sl ((textB (vs.getD i [])).map byteD))]) [] := fun i hi => by
    rw [(map_at (f := tD) (d := []) hi).1]
    refine rText_b _ (room_le (hR i hi) rfl ?_)
    simp only [List.length_append, List.length_map]; omega
  refine vc_fn mixed Try.func43 rfl rfl [] (vzH rfl) ?_
  repeat' (first | ((with_reducible refine vzH ?_); first | decide +kernel | rfl) | (with_reducible refine vzC ?_; rfl) | (with_reducible first | (refine vzZ ?_; constructor) | refine vzC ?_ | refine vc_callU (rNum_own _ vs.length (by rw [lx, wrapU64_id (by omega) (by omega)]) (by omega)) ?_ ?_ | refine vc_loopI 23 (fun (i : Nat) => [(0, .d (.sl (vs.map tD))), (3, .sl 2 [] 1 0 ((numB vs.length ++ textsB (vs.take i)).map byteD).length), (4, .d (.int .i64 (i : Int)))]) (fun i => [(2, .row 1 ((numB vs.length ++ textsB (vs.take i)).map byteD))]) (fun i => vs.length - i) (fun i => i ≤ vs.length) 0 [] ?_ ?_ ?_ ?_ ?_ (fun i hI => ?_) | refine vc_call [] (hnum i (by omega)) ?_ | refine vc_nextI (i + 1) [(2, 6024)] ?_ ?_ ?_ ?_ ?_ ?_ | refine vc_ret [true] [] ?_ | refine vzB [] ?_ ?_ ?_ | refine vzD ?_ ?_ | refine vc_ret [] [] ?_) | ((with_reducible first | refine vzE (fun h => ?_) (fun h => ?_) | refine vzF (fun h => ?_) (fun h => ?_)) <;> try (exfalso; omega)) | ((with_reducible refine vzG (fun h => ?_) (fun h => ?_)) <;> (try simp at h) <;> try (exfalso; omega)) | ((conv in Vc _ => arg 1; whnf); first | (with_reducible refine vzC ?_; rfl) | (with_reducible first | (refine vzZ ?_; constructor) | refine vzC ?_ | refine vc_callU (rNum_own _ vs.length (by rw [lx, wrapU64_id (by omega) (by omega)]) (by omega)) ?_ ?_ | refine vc_loopI 23 (fun (i : Nat) => [(0, .d (.sl (vs.map tD))), (3, .sl 2 [] 1 0 ((numB vs.length ++ textsB (vs.take i)).map byteD).length), (4, .d (.int .i64 (i : Int)))]) (fun i => [(2, .row 1 ((numB vs.length ++ textsB (vs.take i)).map byteD))]) (fun i => vs.length - i) (fun i => i ≤ vs.length) 0 [] ?_ ?_ ?_ ?_ ?_ (fun i hI => ?_) | refine vc_call [] (hnum i (by omega)) ?_ | refine vc_nextI (i + 1) [(2, 6024)] ?_ ?_ ?_ ?_ ?_ ?_ | refine vc_ret [true] [] ?_ | refine vzB [] ?_ ?_ ?_ | refine vzD ?_ ?_ | refine vc_ret [] [] ?_) | ((with_reducible first | refine vzE (fun h => ?_) (fun h => ?_) | refine vzF (fun h => ?_) (fun h => ?_)) <;> try (exfalso; omega)) | ((with_reducible refine vzG (fun h => ?_) (fun h => ?_)) <;> (try simp at h) <;> try (exfalso; omega))))
  all_goals first
    | rfl
    | omega
    | (simp [textsB]; done)
    | (rw [Int.toNat_natCast, (map_at (f := tD) (d := []) (show i < vs.length by omega)).1]; first | rfl | exact ⟨⟨by omega, by omega⟩, rfl⟩)
    | exact ⟨⟨trivial, trivial, hR i (by omega)⟩, size_bytes _⟩
    | exact ⟨⟨trivial, rfl, hR i (by omega)⟩, size_bytes _⟩
    | (rw [← List.map_append, List.append_assoc, textsB_take vs (by omega)]; done)
    | (congr 1; rw [wrap64_id (by omega) (by omega)]; omega)
    | (obtain rfl : i = vs.length := by omega
       exact ⟨Nat.le_of_eq (Nat.zero_add _), trivial⟩)
    | (obtain rfl : i = vs.length := by omega
       rw [List.drop_zero, List.take_length, List.take_length]; rfl)
theorem texts_any (vs : List (List UInt8)) (hroom : Room (encT vs).length 1) :
    LocalCall Try.prog 49 [.d (.sl (vs.map tD))] [] [] (one [.d (.sl ((encT vs).map byteD))]) [] := texts_ok _ vs rfl hroom
end Go.Proofs.Ytjgkngjeniameaa

namespace Go.Proofs.Ytjgkngjeniameaa
open Go.Sym
set_option maxRecDepth 10000
set_option maxHeartbeats 8000000
end Go.Proofs.Ytjgkngjeniameaa

namespace Go.Proofs.Ytjgkngjeniameaa
open Go.Sym
set_option maxRecDepth 10000
set_option maxHeartbeats 1000000
structure Evd where
  trunk : List Sgn
  a : Sgn
  b : Sgn
instance : DecidableEq Evd := fun x y => if h : x.trunk = y.trunk ∧ x.a = y.a ∧ x.b = y.b then isTrue (by cases x; cases y; simp_all) else isFalse (by rintro rfl; exact h ⟨rfl, rfl, rfl⟩)
abbrev eD (e : Evd) : D := .st [.sl (e.trunk.map sD), sD e.a, sD e.b]
def e0 : Evd := ⟨[], s0, s0⟩
structure wfE (e : Evd) : Prop where
  trunk : ∀ s, s ∈ e.trunk → wfS s
  a : wfS e.a
  b : wfS e.b
theorem wfS_0 : wfS s0 := ⟨by decide, rfl, rfl, rfl⟩
theorem wf_e0 : wfE e0 := ⟨nofun, wfS_0, wfS_0⟩
theorem evd_ext (x y : Evd) : x = y ↔ x.trunk = y.trunk ∧ x.a = y.a ∧ x.b = y.b := ⟨fun h => by subst h; exact ⟨rfl, rfl, rfl⟩, fun h => by cases x; cases y; simp_all⟩
abbrev hdP (pin : List UInt8) : Hd := ⟨0, zero32, pin⟩
theorem wf_hdP {pin : List UInt8} (h : pin.length = 32) : wfH (hdP pin) := ⟨by show (0 : Nat) < _; decide, rfl, h⟩
def okE (pin : List UInt8) (e : Evd) : Bool :=
  decide ((walk (hdP pin) e.trunk).2.2 = 0) && (decide (folE (walk (hdP pin) e.trunk).1 e.a = 0) && (decide (folE (walk (hdP pin) e.trunk).1 e.b = 0) && !decide (e.a.root = e.b.root)))
def chkE (pin : List UInt8) (e : Evd) : Int := bif okE pin e then 0 else 15
theorem okE_iff {pin : List UInt8} {e : Evd} : okE pin e = true ↔ (walk (hdP pin) e.trunk).2.2 = 0 ∧ folE (walk (hdP pin) e.trunk).1 e.a = 0 ∧ folE (walk (hdP pin) e.trunk).1 e.b = 0 ∧ ¬ e.a.root = e.b.root := by
  unfold okE
  simp only [Bool.and_eq_true, Bool.not_eq_true', decide_eq_true_eq, decide_eq_false_iff_not]
theorem chkE_yes {pin : List UInt8} {e : Evd} (h : okE pin e = true) : chkE pin e = 0 := by unfold chkE; rw [h]; rfl
theorem chkE_no {pin : List UInt8} {e : Evd} (h : ¬ okE pin e = true) : chkE pin e = 15 := by unfold chkE; rw [Bool.eq_false_iff.2 h]; rfl
theorem chkE_ok {pin : List UInt8} {e : Evd} (h : chkE pin e = 0) : okE pin e = true := by
  by_cases hb : okE pin e = true
  · exact hb
  · rw [chkE_no hb] at h; cases h
def evL (e : Evd) : List Sgn := e.trunk ++ [e.a, e.b]
def evB (e : Evd) : List UInt8 := encT ((evL e).map sgnB)
def mkE (l : List Sgn) : Evd := ⟨l.take (l.length - 2), l.getD (l.length - 2) s0, l.getD (l.length - 1) s0⟩
theorem mkE_evL (e : Evd) : mkE (evL e) = e := by
  have h : (evL e).length = e.trunk.length + 2 := by simp [evL]
  unfold mkE
  rw [h, show e.trunk.length + 2 - 2 = e.trunk.length by omega, show e.trunk.length + 2 - 1 = e.trunk.length + 1 by omega]
  rw [evd_ext]
  refine ⟨?_, ?_, ?_⟩
  · simp [evL]
  · simp [evL, List.getD_eq_getElem?_getD]
  · simp [evL, List.getD_eq_getElem?_getD]
theorem evL_mkE {l : List Sgn} (h : 2 ≤ l.length) : evL (mkE l) = l := by
  unfold evL mkE
  show l.take (l.length - 2) ++ [l.getD (l.length - 2) s0, l.getD (l.length - 1) s0] = l
  rw [List.getD_eq_getElem?_getD, List.getD_eq_getElem?_getD, List.getElem?_eq_getElem (show l.length - 2 < l.length by omega), List.getElem?_eq_getElem (show l.length - 1 < l.length by omega)]
  have h1 := List.drop_eq_getElem_cons (show l.length - 2 < l.length by omega)
  have h2 := List.drop_eq_getElem_cons (show l.length - 2 + 1 < l.length by omega)
  have h3 : l.drop (l.length - 2 + 1 + 1) = [] := List.drop_eq_nil_of_le (by omega)
  have e1 : l[l.length - 1]'(by omega) = l[l.length - 2 + 1]'(by omega) := by congr 1; omega
  show l.take (l.length - 2) ++ [l[l.length - 2]'(by omega), l[l.length - 1]'(by omega)] = l
  rw [e1]
  conv => rhs; rw [← List.take_append_drop (l.length - 2) l, h1, h2, h3]
theorem evL_wf {e : Evd} (h : wfE e) : ∀ s, s ∈ evL e → wfS s := fun s hs => by
  rcases List.mem_append.1 hs with hs | hs
  · exact h.1 s hs
  · simp only [List.mem_cons, List.not_mem_nil, or_false] at hs
    rcases hs with rfl | rfl
    · exact h.2
    · exact h.3
theorem mkE_wf {l : List Sgn} (hl : 2 ≤ l.length) (h : ∀ s, s ∈ l → wfS s) : wfE (mkE l) := by
  have key : ∀ i, i < l.length → wfS (l.getD i s0) := fun i hi => h _ (by rw [List.getD_eq_getElem?_getD, List.getElem?_eq_getElem hi]; simp)
  exact ⟨fun s hs => h s (List.mem_of_mem_take hs), key _ (by omega), key _ (by omega)⟩
def rdS (t : List UInt8) : Option Sgn := toFin t.length (rdSgn t)
def rdSs : List (List UInt8) → Option (List Sgn)
  | [] => some []
  | t :: ts => (rdS t).bind fun s => (rdSs ts).map fun l => s :: l
def gotL (ts : List (List UInt8)) (i : Nat) : List Sgn := (ts.take i).map fun t => (rdS t).getD s0
theorem gotL_length {ts : List (List UInt8)} {i : Nat} (h : i ≤ ts.length) : (gotL ts i).length = i := by
  unfold gotL
  rw [List.length_map, List.length_take]; omega
theorem gotL_succ {ts : List (List UInt8)} {i : Nat} (h : i < ts.length) : gotL ts (i + 1) = gotL ts i ++ [(rdS (ts.getD i [])).getD s0] := by
  unfold gotL
  rw [List.take_add_one, List.getElem?_eq_getElem h, List.map_append, List.getD_eq_getElem?_getD, List.getElem?_eq_getElem h]; rfl
theorem rdSs_all {ts : List (List UInt8)} (h : ∀ j, j < ts.length → (rdS (ts.getD j [])).isSome = true) : rdSs ts = some (gotL ts ts.length) := by
  induction ts with
  | nil => rfl
  | cons t ts ih =>
    have h0 := h 0 (by simp)
    have h1 := ih fun j hj => by simpa using h (j + 1) (by simpa using hj)
    obtain ⟨s, hs⟩ := Option.isSome_iff_exists.1 h0
    have hs : rdS t = some s := hs
    simp only [rdSs, hs, h1, Option.bind_some, Option.map_some, gotL, List.length_cons, List.take_succ_cons, List.map_cons, Option.getD_some]
theorem rdSs_bad {ts : List (List UInt8)} {j : Nat} (hj : j < ts.length) (h : rdS (ts.getD j []) = none) : rdSs ts = none := by
  induction ts generalizing j with
  | nil => simp at hj
  | cons t ts ih =>
    cases j with
    | zero =>
      have h : rdS t = none := h
      simp only [rdSs, h, Option.bind_none]
    | succ j =>
      have := ih (j := j) (by simpa using hj) (by simpa using h)
      simp only [rdSs, this, Option.map_none]
      cases rdS t <;> rfl
theorem rdSs_some {ts : List (List UInt8)} {l : List Sgn} (h : rdSs ts = some l) : ts = l.map sgnB ∧ ∀ s, s ∈ l → wfS s ∧ s.sig.length ≤ 1048576 := by
  induction ts generalizing l with
  | nil => cases h; exact ⟨rfl, nofun⟩
  | cons t ts ih =>
    unfold rdSs at h
    cases hs : rdS t with
    | none => rw [hs] at h; cases h
    | some s =>
      cases hl : rdSs ts with
      | none => rw [hs, hl] at h; cases h
      | some l' =>
        rw [hs, hl] at h
        cases h
        obtain ⟨h1, h2⟩ := ih hl
        obtain ⟨k1, k2, k3⟩ := sgn_one hs
        refine ⟨by rw [List.map_cons, ← h1, k1], fun x hx => ?_⟩
        rcases List.mem_cons.1 hx with rfl | hx
        · exact ⟨k2, k3⟩
        · exact h2 x hx
theorem rdSs_back {l : List Sgn} (h : ∀ s, s ∈ l → wfS s ∧ s.sig.length ≤ 1048576) : rdSs (l.map sgnB) = some l := by
  induction l with
  | nil => rfl
  | cons s l ih =>
    have hs := h s (by simp)
    have h1 : rdS (sgnB s) = some s := sgn_back hs.1 hs.2
    simp only [List.map_cons, rdSs, h1, ih (fun x hx => h x (by simp [hx])), Option.bind_some, Option.map_some]
theorem textB_le (t : List UInt8) (h : t.length < 2 ^ 64) : (textB t).length ≤ t.length + 10 := by
  have h1 := numB_len_le 10 t.length (Nat.lt_of_lt_of_le h (by decide)) (by decide)
  unfold textB
  rw [List.length_append]; omega
theorem sgnB_le {s : Sgn} (hw : wfS s) (h : s.sig.length < 2 ^ 64) : (sgnB s).length ≤ s.sig.length + 116 := by
  have h1 := numB_len_le 10 s.root.epoch (Nat.lt_of_lt_of_le hw.1 (by decide)) (by decide)
  have h2 := textB_le s.sig h
  unfold sgnB
  simp only [List.length_append, List.flatten_cons, List.flatten_nil, List.length_nil, hw.2, hw.3, hw.4]
  omega
def rdE (bs : List UInt8) : Option Evd := (rdTexts bs).bind fun ts => bif decide (2 ≤ ts.length ∧ ts.length ≤ 65) then (rdSs ts).map mkE else none
theorem rdE_some {bs : List UInt8} {e : Evd} (h : rdE bs = some e) : evB e = bs ∧ wfE e ∧ e.trunk.length ≤ 63 ∧ ∀ s, s ∈ evL e → s.sig.length ≤ 1048576 := by
  unfold rdE at h
  cases ht : rdTexts bs with
  | none => rw [ht] at h; cases h
  | some ts =>
    rw [ht] at h
    replace h : (bif decide (2 ≤ ts.length ∧ ts.length ≤ 65) then (rdSs ts).map mkE else none) = some e := h
    by_cases hn : 2 ≤ ts.length ∧ ts.length ≤ 65
    · rw [decide_eq_true hn, cond_true] at h
      cases hl : rdSs ts with
      | none => rw [hl] at h; cases h
      | some l =>
        rw [hl] at h
        cases h
        obtain ⟨h1, h2⟩ := rdSs_some hl
        have hlen : l.length = ts.length := by rw [h1, List.length_map]
        have h3 := (rdTexts_iff.1 ht).1
        refine ⟨?_, mkE_wf (by omega) fun s hs => (h2 s hs).1, ?_, fun s hs => ?_⟩
        · unfold evB
          rw [evL_mkE (by omega), ← h1, ← h3]
        · show (l.take (l.length - 2)).length ≤ 63
          rw [List.length_take]; omega
        · rw [evL_mkE (by omega)] at hs; exact (h2 s hs).2
    · rw [decide_eq_false hn, cond_false] at h; cases h
theorem rdE_back {e : Evd} (hw : wfE e) (hn : e.trunk.length ≤ 63) (hs : ∀ s, s ∈ evL e → s.sig.length ≤ 1048000) : rdE (evB e) = some e := by
  have h1 : rdTexts (evB e) = some ((evL e).map sgnB) := by
    rw [rdTexts_iff]
    refine ⟨rfl, by rw [List.length_map]; simp [evL]; omega, fun t ht => ?_⟩
    obtain ⟨s, hs2, rfl⟩ := List.mem_map.1 ht
    have := sgnB_le (evL_wf hw s hs2) (Nat.lt_of_le_of_lt (hs s hs2) (by decide))
    have := hs s hs2
    omega
  have h2 : ((evL e).map sgnB).length = e.trunk.length + 2 := by simp [evL]
  unfold rdE
  rw [h1, Option.bind_some, h2, decide_eq_true (by omega), cond_true, rdSs_back (fun s h => ⟨evL_wf hw s h, Nat.le_trans (hs s h) (by decide)⟩), Option.map_some, mkE_evL]
theorem walk_epoch : ∀ (l : List Sgn) (g : Hd), (walk g l).2.2 = 0 → (walk g l).1.epoch = g.epoch + l.length
  | [], g, _ => rfl
  | s :: l, g, h => by
    by_cases he : folE g s = 0
    · simp only [walk, he, decide_true, cond_true] at h ⊢
      have h1 := walk_epoch l _ h
      have h2 := (folE_yes he).2.1
      show (walk (folY s) l).1.epoch = _
      rw [h1]
      show s.root.epoch + l.length = _
      rw [h2, List.length_cons]; omega
    · simp only [walk, decide_eq_false he, cond_false] at h
      exact absurd h he
theorem walk_sig : ∀ (l : List Sgn) (g : Hd), (walk g l).2.2 = 0 → ∀ s, s ∈ l → s.sig.length = 16384
  | [], g, _, s, hs => by cases hs
  | t :: l, g, h, s, hs => by
    by_cases he : folE g t = 0
    · simp only [walk, he, decide_true, cond_true] at h
      rcases List.mem_cons.1 hs with rfl | hs
      · exact fol_sig he
      · exact walk_sig l _ h s hs
    · simp only [walk, decide_eq_false he, cond_false] at h
      exact absurd h he
where
  fol_sig {g : Hd} {s : Sgn} (h : folE g s = 0) : s.sig.length = 16384 := by
    have h := (folE_yes h).2.2.2
    unfold checkE at h
    by_cases hs : s.sig.length = 16384
    · exact hs
    · rw [decide_eq_false hs, Bool.false_and, cond_false] at h; cases h
theorem okE_small {pin : List UInt8} {e : Evd} (h : okE pin e = true) : e.trunk.length ≤ 63 ∧ ∀ s, s ∈ evL e → s.sig.length ≤ 1048000 := by
  obtain ⟨h1, h2, h3, _⟩ := okE_iff.1 h
  have h4 := walk_epoch e.trunk (hdP pin) h1
  have h5 := (folE_yes h2).1
  have h6 : (hdP pin).epoch = 0 := rfl
  refine ⟨by omega, fun s hs => ?_⟩
  rcases List.mem_append.1 hs with hs | hs
  · rw [walk_sig _ _ h1 s hs]; decide
  · simp only [List.mem_cons, List.not_mem_nil, or_false] at hs
    rcases hs with rfl | rfl
    · rw [walk_sig.fol_sig h2]; decide
    · rw [walk_sig.fol_sig h3]; decide
def partF (l m : List Sgn) : Option Nat := (List.range (min l.length m.length)).find? fun i => !decide ((l.getD i s0).root = (m.getD i s0).root)
theorem partF_none {l m : List Sgn} {i : Nat} (hi : l.length ≤ i ∨ m.length ≤ i) (h : ∀ j, j < i → (l.getD j s0).root = (m.getD j s0).root) : partF l m = none := by
  unfold partF
  rw [List.find?_range_eq_none]
  intro j hj
  rw [decide_eq_true (h j (by omega))]; rfl
theorem partF_some {l m : List Sgn} {i : Nat} (ha : i < l.length) (hb : i < m.length) (h : ∀ j, j < i → (l.getD j s0).root = (m.getD j s0).root) (hp : ¬ (l.getD i s0).root = (m.getD i s0).root) : partF l m = some i := by
  unfold partF
  rw [List.find?_range_eq_some]
  exact ⟨by rw [decide_eq_false hp]; rfl, List.mem_range.2 (by omega), fun j hj => by rw [decide_eq_true (h j hj)]; rfl⟩
theorem partF_at {l m : List Sgn} {i : Nat} (h : partF l m = some i) : i < l.length ∧ i < m.length ∧ ¬ (l.getD i s0).root = (m.getD i s0).root ∧ ∀ j, j < i → (l.getD j s0).root = (m.getD j s0).root := by
  unfold partF at h
  rw [List.find?_range_eq_some] at h
  obtain ⟨h1, h2, h3⟩ := h
  have := List.mem_range.1 h2
  exact ⟨by omega, by omega, by simpa using h1, fun j hj => by simpa using h3 j hj⟩
def evAt (l m : List Sgn) (i : Nat) : Evd := ⟨l.take i, l.getD i s0, m.getD i s0⟩
def findF (pin : List UInt8) (l m : List Sgn) : Option Nat := (partF l m).bind fun i => bif okE pin (evAt l m i) then some i else none
theorem findF_none {pin : List UInt8} {l m : List Sgn} (h : partF l m = none) : findF pin l m = none := by unfold findF; rw [h]; rfl
theorem findF_no {pin : List UInt8} {l m : List Sgn} {i : Nat} (h : partF l m = some i) (h2 : ¬ okE pin (evAt l m i) = true) : findF pin l m = none := by unfold findF; rw [h, Option.bind_some, Bool.eq_false_iff.2 h2]; rfl
theorem findF_yes {pin : List UInt8} {l m : List Sgn} {i : Nat} (h : partF l m = some i) (h2 : okE pin (evAt l m i) = true) : findF pin l m = some i := by unfold findF; rw [h, Option.bind_some, h2]; rfl
theorem findF_at {pin : List UInt8} {l m : List Sgn} {i : Nat} (h : findF pin l m = some i) : partF l m = some i ∧ okE pin (evAt l m i) = true := by
  unfold findF at h
  cases hp : partF l m with
  | none => rw [hp] at h; cases h
  | some j =>
    rw [hp, Option.bind_some] at h
    by_cases ho : okE pin (evAt l m j) = true
    · rw [ho, cond_true] at h; cases h; exact ⟨rfl, ho⟩
    · rw [Bool.eq_false_iff.2 ho, cond_false] at h; cases h
theorem evAt_wf {l m : List Sgn} (hl : ∀ s, s ∈ l → wfS s) (hm : ∀ s, s ∈ m → wfS s) (i : Nat) : wfE (evAt l m i) := by
  have key : ∀ (l : List Sgn), (∀ s, s ∈ l → wfS s) → wfS (l.getD i s0) := fun l h => by
    rw [List.getD_eq_getElem?_getD]
    by_cases hi : i < l.length
    · rw [List.getElem?_eq_getElem hi]; exact h _ (List.getElem_mem hi)
    · rw [List.getElem?_eq_none (by omega)]; exact wfS_0
  exact ⟨fun s hs => hl s (List.mem_of_mem_take hs), key l hl, key m hm⟩
theorem walk_same : ∀ (i : Nat) (l m : List Sgn) (g : Hd), i ≤ l.length → i ≤ m.length → (∀ j, j < i → (l.getD j s0).root = (m.getD j s0).root) → (walk g (l.take i)).2.2 = 0 → (walk g (m.take i)).2.2 = 0 → (walk g (l.take i)).1 = (walk g (m.take i)).1
  | 0, l, m, g, _, _, _, _, _ => by simp [walk]
  | i + 1, [], m, g, h, _, _, _, _ => by simp at h
  | i + 1, s :: l, [], g, _, h, _, _, _ => by simp at h
  | i + 1, s :: l, t :: m, g, hl, hm, h, h1, h2 => by
    have he : s.root = t.root := by simpa using h 0 (by omega)
    simp only [List.take_succ_cons] at h1 h2 ⊢
    by_cases es : folE g s = 0
    · by_cases et : folE g t = 0
      · simp only [walk, es, et, decide_true, cond_true] at h1 h2 ⊢
        have hy : folY s = folY t := by unfold folY; rw [he]
        rw [hy] at h1 ⊢
        exact walk_same i l m (folY t) (by simpa using hl) (by simpa using hm) (fun j hj => by simpa using h (j + 1) (by omega)) h1 h2
      · simp only [walk, decide_eq_false et, cond_false] at h2; exact absurd h2 et
    · simp only [walk, decide_eq_false es, cond_false] at h1; exact absurd h1 es
theorem walk_take {g : Hd} {l : List Sgn} (h : (walk g l).2.2 = 0) {i : Nat} (hi : i < l.length) : (walk g (l.take i)).2.2 = 0 ∧ folE (walk g (l.take i)).1 (l.getD i s0) = 0 := by
  have h1 := walk_append (l.take i) (l.drop i) g
  rw [List.take_append_drop] at h1
  by_cases h2 : (walk g (l.take i)).2.2 = 0
  · refine ⟨h2, ?_⟩
    rw [decide_eq_true h2, cond_true] at h1
    rw [h1] at h
    have e : l.drop i = l.getD i s0 :: l.drop (i + 1) := by
      rw [List.drop_eq_getElem_cons hi, List.getD_eq_getElem?_getD, List.getElem?_eq_getElem hi]; rfl
    replace h : (walk (walk g (l.take i)).1 (l.drop i)).2.2 = 0 := h
    rw [e] at h
    by_cases he : folE (walk g (l.take i)).1 (l.getD i s0) = 0
    · exact he
    · simp only [walk, decide_eq_false he, cond_false] at h
      exact absurd h he
  · rw [decide_eq_false h2, cond_false] at h1
    rw [h1] at h; exact absurd h h2
theorem walk_short {g : Hd} {l : List Sgn} (h : (walk g l).2.2 = 0) : l.length ≤ 64 := by
  refine Nat.le_of_not_lt fun h2 => ?_
  obtain ⟨h3, h4⟩ := walk_take h (i := 64) h2
  have h5 := walk_epoch _ _ h3
  have h6 := (folE_yes h4).1
  rw [List.length_take] at h5
  omega
theorem find_law {pin : List UInt8} {l m : List Sgn} (hl : (walk (hdP pin) l).2.2 = 0) (hm : (walk (hdP pin) m).2.2 = 0) : findF pin l m = partF l m := by
  cases hp : partF l m with
  | none => exact findF_none hp
  | some i =>
    obtain ⟨h1, h2, h3, h4⟩ := partF_at hp
    obtain ⟨a1, a2⟩ := walk_take hl h1
    obtain ⟨b1, b2⟩ := walk_take hm h2
    refine findF_yes hp (okE_iff.2 ⟨a1, a2, ?_, h3⟩)
    have e := walk_same i l m (hdP pin) (by omega) (by omega) h4 a1 b1
    show folE (walk (hdP pin) (l.take i)).1 (m.getD i s0) = 0
    rw [e]; exact b2
end Go.Proofs.Ytjgkngjeniameaa

namespace Go.Proofs.Ytjgkngjeniameaa
open Go.Sym
set_option maxRecDepth 100000
theorem evd_of {n : Nat} {x : D} (h : okD Try.prog (n + 7) 32 x) : ∃ e : Evd, x = eD e ∧ wfE e := by
  have hu : ∃ fs, Try.prog.underlying 32 = some (.struct fs) ∧ fs.toList.map (·.type) = [24, 30, 30] := ⟨_, rfl, rfl⟩
  obtain ⟨fs, hu, ht⟩ := hu
  rw [show n + 7 = (n + 6) + 1 from rfl, okD, hu] at h
  obtain ⟨xs, rfl, hx⟩ := h
  rw [ht] at hx
  obtain ⟨t, a, b, rfl, h0, h1, h2⟩ := okAll3 hx
  obtain ⟨l, rfl, hl, _⟩ := sgns_of (n := n) h0
  obtain ⟨s, rfl, hs⟩ := sgn_of (n := n + 1) h1
  obtain ⟨u, rfl, hv⟩ := sgn_of (n := n + 1) h2
  exact ⟨⟨l, s, u⟩, rfl, hl, hs, hv⟩
theorem bulk_sgns : ∀ (l : List Sgn) (s : Sgn), s ∈ l → s.sig.length ≤ D.bulks (l.map sD)
  | t :: l, s, h => by
    simp only [List.map_cons, D.bulks]
    rcases List.mem_cons.1 h with rfl | h
    · have := bulk_sgn s; omega
    · have := bulk_sgns l s h; omega
theorem bulk_evd (e : Evd) : ∀ s, s ∈ evL e → s.sig.length ≤ (eD e).bulk := fun s hs => by
  have h1 := bulk_sgn e.a
  have h2 := bulk_sgn e.b
  simp only [D.bulk, D.bulks] at h1 h2 ⊢
  rcases List.mem_append.1 hs with hs | hs
  · have := bulk_sgns e.trunk s hs; omega
  · simp only [List.mem_cons, List.not_mem_nil, or_false] at hs
    rcases hs with rfl | rfl
    · omega
    · omega
end Go.Proofs.Ytjgkngjeniameaa

namespace Go.Proofs.Ytjgkngjeniameaa
open Go.Sym
set_option maxRecDepth 10000
set_option maxHeartbeats 4000000
theorem rtNo {a b : Rt} (h : (bif false then !(D.beq (rootD a) (rootD b)) else D.beq (rootD a) (rootD b)) = true) : a = b := by
  have h2 : D.beq (rootD a) (rootD b) = true := h
  rw [beq_root] at h2
  exact of_decide_eq_true h2
theorem rtOff {a b : Rt} (h : (bif false then !(D.beq (rootD a) (rootD b)) else D.beq (rootD a) (rootD b)) = false) : ¬ a = b := by
  have h2 : D.beq (rootD a) (rootD b) = false := h
  rw [beq_root] at h2
  exact of_decide_eq_false h2
theorem two_len {x y : D} : [x, y].length = 2 := rfl
theorem two_at (a b : Sgn) {i : Nat} (h : i < 2) : [sD a, sD b].getD i .nilp = sD ([a, b].getD i s0) := by
  match i, h with
  | 0, _ => rfl
  | 1, _ => rfl
theorem two_i {i : Nat} (h : i < 2) : i = 0 ∨ i = 1 := by omega
theorem fol_more {g : Hd} {l : List Sgn} {i : Nat} (h : ∀ j, j < i → folE g (l.getD j s0) = 0) (hp : folE g (l.getD i s0) = 0) : ∀ j, j < i + 1 → folE g (l.getD j s0) = 0 := fun j hj => by
  by_cases e : j = i
  · subst e; exact hp
  · exact h j (by omega)
theorem chk15 {pin : List UInt8} {e : Evd} (h : ¬ (walk (hdP pin) e.trunk).2.2 = 0 ∨ e.a.root = e.b.root ∨ ¬ folE (walk (hdP pin) e.trunk).1 e.a = 0 ∨ ¬ folE (walk (hdP pin) e.trunk).1 e.b = 0) : chkE pin e = 15 := by
  refine chkE_no fun k => ?_
  obtain ⟨h1, h2, h3, h4⟩ := okE_iff.1 k
  rcases h with h | h | h | h
  · exact h h1
  · exact h4 h
  · exact h h2
  · exact h h3
section
variable (pin : List UInt8) (hp : pin.length = 32) (e : Evd) (hw : wfE e) (hl : e.trunk.length < 2 ^ 63)
include hp hw hl
theorem echeck_ok : LocalCall Try.prog 28 [.d (digD pin), .d (eD e)] [] [] (one [.d (.int .i64 (chkE pin e))]) [] := by
  have c0 := start_ok pin
  have c1 := walk_ok (hdP pin) e.trunk (wf_hdP hp) hw.1 hl
  have wg : wfH (walk (hdP pin) e.trunk).1 := walk_wf _ _ (wf_hdP hp) hw.1
  have k15 : _ → chkE pin e = 15 := chk15 (pin := pin) (e := e)
  have k0 : (walk (hdP pin) e.trunk).2.2 = 0 → ¬ e.a.root = e.b.root → folE (walk (hdP pin) e.trunk).1 e.a = 0 → folE (walk (hdP pin) e.trunk).1 e.b = 0 → chkE pin e = 0 := fun h1 h2 h3 h4 => chkE_yes (okE_iff.2 ⟨h1, h3, h4, h2⟩)
  generalize (walk (hdP pin) e.trunk).1 = g at *
  generalize (walk (hdP pin) e.trunk).2.2 = r at *
  generalize ((walk (hdP pin) e.trunk).2.1 : Int) = n at *
  have fo : ∀ i : Nat, i < 2 → LocalCall Try.prog 54 [.d (hdD g), .d (sD ([e.a, e.b].getD i s0))] [] [] (one [.d (hdD (folH g ([e.a, e.b].getD i s0))), .d (.int .i64 (folE g ([e.a, e.b].getD i s0)))]) [] := fun i hi => follow_ok g _ wg (wfS_at (l := [e.a, e.b]) (fun s hs => by
    simp only [List.mem_cons, List.not_mem_nil, or_false] at hs
    rcases hs with rfl | rfl
    · exact hw.2
    · exact hw.3) hi)
  refine vc_fn mixed Try.func28 rfl rfl [] (vzH rfl) ?_
  repeat' (first | ((with_reducible refine vzH ?_); first | decide +kernel | rfl) | (with_reducible refine vzC ?_; rfl) | (with_reducible first | (refine vzZ ?_; constructor) | refine vzC ?_ | refine vc_pure c0 ?_ ?_ ?_ | refine vc_pure c1 ?_ ?_ ?_ | refine vc_call [] (fo i (by omega)) ?_ | refine vc_loopI 51 (fun (i : Nat) => [(5, .ptr 2036 []), (36, .sl 5016 [] 98 0 2), (37, .d (.int .i64 2)), (38, .d (.int .i64 (i : Int)))]) (fun i => [(2036, .var (.d (hdD g))), (5016, .row 98 [sD e.a, sD e.b])]) (fun i => 2 - i) (fun i => i ≤ 2 ∧ ∀ j, j < i → folE g ([e.a, e.b].getD j s0) = 0) 0 [] ?_ ?_ ?_ ?_ ?_ (fun i hI => ?_) | refine vc_nextI (i + 1) [] ?_ ?_ ?_ ?_ ?_ ?_ | refine vzB [] ?_ ?_ ?_ | refine vzD ?_ ?_ | refine vc_ret [] [] ?_) | ((with_reducible first | refine vzE (fun h => ?_) (fun h => ?_) | refine vzF (fun h => ?_) (fun h => ?_)) <;> try (exfalso; omega)) | ((with_reducible refine vzG (fun h => ?_) (fun h => ?_)) <;> (try simp only [Go.Sym.vs1, reduceCtorEq] at h) <;> try (exfalso; first | omega | (simp at h; done))) | ((conv in Vc _ => arg 1; whnf); first | (with_reducible refine vzC ?_; rfl) | (with_reducible first | (refine vzZ ?_; constructor) | refine vzC ?_ | refine vc_pure c0 ?_ ?_ ?_ | refine vc_pure c1 ?_ ?_ ?_ | refine vc_call [] (fo i (by omega)) ?_ | refine vc_loopI 51 (fun (i : Nat) => [(5, .ptr 2036 []), (36, .sl 5016 [] 98 0 2), (37, .d (.int .i64 2)), (38, .d (.int .i64 (i : Int)))]) (fun i => [(2036, .var (.d (hdD g))), (5016, .row 98 [sD e.a, sD e.b])]) (fun i => 2 - i) (fun i => i ≤ 2 ∧ ∀ j, j < i → folE g ([e.a, e.b].getD j s0) = 0) 0 [] ?_ ?_ ?_ ?_ ?_ (fun i hI => ?_) | refine vc_nextI (i + 1) [] ?_ ?_ ?_ ?_ ?_ ?_ | refine vzB [] ?_ ?_ ?_ | refine vzD ?_ ?_ | refine vc_ret [] [] ?_) | ((with_reducible first | refine vzE (fun h => ?_) (fun h => ?_) | refine vzF (fun h => ?_) (fun h => ?_)) <;> try (exfalso; omega)) | ((with_reducible refine vzG (fun h => ?_) (fun h => ?_)) <;> (try simp only [Go.Sym.vs1, reduceCtorEq] at h) <;> try (exfalso; first | omega | (simp at h; done)))))
  all_goals first
    | with_reducible rfl
    | omega
    | exact ⟨by decide +kernel, fits_root 5 _, fits_root 5 _⟩
    | exact ⟨Nat.zero_le _, fun j hj => absurd hj (Nat.not_lt_zero j)⟩
    | exact ⟨by omega, by rw [two_len]; omega⟩
    | exact ⟨⟨by rw [two_len]; omega, trivial⟩, by rw [Nat.zero_add, Int.toNat_natCast, two_at _ _ (by omega)]; rfl⟩
    | (show D.st _ = sD _; simp only [Nat.zero_add, Int.toNat_natCast, two_at _ _ (show i < 2 by omega)]; rfl)
    | exact ⟨by omega, fol_more hI.2 (by assumption)⟩
    | (rw [wrap64_id (by omega) (by omega)]; rfl)
    | (rcases two_i (show i < 2 by omega) with e | e <;> subst e <;> first
       | exact congrArg (D.int .i64) (k15 (.inr (.inr (.inl (by assumption))))).symm
       | exact congrArg (D.int .i64) (k15 (.inr (.inr (.inr (by assumption))))).symm)
    | exact congrArg (D.int .i64) (k0 (by assumption) (rtOff (by assumption)) (hI.2 0 (by omega)) (hI.2 1 (by omega))).symm
    | exact congrArg (D.int .i64) (k15 (.inl (by assumption))).symm
    | exact congrArg (D.int .i64) (k15 (.inr (.inl (rtNo (by assumption))))).symm
    | exact congrArg (D.int .i64) (k15 (.inr (.inr (.inl (by assumption))))).symm
    | exact congrArg (D.int .i64) (k15 (.inr (.inr (.inr (by assumption))))).symm
    | exact congrArg (D.int .i64) (k0 (by assumption) (rtOff (by assumption)) (by assumption) (by assumption)).symm
    | rfl
    | trace_state
theorem rEcheck_ok : LocalCall Try.prog 40 [.d (digD pin), .d (eD e)] [] [] (one [.d (.int .i64 (chkE pin e))]) [] := by
  have c1 := rWalk_ok (hdP pin) e.trunk (wf_hdP hp) hw.1 hl
  have wg : wfH (walk (hdP pin) e.trunk).1 := walk_wf _ _ (wf_hdP hp) hw.1
  have k15 : _ → chkE pin e = 15 := chk15 (pin := pin) (e := e)
  have k0 : (walk (hdP pin) e.trunk).2.2 = 0 → ¬ e.a.root = e.b.root → folE (walk (hdP pin) e.trunk).1 e.a = 0 → folE (walk (hdP pin) e.trunk).1 e.b = 0 → chkE pin e = 0 := fun h1 h2 h3 h4 => chkE_yes (okE_iff.2 ⟨h1, h3, h4, h2⟩)
  generalize (walk (hdP pin) e.trunk).1 = g at *
  generalize (walk (hdP pin) e.trunk).2.2 = r at *
  generalize ((walk (hdP pin) e.trunk).2.1 : Int) = n at *
  have fa := rFollow_ok g e.a wg hw.2
  have fb := rFollow_ok g e.b wg hw.3
  refine vc_fn mixed Try.func40 rfl rfl [] (vzH rfl) ?_
  repeat' (first | ((with_reducible refine vzH ?_); first | decide +kernel | rfl) | (with_reducible refine vzC ?_; rfl) | (with_reducible first | (refine vzZ ?_; constructor) | refine vzC ?_ | refine vc_call [] c1 ?_ | refine vc_pure fa ?_ ?_ ?_ | refine vc_pure fb ?_ ?_ ?_ | refine vzB [] ?_ ?_ ?_ | refine vzD ?_ ?_ | refine vc_ret [] [] ?_) | ((with_reducible first | refine vzE (fun h => ?_) (fun h => ?_) | refine vzF (fun h => ?_) (fun h => ?_)) <;> try (exfalso; omega)) | ((with_reducible refine vzG (fun h => ?_) (fun h => ?_)) <;> (try simp only [Go.Sym.vs1, reduceCtorEq] at h) <;> try (exfalso; first | omega | (simp at h; done))) | ((conv in Vc _ => arg 1; whnf); first | (with_reducible refine vzC ?_; rfl) | (with_reducible first | (refine vzZ ?_; constructor) | refine vzC ?_ | refine vc_call [] c1 ?_ | refine vc_pure fa ?_ ?_ ?_ | refine vc_pure fb ?_ ?_ ?_ | refine vzB [] ?_ ?_ ?_ | refine vzD ?_ ?_ | refine vc_ret [] [] ?_) | ((with_reducible first | refine vzE (fun h => ?_) (fun h => ?_) | refine vzF (fun h => ?_) (fun h => ?_)) <;> try (exfalso; omega)) | ((with_reducible refine vzG (fun h => ?_) (fun h => ?_)) <;> (try simp only [Go.Sym.vs1, reduceCtorEq] at h) <;> try (exfalso; first | omega | (simp at h; done)))))
  all_goals first
    | with_reducible rfl
    | omega
    | exact ⟨by decide +kernel, fits_root 5 _, fits_root 5 _⟩
    | exact congrArg (D.int .i64) (k15 (.inl (by assumption))).symm
    | exact congrArg (D.int .i64) (k15 (.inr (.inl (rtNo (by assumption))))).symm
    | exact congrArg (D.int .i64) (k15 (.inr (.inr (.inl (by assumption))))).symm
    | exact congrArg (D.int .i64) (k15 (.inr (.inr (.inr (by assumption))))).symm
    | exact congrArg (D.int .i64) (k0 (by assumption) (rtOff (by assumption)) (by assumption) (by assumption)).symm
    | rfl
    | trace_state
end
theorem esgn_more {l m : List Sgn} {i : Nat} (h : ∀ j, j < i → l.getD j s0 = m.getD j s0) (hp : l.getD i s0 = m.getD i s0) : ∀ j, j < i + 1 → l.getD j s0 = m.getD j s0 := fun j hj => by
  by_cases e : j = i
  · subst e; exact hp
  · exact h j (by omega)
theorem sgn_ext2 {l m : List Sgn} {i : Nat} (hl : l.length = m.length) (hi : l.length ≤ i) (h : ∀ j, j < i → l.getD j s0 = m.getD j s0) : l = m := by
  apply List.ext_getElem hl
  intro j h1 h2
  have := h j (by omega)
  rwa [List.getD_eq_getElem?_getD, List.getElem?_eq_getElem h1, List.getD_eq_getElem?_getD, List.getElem?_eq_getElem h2] at this
theorem sameE_ok (x y : Evd) (hl : x.trunk.length < 2 ^ 63) : LocalCall Try.prog 36 [.d (eD x), .d (eD y)] [] [] (one [.d (.bool (decide (x = y)))]) [] := by
  have lx : (x.trunk.map sD).length = x.trunk.length := List.length_map _
  have ly : (y.trunk.map sD).length = y.trunk.length := List.length_map _
  have c1 := sameSgn_ok x.a y.a
  have c2 := sameSgn_ok x.b y.b
  have c3 : ∀ i : Nat, _ := fun i => sameSgn_ok (x.trunk.getD i s0) (y.trunk.getD i s0)
  refine vc_fn mixed Try.func36 rfl rfl [] (vzH rfl) ?_
  repeat' (first | ((with_reducible refine vzH ?_); first | decide +kernel | rfl) | (with_reducible refine vzC ?_; rfl) | (with_reducible first | (refine vzZ ?_; constructor) | refine vzC ?_ | refine vc_pure c1 ?_ ?_ ?_ | refine vc_pure c2 ?_ ?_ ?_ | refine vc_call [] (c3 i) ?_ | refine vc_loopI 48 (fun (i : Nat) => [(2, .ptr 1000 []), (3, .ptr 1004 []), (5, .d (.int .i64 (i : Int)))]) (fun _ => [(1000, .var (.d (eD x))), (1004, .var (.d (eD y)))]) (fun i => x.trunk.length - i) (fun i => i ≤ x.trunk.length ∧ ∀ j, j < i → x.trunk.getD j s0 = y.trunk.getD j s0) 0 [] ?_ ?_ ?_ ?_ ?_ (fun i hI => ?_) | refine vc_nextI (i + 1) [] ?_ ?_ ?_ ?_ ?_ ?_ | refine vzB [] ?_ ?_ ?_ | refine vzD ?_ ?_ | refine vc_ret [] [] ?_) | ((with_reducible first | refine vzE (fun h => ?_) (fun h => ?_) | refine vzF (fun h => ?_) (fun h => ?_)) <;> try (exfalso; omega)) | ((with_reducible refine vzG (fun h => ?_) (fun h => ?_)) <;> (try simp only [Go.Sym.vs1, reduceCtorEq] at h) <;> try (exfalso; first | omega | (simp at h; done))) | ((conv in Vc _ => arg 1; whnf); first | (with_reducible refine vzC ?_; rfl) | (with_reducible first | (refine vzZ ?_; constructor) | refine vzC ?_ | refine vc_pure c1 ?_ ?_ ?_ | refine vc_pure c2 ?_ ?_ ?_ | refine vc_call [] (c3 i) ?_ | refine vc_loopI 48 (fun (i : Nat) => [(2, .ptr 1000 []), (3, .ptr 1004 []), (5, .d (.int .i64 (i : Int)))]) (fun _ => [(1000, .var (.d (eD x))), (1004, .var (.d (eD y)))]) (fun i => x.trunk.length - i) (fun i => i ≤ x.trunk.length ∧ ∀ j, j < i → x.trunk.getD j s0 = y.trunk.getD j s0) 0 [] ?_ ?_ ?_ ?_ ?_ (fun i hI => ?_) | refine vc_nextI (i + 1) [] ?_ ?_ ?_ ?_ ?_ ?_ | refine vzB [] ?_ ?_ ?_ | refine vzD ?_ ?_ | refine vc_ret [] [] ?_) | ((with_reducible first | refine vzE (fun h => ?_) (fun h => ?_) | refine vzF (fun h => ?_) (fun h => ?_)) <;> try (exfalso; omega)) | ((with_reducible refine vzG (fun h => ?_) (fun h => ?_)) <;> (try simp only [Go.Sym.vs1, reduceCtorEq] at h) <;> try (exfalso; first | omega | (simp at h; done)))))
  all_goals first
    | with_reducible rfl
    | omega
    | exact ⟨trivial, trivial, trivial⟩
    | exact ⟨Nat.zero_le _, fun j hj => absurd hj (Nat.not_lt_zero j)⟩
    | (rw [decide_eq_false (fun e => h (by rw [e]))]; first | done | rfl)
    | exact ⟨⟨by omega, by omega⟩, by rw [Int.toNat_natCast, sgn_at (by omega)]; rfl⟩
    | (show D.st _ = sD _; simp only [Int.toNat_natCast, sgn_at (show i < x.trunk.length by omega)]; rfl)
    | (show D.st _ = sD _; simp only [Int.toNat_natCast, sgn_at (show i < y.trunk.length by omega)]; rfl)
    | exact ⟨by omega, esgn_more hI.2 (by assumption)⟩
    | (rw [wrap64_id (by omega) (by omega)]; rfl)
    | (rw [decide_eq_true ((evd_ext x y).2 ⟨sgn_ext2 (by omega) (by omega) hI.2, by assumption, by assumption⟩)]; done)
    | rfl
    | trace_state
end Go.Proofs.Ytjgkngjeniameaa

namespace Go.Proofs.Ytjgkngjeniameaa
open Go.Sym
set_option maxRecDepth 10000
set_option maxHeartbeats 8000000
theorem cut32 {d : List UInt8} (h : d.length = 32) : cutD (d.map byteD) 0 32 = d.map byteD := by
  unfold cutD
  rw [List.take_of_length_le (by rw [List.length_map, h]; decide)]; rfl
theorem rSgnW (s : Sgn) (he : s.root.epoch < 2 ^ 64) (h1 : s.root.prev.length = 32) (h2 : s.root.tree.length = 32) (h3 : s.root.next.length = 32) (hr : (sgnB s).length ≤ 2 ^ 30) : LocalCall Try.prog 42 [.d (sD s)] [] [] (one [.d (.sl ((sgnB s).map byteD))]) [] := by
  have hl := hr
  unfold sgnB at hl
  simp only [List.length_append] at hl
  have c0 := rNum_ok _ s.root.epoch rfl he
  have c1 := rText_b s.sig (room30 rfl (by omega))
  have ef : [numB s.root.epoch, s.root.prev, s.root.tree, s.root.next, textB s.sig].flatten = sgnB s := by simp [sgnB]
  have c4 := join_b [numB s.root.epoch, s.root.prev, s.root.tree, s.root.next, textB s.sig] (by simp) (by rw [ef]; exact room30 rfl hr)
  rw [ef] at c4
  have e1 : cutD (s.root.prev.map byteD) 0 ((32 : Nat) : Int) = s.root.prev.map byteD := cut32 h1
  have e2 : cutD (s.root.tree.map byteD) 0 ((32 : Nat) : Int) = s.root.tree.map byteD := cut32 h2
  have e3 : cutD (s.root.next.map byteD) 0 ((32 : Nat) : Int) = s.root.next.map byteD := cut32 h3
  refine vc_fn mixed Try.func42 rfl rfl [(1, [500001])] (vzH rfl) ?_
  repeat' (first | ((with_reducible refine vzH ?_); first | decide +kernel | rfl) | (with_reducible refine vzC ?_; rfl) | (with_reducible first | (refine vzZ ?_; constructor) | refine vzC ?_ | refine vc_pure c0 ?_ ?_ ?_ | refine vc_pure c1 ?_ ?_ ?_ | refine vc_call [true] c4 ?_ | refine vzB [] ?_ ?_ ?_ | refine vzD ?_ ?_ | refine vc_ret [] [] ?_) | ((with_reducible first | refine vzE (fun h => ?_) (fun h => ?_) | refine vzF (fun h => ?_) (fun h => ?_)) <;> try (exfalso; omega)) | ((with_reducible refine vzG (fun h => ?_) (fun h => ?_)) <;> (try simp only [Go.Sym.vs1, reduceCtorEq] at h) <;> try (exfalso; first | omega | (simp at h; done))) | ((conv in Vc _ => arg 1; whnf); first | (with_reducible refine vzC ?_; rfl) | (with_reducible first | (refine vzZ ?_; constructor) | refine vzC ?_ | refine vc_pure c0 ?_ ?_ ?_ | refine vc_pure c1 ?_ ?_ ?_ | refine vc_call [true] c4 ?_ | refine vzB [] ?_ ?_ ?_ | refine vzD ?_ ?_ | refine vc_ret [] [] ?_) | ((with_reducible first | refine vzE (fun h => ?_) (fun h => ?_) | refine vzF (fun h => ?_) (fun h => ?_)) <;> try (exfalso; omega)) | ((with_reducible refine vzG (fun h => ?_) (fun h => ?_)) <;> (try simp only [Go.Sym.vs1, reduceCtorEq] at h) <;> try (exfalso; first | omega | (simp at h; done)))))
  all_goals first
    | rfl
    | (show D.sl [.sl ((numB s.root.epoch).map byteD), .sl (cutD (s.root.prev.map byteD) 0 ((32 : Nat) : Int)), .sl (cutD (s.root.tree.map byteD) 0 ((32 : Nat) : Int)), .sl (cutD (s.root.next.map byteD) 0 ((32 : Nat) : Int)), .sl ((textB s.sig).map byteD)] = _
       rw [e1, e2, e3]; first | done | rfl)
    | exact ⟨Nat.le_of_eq (Nat.zero_add _), trivial⟩ | exact ⟨by decide, by decide, by decide⟩ | skip
end Go.Proofs.Ytjgkngjeniameaa

namespace Go.Proofs.Ytjgkngjeniameaa
open Go.Sym
set_option maxRecDepth 10000
set_option maxHeartbeats 4000000
theorem flat_le {M : Nat} : ∀ {vs : List (List UInt8)}, (∀ v, v ∈ vs → v.length ≤ M) → vs.flatten.length ≤ M * vs.length
  | [], _ => by simp
  | v :: vs, h => by
    have h1 := h v (by simp)
    have h2 : vs.flatten.length ≤ M * vs.length := flat_le fun w hw => h w (List.mem_cons_of_mem _ hw)
    rw [List.flatten_cons, List.length_append, List.length_cons, Nat.mul_succ]; omega
def fitL (l : List Sgn) : Prop := ∀ s, s ∈ l → wfS s ∧ s.sig.length ≤ 2 ^ 21
theorem fit_len {s : Sgn} (h : wfS s ∧ s.sig.length ≤ 2 ^ 21) : (sgnB s).length ≤ 2 ^ 22 := by
  have := sgnB_le h.1 (Nat.lt_of_le_of_lt h.2 (by decide))
  have := h.2
  omega
theorem room_enc {l : List Sgn} (h : fitL l) (hl : l.length ≤ 5000) : Room (encT (l.map sgnB)).length 1 := by
  have h1 : ∀ v, v ∈ l.map sgnB → v.length ≤ 2 ^ 22 := fun v hv => by
    obtain ⟨s, hs, rfl⟩ := List.mem_map.1 hv
    exact fit_len (h s hs)
  have h2 := flat_le h1
  have h3 := encT_len (fun v hv => Nat.lt_of_le_of_lt (h1 v hv) (by decide)) (show (l.map sgnB).length < 2 ^ 64 by rw [List.length_map]; omega)
  rw [List.length_map] at h2 h3
  unfold Room; omega
theorem sgnW_at {l : List Sgn} (h : fitL l) {i : Nat} (hi : i < l.length) : LocalCall Try.prog 48 [.d (sD (l.getD i s0))] [] [] (one [.d (.sl ((sgnB (l.getD i s0)).map byteD))]) [] := by
  have hs := h (l.getD i s0) (by rw [List.getD_eq_getElem?_getD, List.getElem?_eq_getElem hi]; simp)
  exact sgnW _ hs.1.1 hs.1.2 hs.1.3 hs.1.4 (Nat.le_trans (fit_len hs) (by decide))
theorem rSgnW_at {l : List Sgn} (h : fitL l) {i : Nat} (hi : i < l.length) : LocalCall Try.prog 42 [.d (sD (l.getD i s0))] [] [] (one [.d (.sl ((sgnB (l.getD i s0)).map byteD))]) [] := by
  have hs := h (l.getD i s0) (by rw [List.getD_eq_getElem?_getD, List.getElem?_eq_getElem hi]; simp)
  exact rSgnW _ hs.1.1 hs.1.2 hs.1.3 hs.1.4 (Nat.le_trans (fit_len hs) (by decide))
theorem sgB_app (l : List Sgn) {i : Nat} (hi : i < l.length) : ((l.take i).map sgnB).map tD ++ [tD (sgnB (l.getD i s0))] = ((l.take (i + 1)).map sgnB).map tD := by
  rw [List.take_add_one, List.getElem?_eq_getElem hi, List.getD_eq_getElem?_getD, List.getElem?_eq_getElem hi, List.map_append, List.map_append]; rfl
theorem room128 {n : Nat} (h : n ≤ 2 ^ 20) : Room n 128 := by unfold Room; omega
theorem room24' {n : Nat} (h : n ≤ 2 ^ 20) : Room n 24 := by unfold Room; omega
theorem sgn_app (l : List Sgn) {i : Nat} (hi : i < l.length) : (l.take i).map sD ++ [sD (l.getD i s0)] = (l.take (i + 1)).map sD := by
  rw [List.take_add_one, List.getElem?_eq_getElem hi, List.getD_eq_getElem?_getD, List.getElem?_eq_getElem hi, List.map_append]; rfl
theorem sgn_size (l : List Sgn) : ∀ y, y ∈ l.map sD → y.size = 98 := fun y hy => by
  obtain ⟨s, _, rfl⟩ := List.mem_map.1 hy
  rfl
theorem bytes_ok {n : Nat} (h : n ≤ 2 ^ 20) : (128 : Int) * (n : Int) ≤ 281474976710656 := by omega
theorem cutS (l : List Sgn) (i : Nat) : cutD (l.map sD) 0 (i : Int) = (l.take i).map sD := by
  show List.drop 0 (List.take (i : Int).toNat _) = _
  rw [List.drop_zero, Int.toNat_natCast, List.map_take]
theorem copied (e : Evd) : overD (overD (List.replicate (e.trunk.length + 2) (D.zero Try.prog 8 30)) (e.trunk.map sD) 0 (min e.trunk.length (e.trunk.length + 2))) [sD e.a, sD e.b] e.trunk.length (min [sD e.a, sD e.b].length (e.trunk.length + 2 - e.trunk.length)) = (evL e).map sD := by
  have h1 : overD (List.replicate (e.trunk.length + 2) (D.zero Try.prog 8 30)) (e.trunk.map sD) 0 (min e.trunk.length (e.trunk.length + 2)) = e.trunk.map sD ++ List.replicate 2 (D.zero Try.prog 8 30) := by
    unfold overD
    rw [show min e.trunk.length (e.trunk.length + 2) = e.trunk.length by omega, List.take_zero, List.nil_append, List.take_of_length_le (by rw [List.length_map]; exact Nat.le_refl _), List.drop_replicate]
    congr 1; congr 1; omega
  rw [h1, show min [sD e.a, sD e.b].length (e.trunk.length + 2 - e.trunk.length) = 2 by show min 2 _ = 2; omega]
  unfold overD evL
  rw [List.take_left' (List.length_map _), List.drop_of_length_le (by rw [List.length_append, List.length_map, List.length_replicate]; omega), List.append_nil, List.map_append]
  rfl
theorem told (e : Evd) {i : Nat} (hi : e.trunk.length ≤ i) : D.sl (((e.trunk.take i).map sgnB).map tD ++ [D.sl ((sgnB e.a).map byteD)] ++ [D.sl ((sgnB e.b).map byteD)]) = D.sl (((evL e).map sgnB).map tD) := by
  rw [List.take_of_length_le hi]
  unfold evL
  rw [List.map_append, List.map_append, List.append_assoc]; rfl
section
variable (e : Evd) (hf : fitL (evL e)) (hl : e.trunk.length ≤ 1000)
include hf hl
theorem ebytes_ok : LocalCall Try.prog 41 [.d (eD e)] [] [] (one [.d (.sl ((evB e).map byteD))]) [] := by
  have lt : (e.trunk.map sD).length = e.trunk.length := List.length_map _
  have lv : (evL e).length = e.trunk.length + 2 := by simp [evL]
  have c1 : ∀ i, i < (evL e).length → _ := fun i hi => sgnW_at hf hi
  have w2 : IntKind.i64.wrap ((e.trunk.length : Int) + 2) = ((e.trunk.length + 2 : Nat) : Int) := by rw [wrap64_id (by omega) (by omega)]; omega
  have c2 := texts_any ((evL e).map sgnB) (room_enc hf (by omega))
  refine vc_fn mixed Try.func41 rfl rfl [(500004, [9001004])] (vzH rfl) ?_
  repeat' (first | ((with_reducible refine vzH ?_); first | decide +kernel | rfl) | (with_reducible refine vzC ?_; rfl) | (with_reducible first | (refine vzZ ?_; constructor) | refine vzC ?_ | refine vc_call [] (c1 i (by omega)) ?_ | refine vc_call [true] c2 ?_ | refine vc_loopI 41 (fun (i : Nat) => [(4, .sl 9 [] 1 0 (((evL e).take i).map sgnB).length), (27, .sl 2016 [] 98 0 (evL e).length), (28, .d (.int .i64 ((evL e).length : Nat))), (29, .d (.int .i64 (i : Int)))]) (fun i => [(9, .row 1 ((((evL e).take i).map sgnB).map tD)), (2016, .row 98 ((evL e).map sD))]) (fun i => (evL e).length - i) (fun i => i ≤ (evL e).length) 0 [] ?_ ?_ ?_ ?_ ?_ (fun i hI => ?_) | refine vc_nextI (i + 1) [(9, 9016)] ?_ ?_ ?_ ?_ ?_ ?_ | refine vzB [] ?_ ?_ ?_ | refine vzD ?_ ?_ | refine vc_ret [] [] ?_) | ((with_reducible first | refine vzE (fun h => ?_) (fun h => ?_) | refine vzF (fun h => ?_) (fun h => ?_)) <;> try (exfalso; omega)) | ((with_reducible refine vzG (fun h => ?_) (fun h => ?_)) <;> (try simp only [Go.Sym.vs1, reduceCtorEq] at h) <;> try (exfalso; first | omega | (simp at h; done))) | ((conv in Vc _ => arg 1; whnf); first | (with_reducible refine vzC ?_; rfl) | (with_reducible first | (refine vzZ ?_; constructor) | refine vzC ?_ | refine vc_call [] (c1 i (by omega)) ?_ | refine vc_call [true] c2 ?_ | refine vc_loopI 41 (fun (i : Nat) => [(4, .sl 9 [] 1 0 (((evL e).take i).map sgnB).length), (27, .sl 2016 [] 98 0 (evL e).length), (28, .d (.int .i64 ((evL e).length : Nat))), (29, .d (.int .i64 (i : Int)))]) (fun i => [(9, .row 1 ((((evL e).take i).map sgnB).map tD)), (2016, .row 98 ((evL e).map sD))]) (fun i => (evL e).length - i) (fun i => i ≤ (evL e).length) 0 [] ?_ ?_ ?_ ?_ ?_ (fun i hI => ?_) | refine vc_nextI (i + 1) [(9, 9016)] ?_ ?_ ?_ ?_ ?_ ?_ | refine vzB [] ?_ ?_ ?_ | refine vzD ?_ ?_ | refine vc_ret [] [] ?_) | ((with_reducible first | refine vzE (fun h => ?_) (fun h => ?_) | refine vzF (fun h => ?_) (fun h => ?_)) <;> try (exfalso; omega)) | ((with_reducible refine vzG (fun h => ?_) (fun h => ?_)) <;> (try simp only [Go.Sym.vs1, reduceCtorEq] at h) <;> try (exfalso; first | omega | (simp at h; done)))))
  all_goals (try simp only [List.length_replicate, List.length_map, w2, Nat.zero_add, Int.toNat_natCast, List.nil_append, List.drop_zero, List.take_length, Nat.sub_zero])
  all_goals first
    | with_reducible rfl
    | omega
    | exact ⟨by omega, by omega, bytes_ok (by omega), by omega⟩
    | exact ⟨⟨trivial, Nat.le_refl _⟩, sgn_size _⟩
    | exact ⟨by omega, by omega, Nat.le_refl _⟩
    | exact ⟨by omega, by omega⟩
    | exact ⟨⟨Nat.le_refl _, by rw [overD_length (by rw [List.length_replicate]; omega) (by rw [List.length_map]; omega), List.length_replicate]; omega⟩, sgn_size [e.a, e.b]⟩
    | exact congrArg (D.int .i64) (by omega)
    | exact copied e
    | exact ⟨⟨by omega, trivial⟩, by rw [sgn_at (by omega)]; rfl⟩
    | exact ⟨⟨by omega, by omega⟩, by rw [sgn_at (by omega)]; rfl⟩
    | (show D.st _ = sD _; rw [sgn_at (by omega)]; rfl)
    | exact ⟨⟨Nat.le_refl _, by first | trivial | rfl, room24' (by simp only [List.length_append, List.length_map, List.length_take, List.length_cons, List.length_nil]; omega)⟩, fun y hy => (by rw [List.mem_singleton.1 hy]; rfl)⟩
    | exact sgB_app _ (by omega)
    | (rw [List.length_append, List.length_map, List.length_map, List.length_take, List.length_take]; show _ + 1 = _; omega)
    | (rw [wrap64_id (by omega) (by omega)]; rfl)
    | exact ⟨Nat.le_refl _, trivial⟩
    | (rw [show List.take i (evL e) = evL e from List.take_of_length_le (by omega)]; first | done | (rw [← List.length_map (f := sgnB), ← List.length_map (f := tD), List.take_length]; done) | rfl)
    | exact told e (by omega)
    | rfl
    | trace_state
theorem rEbytes_ok : LocalCall Try.prog 20 [.d (eD e)] [] [] (one [.d (.sl ((evB e).map byteD))]) [] := by
  have lt : (e.trunk.map sD).length = e.trunk.length := List.length_map _
  have lv : (evL e).length = e.trunk.length + 2 := by simp [evL]
  have ft : fitL e.trunk := fun s hs => hf s (List.mem_append_left _ hs)
  have c1 : ∀ i, i < e.trunk.length → _ := fun i hi => rSgnW_at ft hi
  have fa : LocalCall Try.prog 42 [.d (sD e.a)] [] [] (one [.d (.sl ((sgnB e.a).map byteD))]) [] := rSgnW_at (l := [e.a]) (fun s hs => hf s (by rw [List.mem_singleton.1 hs]; simp [evL])) (i := 0) (Nat.zero_lt_one)
  have fb : LocalCall Try.prog 42 [.d (sD e.b)] [] [] (one [.d (.sl ((sgnB e.b).map byteD))]) [] := rSgnW_at (l := [e.b]) (fun s hs => hf s (by rw [List.mem_singleton.1 hs]; simp [evL])) (i := 0) (Nat.zero_lt_one)
  have c2 := refTs_ok ((evL e).map sgnB) (by rw [List.length_map]; omega) (room_enc hf (by omega))
  refine vc_fn mixed Try.func20 rfl rfl [(500001, [9001003])] (vzH rfl) ?_
  repeat' (first | ((with_reducible refine vzH ?_); first | decide +kernel | rfl) | (with_reducible refine vzC ?_; rfl) | (with_reducible first | (refine vzZ ?_; constructor) | refine vzC ?_ | refine vc_pure fa ?_ ?_ ?_ | refine vc_pure fb ?_ ?_ ?_ | refine vc_call [] (c1 i (by omega)) ?_ | refine vc_call [true] c2 ?_ | refine vc_loopI 35 (fun (i : Nat) => [(1, .ptr 1000 []), (3, .sl 9 [] 1 0 ((e.trunk.take i).map sgnB).length), (4, .d (.int .i64 (i : Int)))]) (fun i => [(1000, .var (.d (eD e))), (9, .row 1 (((e.trunk.take i).map sgnB).map tD))]) (fun i => e.trunk.length - i) (fun i => i ≤ e.trunk.length) 0 [] ?_ ?_ ?_ ?_ ?_ (fun i hI => ?_) | refine vc_nextI (i + 1) [(9, 6032)] ?_ ?_ ?_ ?_ ?_ ?_ | refine vzB [] ?_ ?_ ?_ | refine vzD ?_ ?_ | refine vc_ret [] [] ?_) | ((with_reducible first | refine vzE (fun h => ?_) (fun h => ?_) | refine vzF (fun h => ?_) (fun h => ?_)) <;> try (exfalso; omega)) | ((with_reducible refine vzG (fun h => ?_) (fun h => ?_)) <;> (try simp only [Go.Sym.vs1, reduceCtorEq] at h) <;> try (exfalso; first | omega | (simp at h; done))) | ((conv in Vc _ => arg 1; whnf); first | (with_reducible refine vzC ?_; rfl) | (with_reducible first | (refine vzZ ?_; constructor) | refine vzC ?_ | refine vc_pure fa ?_ ?_ ?_ | refine vc_pure fb ?_ ?_ ?_ | refine vc_call [] (c1 i (by omega)) ?_ | refine vc_call [true] c2 ?_ | refine vc_loopI 35 (fun (i : Nat) => [(1, .ptr 1000 []), (3, .sl 9 [] 1 0 ((e.trunk.take i).map sgnB).length), (4, .d (.int .i64 (i : Int)))]) (fun i => [(1000, .var (.d (eD e))), (9, .row 1 (((e.trunk.take i).map sgnB).map tD))]) (fun i => e.trunk.length - i) (fun i => i ≤ e.trunk.length) 0 [] ?_ ?_ ?_ ?_ ?_ (fun i hI => ?_) | refine vc_nextI (i + 1) [(9, 6032)] ?_ ?_ ?_ ?_ ?_ ?_ | refine vzB [] ?_ ?_ ?_ | refine vzD ?_ ?_ | refine vc_ret [] [] ?_) | ((with_reducible first | refine vzE (fun h => ?_) (fun h => ?_) | refine vzF (fun h => ?_) (fun h => ?_)) <;> try (exfalso; omega)) | ((with_reducible refine vzG (fun h => ?_) (fun h => ?_)) <;> (try simp only [Go.Sym.vs1, reduceCtorEq] at h) <;> try (exfalso; first | omega | (simp at h; done)))))
  all_goals (try simp only [List.length_replicate, List.length_map, Nat.zero_add, Int.toNat_natCast, List.nil_append, List.drop_zero, List.take_length, Nat.sub_zero])
  all_goals first
    | with_reducible rfl
    | omega
    | exact ⟨by omega, by omega, bytes_ok (by omega), by omega⟩
    | exact ⟨⟨trivial, Nat.le_refl _⟩, sgn_size _⟩
    | exact ⟨by omega, by omega, Nat.le_refl _⟩
    | exact ⟨by omega, by omega⟩
    | exact ⟨⟨Nat.le_refl _, by rw [overD_length (by rw [List.length_replicate]; omega) (by rw [List.length_map]; omega), List.length_replicate]; omega⟩, sgn_size [e.a, e.b]⟩
    | exact congrArg (D.int .i64) (by omega)
    | exact copied e
    | exact ⟨⟨by omega, trivial⟩, by rw [sgn_at (by omega)]; rfl⟩
    | exact ⟨⟨by omega, by omega⟩, by rw [sgn_at (by omega)]; rfl⟩
    | (show D.st _ = sD _; rw [sgn_at (by omega)]; rfl)
    | exact ⟨⟨Nat.le_refl _, by first | trivial | rfl, room24' (by simp only [List.length_append, List.length_map, List.length_take, List.length_cons, List.length_nil]; omega)⟩, fun y hy => (by rw [List.mem_singleton.1 hy]; rfl)⟩
    | exact sgB_app _ (by omega)
    | (rw [List.length_append, List.length_map, List.length_map, List.length_take, List.length_take]; show _ + 1 = _; omega)
    | (rw [wrap64_id (by omega) (by omega)]; rfl)
    | exact ⟨Nat.le_refl _, trivial⟩
    | (rw [show List.take i (evL e) = evL e from List.take_of_length_le (by omega)]; first | done | (rw [← List.length_map (f := sgnB), ← List.length_map (f := tD), List.take_length]; done) | rfl)
    | exact told e (by omega)
    | rfl
    | trace_state
end
end Go.Proofs.Ytjgkngjeniameaa

namespace Go.Proofs.Ytjgkngjeniameaa
open Go.Sym
set_option maxRecDepth 10000
set_option maxHeartbeats 4000000
theorem sgn_cl (B : List D) (bs : List UInt8) (hB : B = bs.map byteD) (hl : bs.length < 2 ^ 63) :
    LocalE (rdSgn bs) Try.prog 93 [.ptr 9 [], .ptr 8 [], .ptr 7 []] [(9, rd B 0), (8, .var (.fn (.func 72) [])), (7, .var (.d (.st [.st [.int .u64 0, digD zero32, digD zero32, digD zero32], .nils])))] [] (fun _ => []) (fun a => [(9, rd B a.2), (7, .var (.d (sD a.1)))]) [] fault [(9, .dead), (7, .dead)] := by
  refine vc_fnE mixed Try.func93 rfl rfl [] (rdSgn bs) (vzH rfl) ?_
  repeat' (first | ((with_reducible refine vzH ?_); first | decide +kernel | rfl) | (with_reducible refine vzC ?_; rfl) | (with_reducible first | (refine vzZ ?_; constructor) | refine vzC ?_ | refine vc_eAt [] 9 (by with_unfolding_all rfl) (sgn_in B bs hB hl) (fun a h => ?_) (fun h => ?_) | refine vc_ek a h ?_ | refine vc_ep h ?_ | refine vc_panc [] [7] ?_ ?_ | refine vzB [] ?_ ?_ ?_ | refine vzD ?_ ?_ | refine vc_ret [] [] ?_) | ((with_reducible first | refine vzE (fun h => ?_) (fun h => ?_) | refine vzF (fun h => ?_) (fun h => ?_)) <;> try (exfalso; omega)) | ((with_reducible refine vzG (fun h => ?_) (fun h => ?_)) <;> (try simp only [Go.Sym.vs1, reduceCtorEq] at h) <;> try (exfalso; first | omega | (simp at h; done))) | ((conv in Vc _ => arg 1; whnf); first | (with_reducible refine vzC ?_; rfl) | (with_reducible first | (refine vzZ ?_; constructor) | refine vzC ?_ | refine vc_eAt [] 9 (by with_unfolding_all rfl) (sgn_in B bs hB hl) (fun a h => ?_) (fun h => ?_) | refine vc_ek a h ?_ | refine vc_ep h ?_ | refine vc_panc [] [7] ?_ ?_ | refine vzB [] ?_ ?_ ?_ | refine vzD ?_ ?_ | refine vc_ret [] [] ?_) | ((with_reducible first | refine vzE (fun h => ?_) (fun h => ?_) | refine vzF (fun h => ?_) (fun h => ?_)) <;> try (exfalso; omega)) | ((with_reducible refine vzG (fun h => ?_) (fun h => ?_)) <;> (try simp only [Go.Sym.vs1, reduceCtorEq] at h) <;> try (exfalso; first | omega | (simp at h; done)))))
  all_goals rfl
theorem sgn_yes (B : List D) (bs : List UInt8) (hB : B = bs.map byteD) (hl : bs.length < 2 ^ 63) (a : Sgn × Nat) (h : rdSgn bs = some a) (he : a.2 = bs.length) :
    LocalCall Try.prog 67 [.d (.sl B), .fn (.func 93) [.ptr 8 [], .ptr 7 []]] [(8, .var (.fn (.func 72) [])), (7, .var (.d (.st [.st [.int .u64 0, digD zero32, digD zero32, digD zero32], .nils])))] [] (one [.d (.int .i64 0)]) [(7, .var (.d (sD a.1)))] := by
  have hlen : B.length = bs.length := by rw [hB]; simp
  refine local_recovers mixed (sl2 := [(0, .d (.sl B)), (1, .fn (.func 93) [.ptr 8 [], .ptr 7 []]), (4, .ptr 1000 [])]) (hp2 := [(8, .var (.fn (.func 72) [])), (7, .var (.d (.st [.st [.int .u64 0, digD zero32, digD zero32, digD zero32], .nils]))), (1000, .var (.d (.int .i64 0)))]) (N := 1000) Try.func67 rfl rfl rfl rfl rfl rfl rfl rfl rfl rfl [] catch_idle catch_pan rfl (vzH rfl) rfl (by decide) (by decide) rfl ?_ ?_
  · skip
    repeat' (first | ((with_reducible refine vzH ?_); first | decide +kernel | rfl) | (with_reducible refine vzC ?_; rfl) | (with_reducible first | (refine vzZ ?_; constructor) | refine vzC ?_ | refine vc_mid [] ?_ ?_ ?_ ?_ | refine vzB [] ?_ ?_ ?_ | refine vzD ?_ ?_ | refine vc_ret [] [] ?_) | ((with_reducible first | refine vzE (fun h => ?_) (fun h => ?_) | refine vzF (fun h => ?_) (fun h => ?_)) <;> try (exfalso; omega)) | ((with_reducible refine vzG (fun h => ?_) (fun h => ?_)) <;> (try simp at h) <;> try (exfalso; omega)) | ((conv in Vc _ => arg 1; whnf); first | (with_reducible refine vzC ?_; rfl) | (with_reducible first | (refine vzZ ?_; constructor) | refine vzC ?_ | refine vc_mid [] ?_ ?_ ?_ ?_ | refine vzB [] ?_ ?_ ?_ | refine vzD ?_ ?_ | refine vc_ret [] [] ?_) | ((with_reducible first | refine vzE (fun h => ?_) (fun h => ?_) | refine vzF (fun h => ?_) (fun h => ?_)) <;> try (exfalso; omega)) | ((with_reducible refine vzG (fun h => ?_) (fun h => ?_)) <;> (try simp at h) <;> try (exfalso; omega))))
    all_goals rfl
  · have hcl := local_ren [(9, 3008)] [(3008, 9)] ((sgn_cl B bs hB hl).ok a h) rfl
    repeat' (first | ((with_reducible refine vzH ?_); first | decide +kernel | rfl) | (with_reducible refine vzC ?_; rfl) | (with_reducible first | (refine vzZ ?_; constructor) | refine vzC ?_ | refine vc_call [] hcl ?_ | refine vzB [] ?_ ?_ ?_ | refine vzD ?_ ?_ | refine vc_ret [] [] ?_) | ((with_reducible first | refine vzE (fun h => ?_) (fun h => ?_) | refine vzF (fun h => ?_) (fun h => ?_)) <;> try (exfalso; omega)) | ((with_reducible refine vzG (fun h => ?_) (fun h => ?_)) <;> (try simp at h) <;> try (exfalso; omega)) | ((conv in Vc _ => arg 1; whnf); first | (with_reducible refine vzC ?_; rfl) | (with_reducible first | (refine vzZ ?_; constructor) | refine vzC ?_ | refine vc_call [] hcl ?_ | refine vzB [] ?_ ?_ ?_ | refine vzD ?_ ?_ | refine vc_ret [] [] ?_) | ((with_reducible first | refine vzE (fun h => ?_) (fun h => ?_) | refine vzF (fun h => ?_) (fun h => ?_)) <;> try (exfalso; omega)) | ((with_reducible refine vzG (fun h => ?_) (fun h => ?_)) <;> (try simp at h) <;> try (exfalso; omega))))
    all_goals rfl
theorem sgn_more (B : List D) (bs : List UInt8) (hB : B = bs.map byteD) (hl : bs.length < 2 ^ 63) (a : Sgn × Nat) (h : rdSgn bs = some a) (he : ¬ a.2 = bs.length) :
    LocalCall Try.prog 67 [.d (.sl B), .fn (.func 93) [.ptr 8 [], .ptr 7 []]] [(8, .var (.fn (.func 72) [])), (7, .var (.d (.st [.st [.int .u64 0, digD zero32, digD zero32, digD zero32], .nils])))] [] (one [.d (.int .i64 3)]) [(7, .dead)] := by
  have hlen : B.length = bs.length := by rw [hB]; simp
  refine local_recovers mixed (sl2 := [(0, .d (.sl B)), (1, .fn (.func 93) [.ptr 8 [], .ptr 7 []]), (4, .ptr 1000 [])]) (hp2 := [(8, .var (.fn (.func 72) [])), (7, .var (.d (.st [.st [.int .u64 0, digD zero32, digD zero32, digD zero32], .nils]))), (1000, .var (.d (.int .i64 0)))]) (N := 1000) Try.func67 rfl rfl rfl rfl rfl rfl rfl rfl rfl rfl [] catch_idle catch_pan rfl (vzH rfl) rfl (by decide) (by decide) rfl ?_ ?_
  · skip
    repeat' (first | ((with_reducible refine vzH ?_); first | decide +kernel | rfl) | (with_reducible refine vzC ?_; rfl) | (with_reducible first | (refine vzZ ?_; constructor) | refine vzC ?_ | refine vc_mid [] ?_ ?_ ?_ ?_ | refine vzB [] ?_ ?_ ?_ | refine vzD ?_ ?_ | refine vc_ret [] [] ?_) | ((with_reducible first | refine vzE (fun h => ?_) (fun h => ?_) | refine vzF (fun h => ?_) (fun h => ?_)) <;> try (exfalso; omega)) | ((with_reducible refine vzG (fun h => ?_) (fun h => ?_)) <;> (try simp at h) <;> try (exfalso; omega)) | ((conv in Vc _ => arg 1; whnf); first | (with_reducible refine vzC ?_; rfl) | (with_reducible first | (refine vzZ ?_; constructor) | refine vzC ?_ | refine vc_mid [] ?_ ?_ ?_ ?_ | refine vzB [] ?_ ?_ ?_ | refine vzD ?_ ?_ | refine vc_ret [] [] ?_) | ((with_reducible first | refine vzE (fun h => ?_) (fun h => ?_) | refine vzF (fun h => ?_) (fun h => ?_)) <;> try (exfalso; omega)) | ((with_reducible refine vzG (fun h => ?_) (fun h => ?_)) <;> (try simp at h) <;> try (exfalso; omega))))
    all_goals rfl
  · have hcl := local_ren [(9, 3008)] [(3008, 9)] ((sgn_cl B bs hB hl).ok a h) rfl
    repeat' (first | ((with_reducible refine vzH ?_); first | decide +kernel | rfl) | (with_reducible refine vzC ?_; rfl) | (with_reducible first | (refine vzZ ?_; constructor) | refine vzC ?_ | refine vc_call [] hcl ?_ | refine vc_retK [] [] [7] ?_ | refine vzB [] ?_ ?_ ?_ | refine vzD ?_ ?_ | refine vc_ret [] [] ?_) | ((with_reducible first | refine vzE (fun h => ?_) (fun h => ?_) | refine vzF (fun h => ?_) (fun h => ?_)) <;> try (exfalso; omega)) | ((with_reducible refine vzG (fun h => ?_) (fun h => ?_)) <;> (try simp at h) <;> try (exfalso; omega)) | ((conv in Vc _ => arg 1; whnf); first | (with_reducible refine vzC ?_; rfl) | (with_reducible first | (refine vzZ ?_; constructor) | refine vzC ?_ | refine vc_call [] hcl ?_ | refine vc_retK [] [] [7] ?_ | refine vzB [] ?_ ?_ ?_ | refine vzD ?_ ?_ | refine vc_ret [] [] ?_) | ((with_reducible first | refine vzE (fun h => ?_) (fun h => ?_) | refine vzF (fun h => ?_) (fun h => ?_)) <;> try (exfalso; omega)) | ((with_reducible refine vzG (fun h => ?_) (fun h => ?_)) <;> (try simp at h) <;> try (exfalso; omega))))
    all_goals rfl
theorem sgn_not (B : List D) (bs : List UInt8) (hB : B = bs.map byteD) (hl : bs.length < 2 ^ 63) (h : rdSgn bs = none) :
    LocalCall Try.prog 67 [.d (.sl B), .fn (.func 93) [.ptr 8 [], .ptr 7 []]] [(8, .var (.fn (.func 72) [])), (7, .var (.d (.st [.st [.int .u64 0, digD zero32, digD zero32, digD zero32], .nils])))] [] (one [.d (.int .i64 3)]) [(7, .dead)] := by
  have hlen : B.length = bs.length := by rw [hB]; simp
  refine local_recovers mixed (sl2 := [(0, .d (.sl B)), (1, .fn (.func 93) [.ptr 8 [], .ptr 7 []]), (4, .ptr 1000 [])]) (hp2 := [(8, .var (.fn (.func 72) [])), (7, .var (.d (.st [.st [.int .u64 0, digD zero32, digD zero32, digD zero32], .nils]))), (1000, .var (.d (.int .i64 0)))]) (N := 1000) Try.func67 rfl rfl rfl rfl rfl rfl rfl rfl rfl rfl [] catch_idle catch_pan rfl (vzH rfl) rfl (by decide) (by decide) rfl ?_ ?_
  · skip
    repeat' (first | ((with_reducible refine vzH ?_); first | decide +kernel | rfl) | (with_reducible refine vzC ?_; rfl) | (with_reducible first | (refine vzZ ?_; constructor) | refine vzC ?_ | refine vc_mid [] ?_ ?_ ?_ ?_ | refine vzB [] ?_ ?_ ?_ | refine vzD ?_ ?_ | refine vc_ret [] [] ?_) | ((with_reducible first | refine vzE (fun h => ?_) (fun h => ?_) | refine vzF (fun h => ?_) (fun h => ?_)) <;> try (exfalso; omega)) | ((with_reducible refine vzG (fun h => ?_) (fun h => ?_)) <;> (try simp at h) <;> try (exfalso; omega)) | ((conv in Vc _ => arg 1; whnf); first | (with_reducible refine vzC ?_; rfl) | (with_reducible first | (refine vzZ ?_; constructor) | refine vzC ?_ | refine vc_mid [] ?_ ?_ ?_ ?_ | refine vzB [] ?_ ?_ ?_ | refine vzD ?_ ?_ | refine vc_ret [] [] ?_) | ((with_reducible first | refine vzE (fun h => ?_) (fun h => ?_) | refine vzF (fun h => ?_) (fun h => ?_)) <;> try (exfalso; omega)) | ((with_reducible refine vzG (fun h => ?_) (fun h => ?_)) <;> (try simp at h) <;> try (exfalso; omega))))
    all_goals rfl
  · have hcl := localPan_ren [(9, 3008)] [(3008, 9)] ((sgn_cl B bs hB hl).pan h) rfl
    repeat' (first | ((with_reducible refine vzH ?_); first | decide +kernel | rfl) | (with_reducible refine vzC ?_; rfl) | (with_reducible first | (refine vzZ ?_; constructor) | refine vzC ?_ | refine vc_pan [] hcl ?_ | refine vc_retK [] [] [7] ?_ | refine vzB [] ?_ ?_ ?_ | refine vzD ?_ ?_ | refine vc_ret [] [] ?_) | ((with_reducible first | refine vzE (fun h => ?_) (fun h => ?_) | refine vzF (fun h => ?_) (fun h => ?_)) <;> try (exfalso; omega)) | ((with_reducible refine vzG (fun h => ?_) (fun h => ?_)) <;> (try simp at h) <;> try (exfalso; omega)) | ((conv in Vc _ => arg 1; whnf); first | (with_reducible refine vzC ?_; rfl) | (with_reducible first | (refine vzZ ?_; constructor) | refine vzC ?_ | refine vc_pan [] hcl ?_ | refine vc_retK [] [] [7] ?_ | refine vzB [] ?_ ?_ ?_ | refine vzD ?_ ?_ | refine vc_ret [] [] ?_) | ((with_reducible first | refine vzE (fun h => ?_) (fun h => ?_) | refine vzF (fun h => ?_) (fun h => ?_)) <;> try (exfalso; omega)) | ((with_reducible refine vzG (fun h => ?_) (fun h => ?_)) <;> (try simp at h) <;> try (exfalso; omega))))
    all_goals rfl
theorem sgn_T (B : List D) (bs : List UInt8) (hB : B = bs.map byteD) (hl : bs.length < 2 ^ 63) (O : Option Sgn) (hO : toFin bs.length (rdSgn bs) = O) :
    LocalCall Try.prog 71 [.d (.sl B), .fn (.func 72) []] [] [] (one [.d (sD (O.getD s0)), .d (.int .i64 (errI O))]) [] := by
  subst hO
  rcases toFin_cases bs.length (rdSgn bs) with ⟨a, h, he, hq⟩ | ⟨hn, hq⟩
  · rw [hq]
    have hr := local_ren [(8, 1000), (7, 2000)] [(1000, 8), (2000, 7)] (sgn_yes B bs hB hl a h he) rfl
    refine vc_fn mixed Try.func71 rfl rfl [] (vzH rfl) ?_
    repeat' (first | ((with_reducible refine vzH ?_); first | decide +kernel | rfl) | (with_reducible refine vzC ?_; rfl) | (with_reducible first | (refine vzZ ?_; constructor) | refine vzC ?_ | refine vc_call [] hr ?_ | refine vzB [] ?_ ?_ ?_ | refine vzD ?_ ?_ | refine vc_ret [] [] ?_) | ((with_reducible first | refine vzE (fun h => ?_) (fun h => ?_) | refine vzF (fun h => ?_) (fun h => ?_)) <;> try (exfalso; omega)) | ((with_reducible refine vzG (fun h => ?_) (fun h => ?_)) <;> (try simp only [Go.Sym.vs1, reduceCtorEq] at h) <;> try (exfalso; first | omega | (simp at h; done))) | ((conv in Vc _ => arg 1; whnf); first | (with_reducible refine vzC ?_; rfl) | (with_reducible first | (refine vzZ ?_; constructor) | refine vzC ?_ | refine vc_call [] hr ?_ | refine vzB [] ?_ ?_ ?_ | refine vzD ?_ ?_ | refine vc_ret [] [] ?_) | ((with_reducible first | refine vzE (fun h => ?_) (fun h => ?_) | refine vzF (fun h => ?_) (fun h => ?_)) <;> try (exfalso; omega)) | ((with_reducible refine vzG (fun h => ?_) (fun h => ?_)) <;> (try simp only [Go.Sym.vs1, reduceCtorEq] at h) <;> try (exfalso; first | omega | (simp at h; done)))))
    all_goals first | rfl | exact ⟨trivial, trivial, trivial⟩
  · rw [hq]
    have hr0 : LocalCall Try.prog 67 [.d (.sl B), .fn (.func 93) [.ptr 8 [], .ptr 7 []]] [(8, .var (.fn (.func 72) [])), (7, .var (.d (.st [.st [.int .u64 0, digD zero32, digD zero32, digD zero32], .nils])))] [] (one [.d (.int .i64 3)]) [(7, .dead)] := by
      rcases hn with h | ⟨a, h, he⟩
      · exact sgn_not B bs hB hl h
      · exact sgn_more B bs hB hl a h he
    have hr := local_ren [(8, 1000), (7, 2000)] [(1000, 8), (2000, 7)] hr0 rfl
    have key : LocalCall Try.prog 71 [.d (.sl B), .fn (.func 72) []] [] [] (one [.d (.st [.st [.int .u64 0, digD zero32, digD zero32, digD zero32], .nils]), .d (.int .i64 3)]) [] := by
      refine vc_fn mixed Try.func71 rfl rfl [] (vzH rfl) ?_
      repeat' (first | ((with_reducible refine vzH ?_); first | decide +kernel | rfl) | (with_reducible refine vzC ?_; rfl) | (with_reducible first | (refine vzZ ?_; constructor) | refine vzC ?_ | refine vc_call [] hr ?_ | refine vzB [] ?_ ?_ ?_ | refine vzD ?_ ?_ | refine vc_ret [] [] ?_) | ((with_reducible first | refine vzE (fun h => ?_) (fun h => ?_) | refine vzF (fun h => ?_) (fun h => ?_)) <;> try (exfalso; omega)) | ((with_reducible refine vzG (fun h => ?_) (fun h => ?_)) <;> (try simp only [Go.Sym.vs1, reduceCtorEq] at h) <;> try (exfalso; first | omega | (simp at h; done))) | ((conv in Vc _ => arg 1; whnf); first | (with_reducible refine vzC ?_; rfl) | (with_reducible first | (refine vzZ ?_; constructor) | refine vzC ?_ | refine vc_call [] hr ?_ | refine vzB [] ?_ ?_ ?_ | refine vzD ?_ ?_ | refine vc_ret [] [] ?_) | ((with_reducible first | refine vzE (fun h => ?_) (fun h => ?_) | refine vzF (fun h => ?_) (fun h => ?_)) <;> try (exfalso; omega)) | ((with_reducible refine vzG (fun h => ?_) (fun h => ?_)) <;> (try simp only [Go.Sym.vs1, reduceCtorEq] at h) <;> try (exfalso; first | omega | (simp at h; done)))))
      all_goals first | rfl | exact ⟨trivial, trivial, trivial⟩
    exact local_dn key
theorem sgn_ok (B : List D) (bs : List UInt8) (hB : B = bs.map byteD) (hl : bs.length < 2 ^ 63) (O : Option Sgn) (hO : toFin bs.length (rdSgn bs) = O) :
    LocalCall Try.prog 51 [.d (.sl B)] [] [] (one [.d (sD (O.getD s0)), .d (.int .i64 (errI O))]) [] := by
  refine vc_fn mixed Try.func51 rfl rfl [] (vzH rfl) ?_
  repeat' (first | ((with_reducible refine vzH ?_); first | decide +kernel | rfl) | (with_reducible refine vzC ?_; rfl) | (with_reducible first | (refine vzZ ?_; constructor) | refine vzC ?_ | refine vc_call [] (sgn_T B bs hB hl O hO) ?_ | refine vzB [] ?_ ?_ ?_ | refine vzD ?_ ?_ | refine vc_ret [] [] ?_) | ((with_reducible first | refine vzE (fun h => ?_) (fun h => ?_) | refine vzF (fun h => ?_) (fun h => ?_)) <;> try (exfalso; omega)) | ((with_reducible refine vzG (fun h => ?_) (fun h => ?_)) <;> (try simp only [Go.Sym.vs1, reduceCtorEq] at h) <;> try (exfalso; first | omega | (simp at h; done))) | ((conv in Vc _ => arg 1; whnf); first | (with_reducible refine vzC ?_; rfl) | (with_reducible first | (refine vzZ ?_; constructor) | refine vzC ?_ | refine vc_call [] (sgn_T B bs hB hl O hO) ?_ | refine vzB [] ?_ ?_ ?_ | refine vzD ?_ ?_ | refine vc_ret [] [] ?_) | ((with_reducible first | refine vzE (fun h => ?_) (fun h => ?_) | refine vzF (fun h => ?_) (fun h => ?_)) <;> try (exfalso; omega)) | ((with_reducible refine vzG (fun h => ?_) (fun h => ?_)) <;> (try simp only [Go.Sym.vs1, reduceCtorEq] at h) <;> try (exfalso; first | omega | (simp at h; done)))))
  all_goals first | rfl | exact ⟨trivial, trivial, trivial⟩
end Go.Proofs.Ytjgkngjeniameaa

namespace Go.Proofs.Ytjgkngjeniameaa
open Go.Sym
set_option maxRecDepth 10000
set_option maxHeartbeats 4000000
def optR {α : Type} (r : α × Nat × Bool) : Option (α × Nat) := bif r.2.2 then none else some (r.1, r.2.1)
def inGs (bs : List UInt8) (b : Bool) (k : Nat) : List UInt8 × Nat × Bool := bif b then (zero32, k, true) else (padB (inK bs 32 k).1 (inK bs 32 k).1.length, (inK bs 32 k).2)
theorem inTs_opt (bs : List UInt8) (b : Bool) (k : Nat) : optR (inTs bs b k) = bif b then none else rdT bs k := by
  cases b with
  | true => rfl
  | false => rw [cond_false, inT_rdT]; rfl
theorem inNs_opt (bs : List UInt8) (b : Bool) (k : Nat) : optR (inNs bs b k) = bif b then none else rdN bs 10 k 0 0 := by
  cases b with
  | true => rfl
  | false => rw [cond_false, inN_rdN]; rfl
theorem inGs_opt (bs : List UInt8) (b : Bool) (k : Nat) : optR (inGs bs b k) = bif b then none else rdG bs k := by
  cases b with
  | true => rfl
  | false =>
    rw [cond_false]
    unfold inGs rdG inK
    by_cases h : k + 32 ≤ bs.length
    · have hl : ((bs.drop k).take 32).length = 32 := by rw [List.length_take, List.length_drop]; omega
      simp only [decide_eq_true h, cond_true, cond_false, optR]
      rw [hl, padB_full hl]
    · simp only [decide_eq_false h, cond_false, optR, cond_true]
theorem inGs_le (bs : List UInt8) (b : Bool) (k : Nat) (h : k ≤ bs.length) : (inGs bs b k).2.1 ≤ bs.length := by
  cases b with
  | true => exact h
  | false => exact inK_le bs 32 k h
theorem inDig_bad (B : List D) (k : Nat) :
    LocalCall Try.prog 79 [.ptr 9 []] [(9, rIn B k true)] [] (one [.d (.arr 32 1 (zero32.map byteD))]) [(9, rIn B k true)] := by
  have hc := inTake_bad B k 32
  refine vc_fn mixed Try.func79 rfl rfl [] (vzH rfl) ?_
  repeat' (first | ((with_reducible refine vzH ?_); first | decide +kernel | rfl) | (with_reducible refine vzC ?_; rfl) | (with_reducible first | (refine vzZ ?_; constructor) | refine vzC ?_ | refine vc_call [] hc ?_ | refine vc_loopI 21 (fun (_ : Unit) => [(0, .ptr 9 []), (2, .ptr 1000 []), (3, .ptr 2000 []), (4, .d (.sl [])), (5, .d (.int .i64 0))]) (fun _ => [(9, rIn B k true), (1000, .var (.d (.arr 32 1 (List.replicate 32 (.int .u8 0))))), (2000, .var (.d (.arr 32 1 (zero32.map byteD))))]) (fun _ => 0) (fun _ => True) () [] ?_ ?_ ?_ ?_ ?_ (fun x hI => ?_) | refine vzB [] ?_ ?_ ?_ | refine vzD ?_ ?_ | refine vc_ret [] [] ?_) | ((with_reducible first | refine vzE (fun h => ?_) (fun h => ?_) | refine vzF (fun h => ?_) (fun h => ?_)) <;> try (exfalso; omega)) | ((with_reducible refine vzG (fun h => ?_) (fun h => ?_)) <;> (try simp at h) <;> try (exfalso; omega)) | ((conv in Vc _ => arg 1; whnf); first | (with_reducible refine vzC ?_; rfl) | (with_reducible first | (refine vzZ ?_; constructor) | refine vzC ?_ | refine vc_call [] hc ?_ | refine vc_loopI 21 (fun (_ : Unit) => [(0, .ptr 9 []), (2, .ptr 1000 []), (3, .ptr 2000 []), (4, .d (.sl [])), (5, .d (.int .i64 0))]) (fun _ => [(9, rIn B k true), (1000, .var (.d (.arr 32 1 (List.replicate 32 (.int .u8 0))))), (2000, .var (.d (.arr 32 1 (zero32.map byteD))))]) (fun _ => 0) (fun _ => True) () [] ?_ ?_ ?_ ?_ ?_ (fun x hI => ?_) | refine vzB [] ?_ ?_ ?_ | refine vzD ?_ ?_ | refine vc_ret [] [] ?_) | ((with_reducible first | refine vzE (fun h => ?_) (fun h => ?_) | refine vzF (fun h => ?_) (fun h => ?_)) <;> try (exfalso; omega)) | ((with_reducible refine vzG (fun h => ?_) (fun h => ?_)) <;> (try simp at h) <;> try (exfalso; omega))))
  all_goals first
    | rfl
    | trivial
theorem inText_8 (B : List D) (bs : List UInt8) (hB : B = bs.map byteD) (k : Nat) (b : Bool) (hk : k ≤ bs.length) (hl : bs.length < 2 ^ 63) :
    LocalCall Try.prog 76 [.ptr 2008 []] [(2008, rIn B k b)] [] (one [.d (.sl ((inTs bs b k).1.map byteD))]) [(2008, rIn B (inTs bs b k).2.1 (inTs bs b k).2.2)] :=
  local_ren [(9, 2008)] [(2008, 9)] (inText_any B bs hB k b hk hl) rfl
theorem inNum_8 (B : List D) (bs : List UInt8) (hB : B = bs.map byteD) (k : Nat) (b : Bool) (hk : k ≤ bs.length) (hl : bs.length < 2 ^ 63) :
    LocalCall Try.prog 78 [.ptr 2008 []] [(2008, rIn B k b)] [] (one [.d (.int .u64 ((inNs bs b k).1 : Int))]) [(2008, rIn B (inNs bs b k).2.1 (inNs bs b k).2.2)] :=
  local_ren [(9, 2008)] [(2008, 9)] (inNum_any B bs hB k b hk hl) rfl
theorem inDig_8 (B : List D) (bs : List UInt8) (hB : B = bs.map byteD) (k : Nat) (b : Bool) (hk : k ≤ bs.length) (hl : bs.length < 2 ^ 63) :
    LocalCall Try.prog 79 [.ptr 2008 []] [(2008, rIn B k b)] [] (one [.d (.arr 32 1 ((inGs bs b k).1.map byteD))]) [(2008, rIn B (inGs bs b k).2.1 (inGs bs b k).2.2)] := by
  cases b with
  | true => exact local_ren [(9, 2008)] [(2008, 9)] (inDig_bad B k) rfl
  | false => exact local_ren [(9, 2008)] [(2008, 9)] (inDig_ok B bs hB k hk hl _ rfl) rfl
theorem inDone_8 (B : List D) (k : Nat) (b q : Bool) (hq : (!b && decide (k = B.length)) = q) :
    LocalCall Try.prog 77 [.ptr 2008 []] [(2008, rIn B k b)] [] (one [.d (.bool q)]) [(2008, rIn B k b)] := by
  subst hq
  exact local_ren [(9, 2008)] [(2008, 9)] (inDone_ok B k b) rfl
end Go.Proofs.Ytjgkngjeniameaa
