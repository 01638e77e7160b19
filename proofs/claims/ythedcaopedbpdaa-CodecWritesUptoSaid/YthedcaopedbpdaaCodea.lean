/-
Numbers as bytes: what is written.
-/
import Derived.Test.YthedcaopedbpdaaProg
import Derived.Test.YthedcaopedbpdaaSymz
import Derived.Test.YthedcaopedbpdaaSymxb
import Derived.Test.YthedcaopedbpdaaSymxc
import Derived.Test.YthedcaopedbpdaaBita
namespace Go.Proofs.Ythedcaopedbpdaa
open Go.Sym
set_option maxRecDepth 10000
set_option maxHeartbeats 1000000

theorem mixed : Try.prog.follows .mixedOrders = true := by decide

/-- A number as bytes. -/
def numB (n : Nat) : List UInt8 := if n < 128 then [UInt8.ofNat n] else UInt8.ofNat (n % 128 + 128) :: numB (n / 128)
termination_by n
decreasing_by omega

theorem numB_small {n : Nat} (h : n < 128) : numB n = [UInt8.ofNat n] := by rw [numB, if_pos h]
theorem numB_big {n : Nat} (h : ¬ n < 128) : numB n = UInt8.ofNat (n % 128 + 128) :: numB (n / 128) := by rw [numB, if_neg h]

theorem numB_len_le : ∀ (k n : Nat), n < 2 ^ (7 * k) → 0 < k → (numB n).length ≤ k
  | 0, n, h, hk => by omega
  | k + 1, n, h, _ => by
    by_cases hn : n < 128
    · rw [numB_small hn]; simp
    · rw [numB_big hn]
      have hk : 0 < k := by
        rcases Nat.eq_zero_or_pos k with rfl | hk
        · omega
        · exact hk
      have := numB_len_le k (n / 128) (by rw [show 7 * (k + 1) = 7 * k + 7 by omega, Nat.pow_add] at h; omega) hk
      simp; omega

theorem numB_pos (n : Nat) : 0 < (numB n).length := by
  by_cases hn : n < 128
  · rw [numB_small hn]; simp
  · rw [numB_big hn]; simp

theorem numB_le10 {n : Nat} (h : n < 2 ^ 64) : (numB n).length ≤ 10 := numB_len_le 10 n (by omega) (by omega)

theorem wrap8 (m : Nat) : IntKind.u8.wrap (m : Int) = ((m % 256 : Nat) : Int) := by
  have : IntKind.u8.wrap (m : Int) = (m : Int) % 256 := by simp [IntKind.wrap, IntKind.signed, IntKind.bits]
  rw [this]; omega

theorem byteD_of {k : Nat} (h : k < 256) : byteD (UInt8.ofNat k) = .int .u8 (k : Int) := by
  unfold byteD
  rw [UInt8.toNat_ofNat_of_lt' (show k < 256 by omega)]

theorem or128 (m : Nat) : D.int .u8 (aBits .or .u8 (IntKind.u8.wrap (m : Int)) 128) = byteD (UInt8.ofNat (m % 128 + 128)) := by
  rw [byteD_of (by omega), wrap8]
  have key : ∀ k : Fin 256, aBits .or .u8 ((k.val : Nat) : Int) 128 = ((k.val % 128 + 128 : Nat) : Int) := by decide +kernel
  rw [key ⟨m % 256, by omega⟩]
  congr 2
  show m % 256 % 128 + 128 = _
  omega

theorem low8 {m : Nat} (h : m < 128) : D.int .u8 (IntKind.u8.wrap (m : Int)) = byteD (UInt8.ofNat m) := by
  rw [byteD_of (by omega), wrap8]
  congr 2
  omega

theorem shr7 (m : Nat) : shrI .u64 (m : Int) 7 = ((m / 128 : Nat) : Int) := by
  have hb : IntKind.u64.bits = 64 := rfl
  unfold shrI
  rw [hb, Int.fdiv_eq_ediv_of_nonneg _ (by decide)]
  rfl

theorem numB_step {xs acc : List D} {n m : Nat} (h : ¬ m < 128) (hI : acc ++ (numB m).map byteD = xs ++ (numB n).map byteD) :
    (acc ++ [byteD (UInt8.ofNat (m % 128 + 128))]) ++ (numB (m / 128)).map byteD = xs ++ (numB n).map byteD := by
  rw [numB_big h] at hI
  rw [← hI]; simp

theorem room_le {a b k : Nat} (h : Room b 1) (hk : k = 1) (hab : a ≤ b) : Room a k := by
  subst hk
  unfold Room at *
  exact Nat.le_trans (Nat.mul_le_mul_right _ (by omega)) h

theorem size_byte (c : UInt8) : (byteD c).size = 1 := rfl

theorem num_ok (xs : List D) (n : Nat) (hn : n < 2 ^ 64) (hroom : Room (xs ++ (numB n).map byteD).length 1) :
    LocalCall Try.prog 10 [.sl 1 [] 1 0 xs.length, .d (.int .u64 (n : Int))] [(1, .row 1 xs)] [2] (one [.sl 2 [] 1 0 (xs ++ (numB n).map byteD).length]) [(2, .row 1 (xs ++ (numB n).map byteD)), (1, .dead)] := by
  refine vc_fn mixed Try.func10 rfl rfl [(0, [7001000])] (vc_chk rfl) ?_
  repeat' (first
      | ((with_reducible refine vc_chk ?_); first | decide +kernel | rfl)
      | (with_reducible refine vc_side0 ?_; rfl)
      | (with_reducible first
          
              | refine vc_loopI 20 (fun (x : List D × Nat) => [(0, .sl 7 [] 1 0 x.1.length), (1, .d (.int .u64 (x.2 : Int)))]) (fun x => [(1, .dead), (7, .row 1 x.1)]) (fun x => x.2) (fun x => x.1 ++ (numB x.2).map byteD = xs ++ (numB n).map byteD ∧ x.2 < 2 ^ 64) (xs, n) [] ?_ ?_ ?_ ?_ ?_ (fun x hI => ?_)
              | refine vc_nextI (x.1 ++ [byteD (UInt8.ofNat (x.2 % 128 + 128))], x.2 / 128) [(7, 3020)] ?_ ?_ ?_ ?_ ?_ ?_ | refine vc_ret [] [(2, 5016)] ?_ | refine vc_true ?_ | refine vc_true2 ?_ | refine vc_side ?_ ?_
              | refine vc_triv | refine vc_later ?_ | refine vc_caseT ?_ | refine vc_caseF ?_ | refine vc_cons ?_ | refine vc_nil ?_ ?_ | refine vc_seq ?_ | refine vc_region ?_ | refine vc_cond ?_ | refine vc_block ?_
              | refine vc_retc ?_ | refine vc_exit ?_ | refine vc_skip ?_ | refine vc_scope ?_ | refine vc_label ?_ | refine vc_goto ?_ | refine vc_wkSl0 | refine vc_wkHp0 | refine vc_eqAVs0 | refine vc_preG0
              | refine vc_wkSl ?_ ?_ | refine vc_wkHp ?_ ?_ | refine vc_eqAVs ?_ ?_ | refine vc_preG ?_ ?_ | refine vc_ret [] [] ?_ | refine vc_weakf [] ?_ ?_ ?_ | refine vc_side0 ?_ | refine vc_and ?_ ?_)
      | ((with_reducible first | refine vc_caseD (fun h => ?_) (fun h => ?_) | refine vc_caseN (fun h => ?_) (fun h => ?_)) <;> try (exfalso; omega))
      | ((with_reducible refine vc_case (fun h => ?_) (fun h => ?_)) <;> (try simp at h) <;> try (exfalso; omega))
      | (conv in Vc _ => arg 1; whnf
         first
          | (with_reducible refine vc_side0 ?_; rfl)
          | (with_reducible first
             
                 | refine vc_loopI 20 (fun (x : List D × Nat) => [(0, .sl 7 [] 1 0 x.1.length), (1, .d (.int .u64 (x.2 : Int)))]) (fun x => [(1, .dead), (7, .row 1 x.1)]) (fun x => x.2) (fun x => x.1 ++ (numB x.2).map byteD = xs ++ (numB n).map byteD ∧ x.2 < 2 ^ 64) (xs, n) [] ?_ ?_ ?_ ?_ ?_ (fun x hI => ?_)
                 | refine vc_nextI (x.1 ++ [byteD (UInt8.ofNat (x.2 % 128 + 128))], x.2 / 128) [(7, 3020)] ?_ ?_ ?_ ?_ ?_ ?_ | refine vc_ret [] [(2, 5016)] ?_ | refine vc_true ?_ | refine vc_true2 ?_ | refine vc_side ?_ ?_
                 | refine vc_triv | refine vc_later ?_ | refine vc_caseT ?_ | refine vc_caseF ?_ | refine vc_cons ?_ | refine vc_nil ?_ ?_ | refine vc_seq ?_ | refine vc_region ?_ | refine vc_cond ?_ | refine vc_block ?_
                 | refine vc_retc ?_ | refine vc_exit ?_ | refine vc_skip ?_ | refine vc_scope ?_ | refine vc_label ?_ | refine vc_goto ?_ | refine vc_wkSl0 | refine vc_wkHp0 | refine vc_eqAVs0 | refine vc_preG0
                 | refine vc_wkSl ?_ ?_ | refine vc_wkHp ?_ ?_ | refine vc_eqAVs ?_ ?_ | refine vc_preG ?_ ?_ | refine vc_ret [] [] ?_ | refine vc_weakf [] ?_ ?_ ?_ | refine vc_side0 ?_ | refine vc_and ?_ ?_)
          | ((with_reducible first | refine vc_caseD (fun h => ?_) (fun h => ?_) | refine vc_caseN (fun h => ?_) (fun h => ?_)) <;> try (exfalso; omega))
          | ((with_reducible refine vc_case (fun h => ?_) (fun h => ?_)) <;> (try simp at h) <;> try (exfalso; omega))))
  all_goals (try simp only [List.drop_zero, List.take_length, or128, shr7])
  all_goals first
    | rfl
    | exact ⟨trivial, hn⟩
    | omega
    | skip
  all_goals
    obtain ⟨acc, m⟩ := x
    obtain ⟨h1, h2⟩ := hI
    simp only at h1 h2 h ⊢
    rcases Nat.lt_or_ge m 128 with hm | hm
    rotate_left
    · have hm : ¬ m < 128 := by omega
      first
      | (exfalso; omega)
      | exact ⟨numB_step hm h1, by omega⟩
      | refine ⟨⟨by simp, trivial, room_le hroom rfl ?_⟩, fun y hy => ?_⟩
        · rw [← numB_step hm h1]; simp only [List.length_append]; omega
        · simp only [List.mem_singleton] at hy; subst hy; rfl
    · rw [numB_small hm] at h1
      first
      | (exfalso; omega)
      | (rw [low8 hm]; exact h1)
      | (rw [low8 hm]; exact congrArg List.length h1)
      | (rw [low8 hm]; refine ⟨⟨by simp, trivial, room_le hroom rfl (Nat.le_of_eq (congrArg List.length h1))⟩, fun y hy => ?_⟩
         simp only [List.mem_singleton] at hy; subst hy; rfl)

end Go.Proofs.Ythedcaopedbpdaa
