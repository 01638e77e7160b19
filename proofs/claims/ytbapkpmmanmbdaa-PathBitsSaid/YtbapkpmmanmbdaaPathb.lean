/-
What path.Bits hands to its round: the 256 bits, in their order.
-/
import Derived.Test.YtbapkpmmanmbdaaPatha
namespace Go.Proofs.Ytbapkpmmanmbdaa
open Go.Sym
set_option maxRecDepth 10000

section
variable (l : Nat) (xs : List D)
def bsY : AV := .fn (.yield l) []
def bsO (k : Nat) : List (Nat × AV) := [(0, .fn (.yield l) []), (6, .d (.arr 32 1 xs)), (7, .d (.int .i64 (k : Int)))]
def bsO1 (k : Nat) : List (Nat × AV) := (8, .d (.bool (decide ((k : Int) < 32)))) :: bsO l xs k
def bsI0 (c k : Nat) : List (Nat × AV) := [(0, .fn (.yield l) []), (6, .d (.arr 32 1 xs)), (7, .d (.int .i64 (k : Int))), (3, .d (.int .i64 (k : Int))), (4, .d (.int .u8 (c : Int)))]
def bsI (c k m : Nat) : List (Nat × AV) := [(0, .fn (.yield l) []), (6, .d (.arr 32 1 xs)), (7, .d (.int .i64 (k : Int))), (3, .d (.int .i64 (k : Int))), (4, .d (.int .u8 (c : Int))), (5, .d (.int .i64 (m : Int)))]
def bsI1 (c k m : Nat) : List (Nat × AV) := (12, .d (.bool (decide ((m : Int) < 8)))) :: bsI l xs c k m
def bsI2 (c k m : Nat) : List (Nat × AV) := (15, .fn (.yield l) []) :: (19, .d (.int .i64 (8 * k + m : Nat))) :: (24, .d (.bool (c.testBit (7 - m)))) :: bsI l xs c k m
end

theorem flat_bsI {l : Nat} {xs : List D} {c k m : Nat} (hs : ∀ x, x ∈ xs → x.scal = true) : ∀ p, p ∈ bsI l xs c k m → FlatA p.2 := by
  intro p hp
  simp only [bsI, List.mem_cons, List.not_mem_nil, or_false] at hp
  rcases hp with rfl | rfl | rfl | rfl | rfl | rfl
  · exact flatA_fn
  · exact flatA_arr hs
  all_goals exact flatA_d rfl
theorem flat_bsO {l : Nat} {xs : List D} {k : Nat} (hs : ∀ x, x ∈ xs → x.scal = true) : ∀ p, p ∈ bsO l xs k → FlatA p.2 := by
  intro p hp
  simp only [bsO, List.mem_cons, List.not_mem_nil, or_false] at hp
  rcases hp with rfl | rfl | rfl
  · exact flatA_fn
  · exact flatA_arr hs
  all_goals exact flatA_d rfl

theorem flat_bsI0 {l : Nat} {xs : List D} {c k : Nat} (hs : ∀ x, x ∈ xs → x.scal = true) : ∀ p, p ∈ bsI0 l xs c k → FlatA p.2 := by
  intro p hp
  simp only [bsI0, List.mem_cons, List.not_mem_nil, or_false] at hp
  rcases hp with rfl | rfl | rfl | rfl | rfl
  · exact flatA_fn
  · exact flatA_arr hs
  all_goals exact flatA_d rfl

theorem bits_seq (bs : List UInt8) (hb : bs.length = 32) : SeqOK Try.prog 21 (.arr 32 1 (bs.map byteD)) 256 (fun i => [.int .i64 (i : Int), .bool (bitB bs i)]) := by
  intro J Jd l b w X cs hrep hrow s1 s2 hJ hy
  have hs : ∀ x, x ∈ bs.map byteD → x.scal = true := fun x hx => by
    obtain ⟨y, _, rfl⟩ := List.mem_map.1 hx; rfl
  refine calls_of_wp_marks Try.func21 rfl ?_
  have hbl : b < w.heap.size := row_lt hrow (by rw [hrep.length]; show 0 < 32 * 1; omega)
  have hstart := fl_start (n := 28) (l := l) (by omega) hrep hrow hbl
  refine wpIn_scope_straight (wpIn_seq (wpIn_label (wpIn_seq ?_)))
  refine flat_norm mixed (sl' := bsO l (bs.map byteD) 0) (flat_bsO hs) hstart ?_ fun a w0 hI hx => ?_
  ·
    repeat' (first
        | ((with_reducible refine vc_chk ?_); first | decide +kernel | rfl)
        | (with_reducible refine vc_side0 ?_; rfl)
        | (with_reducible first
             | refine vc_true ?_ | refine vc_true2 ?_ | refine vc_side ?_ ?_ | refine vc_triv | refine vc_later ?_ | refine vc_caseT ?_ | refine vc_caseF ?_ | refine vc_cons ?_ | refine vc_nil ?_ ?_ | refine vc_seq ?_
                | refine vc_region ?_ | refine vc_cond ?_ | refine vc_block ?_ | refine vc_retc ?_ | refine vc_exit ?_ | refine vc_skip ?_ | refine vc_scope ?_ | refine vc_label ?_ | refine vc_goto ?_ | refine vc_wkSl0
                | refine vc_wkHp0 | refine vc_eqAVs0 | refine vc_preG0 | refine vc_wkSl ?_ ?_ | refine vc_wkHp ?_ ?_ | refine vc_eqAVs ?_ ?_ | refine vc_preG ?_ ?_ | refine vc_ret [] [] ?_ | refine vc_weakf [] ?_ ?_ ?_
                | refine vc_side0 ?_ | refine vc_and ?_ ?_)
        | ((with_reducible first | refine vc_caseD (fun h => ?_) (fun h => ?_) | refine vc_caseN (fun h => ?_) (fun h => ?_)) <;> try (exfalso; omega))
        | ((with_reducible refine vc_case (fun h => ?_) (fun h => ?_)) <;> (try simp at h) <;> try (exfalso; omega))
        | (conv in Vc _ => arg 1; whnf
           first
            | (with_reducible refine vc_side0 ?_; rfl)
            | (with_reducible first
                | refine vc_true ?_ | refine vc_true2 ?_ | refine vc_side ?_ ?_ | refine vc_triv | refine vc_later ?_ | refine vc_caseT ?_ | refine vc_caseF ?_ | refine vc_cons ?_ | refine vc_nil ?_ ?_ | refine vc_seq ?_
                   | refine vc_region ?_ | refine vc_cond ?_ | refine vc_block ?_ | refine vc_retc ?_ | refine vc_exit ?_ | refine vc_skip ?_ | refine vc_scope ?_ | refine vc_label ?_ | refine vc_goto ?_ | refine vc_wkSl0
                   | refine vc_wkHp0 | refine vc_eqAVs0 | refine vc_preG0 | refine vc_wkSl ?_ ?_ | refine vc_wkHp ?_ ?_ | refine vc_eqAVs ?_ ?_ | refine vc_preG ?_ ?_ | refine vc_ret [] [] ?_ | refine vc_weakf [] ?_ ?_ ?_
                   | refine vc_side0 ?_ | refine vc_and ?_ ?_)
            | ((with_reducible first | refine vc_caseD (fun h => ?_) (fun h => ?_) | refine vc_caseN (fun h => ?_) (fun h => ?_)) <;> try (exfalso; omega))
            | ((with_reducible refine vc_case (fun h => ?_) (fun h => ?_)) <;> (try simp at h) <;> try (exfalso; omega))))
    all_goals rfl
  replace hJ := s1 _ _ _ hJ hx
  clear hx hstart
  -- the outer loop
  refine wpIn_block (wpIn_loopI (fun (k : Nat) a w => k ≤ 32 ∧ Fl 28 (bsO l (bs.map byteD) k) a w ∧ J (8 * k) w) (fun k => 32 - k) (x0 := 0) ⟨Nat.zero_le _, hI, hJ⟩ fun k a w hk => ?_)
  obtain ⟨hk, hI, hJ⟩ := hk
  refine wpIn_seq (flat_norm mixed (sl' := bsO1 l (bs.map byteD) k) (fun p hp => ?_) hI ?_ fun a w1 hI hx => ?_)
  · rcases List.mem_cons.1 hp with rfl | hp
    · exact flatA_d rfl
    · exact flat_bsO hs p hp
  ·
    repeat' (first
        | ((with_reducible refine vc_chk ?_); first | decide +kernel | rfl)
        | (with_reducible refine vc_side0 ?_; rfl)
        | (with_reducible first
             | refine vc_true ?_ | refine vc_true2 ?_ | refine vc_side ?_ ?_ | refine vc_triv | refine vc_later ?_ | refine vc_caseT ?_ | refine vc_caseF ?_ | refine vc_cons ?_ | refine vc_nil ?_ ?_ | refine vc_seq ?_
                | refine vc_region ?_ | refine vc_cond ?_ | refine vc_block ?_ | refine vc_retc ?_ | refine vc_exit ?_ | refine vc_skip ?_ | refine vc_scope ?_ | refine vc_label ?_ | refine vc_goto ?_ | refine vc_wkSl0
                | refine vc_wkHp0 | refine vc_eqAVs0 | refine vc_preG0 | refine vc_wkSl ?_ ?_ | refine vc_wkHp ?_ ?_ | refine vc_eqAVs ?_ ?_ | refine vc_preG ?_ ?_ | refine vc_ret [] [] ?_ | refine vc_weakf [] ?_ ?_ ?_
                | refine vc_side0 ?_ | refine vc_and ?_ ?_)
        | ((with_reducible first | refine vc_caseD (fun h => ?_) (fun h => ?_) | refine vc_caseN (fun h => ?_) (fun h => ?_)) <;> try (exfalso; omega))
        | ((with_reducible refine vc_case (fun h => ?_) (fun h => ?_)) <;> (try simp at h) <;> try (exfalso; omega))
        | (conv in Vc _ => arg 1; whnf
           first
            | (with_reducible refine vc_side0 ?_; rfl)
            | (with_reducible first
                | refine vc_true ?_ | refine vc_true2 ?_ | refine vc_side ?_ ?_ | refine vc_triv | refine vc_later ?_ | refine vc_caseT ?_ | refine vc_caseF ?_ | refine vc_cons ?_ | refine vc_nil ?_ ?_ | refine vc_seq ?_
                   | refine vc_region ?_ | refine vc_cond ?_ | refine vc_block ?_ | refine vc_retc ?_ | refine vc_exit ?_ | refine vc_skip ?_ | refine vc_scope ?_ | refine vc_label ?_ | refine vc_goto ?_ | refine vc_wkSl0
                   | refine vc_wkHp0 | refine vc_eqAVs0 | refine vc_preG0 | refine vc_wkSl ?_ ?_ | refine vc_wkHp ?_ ?_ | refine vc_eqAVs ?_ ?_ | refine vc_preG ?_ ?_ | refine vc_ret [] [] ?_ | refine vc_weakf [] ?_ ?_ ?_
                   | refine vc_side0 ?_ | refine vc_and ?_ ?_)
            | ((with_reducible first | refine vc_caseD (fun h => ?_) (fun h => ?_) | refine vc_caseN (fun h => ?_) (fun h => ?_)) <;> try (exfalso; omega))
            | ((with_reducible refine vc_case (fun h => ?_) (fun h => ?_)) <;> (try simp at h) <;> try (exfalso; omega))))
    all_goals rfl
  replace hJ := s1 _ _ _ hJ hx
  refine wpIn_seq (fl_cond hI (b := decide ((k : Int) < 32)) rfl (fun ht => wpIn_skip ?_) (fun ht => wpIn_exit ?_))
  case refine_2 =>
    have : k = 32 := by simp at ht; omega
    subst this
    show LeavesInM _ _ _ _ _ _ _ _ _
    rw [fl_defers hI]
    exact ⟨_, results_run (vs := []) rfl, _, rfl, .inl hJ⟩
  have hlt : k < 32 := by simp at ht; omega
  refine wpIn_seq (wpIn_block (wpIn_seq ?_))
  have hgk : (bs.map byteD).getD k .nilp = byteD (bs.getD k 0) := getD_byte (by omega)
  refine flat_norm mixed (sl' := bsI0 l (bs.map byteD) (bs.getD k 0).toNat k) (flat_bsI0 hs) hI ?_ fun a w2 hI hx => ?_
  ·
    repeat' (first
        | ((with_reducible refine vc_chk ?_); first | decide +kernel | rfl)
        | (with_reducible refine vc_side0 ?_; rfl)
        | (with_reducible first
             | refine vc_true ?_ | refine vc_true2 ?_ | refine vc_side ?_ ?_ | refine vc_triv | refine vc_later ?_ | refine vc_caseT ?_ | refine vc_caseF ?_ | refine vc_cons ?_ | refine vc_nil ?_ ?_ | refine vc_seq ?_
                | refine vc_region ?_ | refine vc_cond ?_ | refine vc_block ?_ | refine vc_retc ?_ | refine vc_exit ?_ | refine vc_skip ?_ | refine vc_scope ?_ | refine vc_label ?_ | refine vc_goto ?_ | refine vc_wkSl0
                | refine vc_wkHp0 | refine vc_eqAVs0 | refine vc_preG0 | refine vc_wkSl ?_ ?_ | refine vc_wkHp ?_ ?_ | refine vc_eqAVs ?_ ?_ | refine vc_preG ?_ ?_ | refine vc_ret [] [] ?_ | refine vc_weakf [] ?_ ?_ ?_
                | refine vc_side0 ?_ | refine vc_and ?_ ?_)
        | ((with_reducible first | refine vc_caseD (fun h => ?_) (fun h => ?_) | refine vc_caseN (fun h => ?_) (fun h => ?_)) <;> try (exfalso; omega))
        | ((with_reducible refine vc_case (fun h => ?_) (fun h => ?_)) <;> (try simp at h) <;> try (exfalso; omega))
        | (conv in Vc _ => arg 1; whnf
           first
            | (with_reducible refine vc_side0 ?_; rfl)
            | (with_reducible first
                | refine vc_true ?_ | refine vc_true2 ?_ | refine vc_side ?_ ?_ | refine vc_triv | refine vc_later ?_ | refine vc_caseT ?_ | refine vc_caseF ?_ | refine vc_cons ?_ | refine vc_nil ?_ ?_ | refine vc_seq ?_
                   | refine vc_region ?_ | refine vc_cond ?_ | refine vc_block ?_ | refine vc_retc ?_ | refine vc_exit ?_ | refine vc_skip ?_ | refine vc_scope ?_ | refine vc_label ?_ | refine vc_goto ?_ | refine vc_wkSl0
                   | refine vc_wkHp0 | refine vc_eqAVs0 | refine vc_preG0 | refine vc_wkSl ?_ ?_ | refine vc_wkHp ?_ ?_ | refine vc_eqAVs ?_ ?_ | refine vc_preG ?_ ?_ | refine vc_ret [] [] ?_ | refine vc_weakf [] ?_ ?_ ?_
                   | refine vc_side0 ?_ | refine vc_and ?_ ?_)
            | ((with_reducible first | refine vc_caseD (fun h => ?_) (fun h => ?_) | refine vc_caseN (fun h => ?_) (fun h => ?_)) <;> try (exfalso; omega))
            | ((with_reducible refine vc_case (fun h => ?_) (fun h => ?_)) <;> (try simp at h) <;> try (exfalso; omega))))
    all_goals (try simp only [Int.toNat_natCast, hgk])
    all_goals first | rfl | exact ⟨⟨by omega, by omega⟩, rfl⟩
  replace hJ := s1 _ _ _ hJ hx
  refine wpIn_seq (flat_norm mixed (sl' := bsI l (bs.map byteD) (bs.getD k 0).toNat k 0) (flat_bsI hs) hI ?_ fun a w3 hI hx => ?_)
  ·
    repeat' (first
        | ((with_reducible refine vc_chk ?_); first | decide +kernel | rfl)
        | (with_reducible refine vc_side0 ?_; rfl)
        | (with_reducible first
             | refine vc_true ?_ | refine vc_true2 ?_ | refine vc_side ?_ ?_ | refine vc_triv | refine vc_later ?_ | refine vc_caseT ?_ | refine vc_caseF ?_ | refine vc_cons ?_ | refine vc_nil ?_ ?_ | refine vc_seq ?_
                | refine vc_region ?_ | refine vc_cond ?_ | refine vc_block ?_ | refine vc_retc ?_ | refine vc_exit ?_ | refine vc_skip ?_ | refine vc_scope ?_ | refine vc_label ?_ | refine vc_goto ?_ | refine vc_wkSl0
                | refine vc_wkHp0 | refine vc_eqAVs0 | refine vc_preG0 | refine vc_wkSl ?_ ?_ | refine vc_wkHp ?_ ?_ | refine vc_eqAVs ?_ ?_ | refine vc_preG ?_ ?_ | refine vc_ret [] [] ?_ | refine vc_weakf [] ?_ ?_ ?_
                | refine vc_side0 ?_ | refine vc_and ?_ ?_)
        | ((with_reducible first | refine vc_caseD (fun h => ?_) (fun h => ?_) | refine vc_caseN (fun h => ?_) (fun h => ?_)) <;> try (exfalso; omega))
        | ((with_reducible refine vc_case (fun h => ?_) (fun h => ?_)) <;> (try simp at h) <;> try (exfalso; omega))
        | (conv in Vc _ => arg 1; whnf
           first
            | (with_reducible refine vc_side0 ?_; rfl)
            | (with_reducible first
                | refine vc_true ?_ | refine vc_true2 ?_ | refine vc_side ?_ ?_ | refine vc_triv | refine vc_later ?_ | refine vc_caseT ?_ | refine vc_caseF ?_ | refine vc_cons ?_ | refine vc_nil ?_ ?_ | refine vc_seq ?_
                   | refine vc_region ?_ | refine vc_cond ?_ | refine vc_block ?_ | refine vc_retc ?_ | refine vc_exit ?_ | refine vc_skip ?_ | refine vc_scope ?_ | refine vc_label ?_ | refine vc_goto ?_ | refine vc_wkSl0
                   | refine vc_wkHp0 | refine vc_eqAVs0 | refine vc_preG0 | refine vc_wkSl ?_ ?_ | refine vc_wkHp ?_ ?_ | refine vc_eqAVs ?_ ?_ | refine vc_preG ?_ ?_ | refine vc_ret [] [] ?_ | refine vc_weakf [] ?_ ?_ ?_
                   | refine vc_side0 ?_ | refine vc_and ?_ ?_)
            | ((with_reducible first | refine vc_caseD (fun h => ?_) (fun h => ?_) | refine vc_caseN (fun h => ?_) (fun h => ?_)) <;> try (exfalso; omega))
            | ((with_reducible refine vc_case (fun h => ?_) (fun h => ?_)) <;> (try simp at h) <;> try (exfalso; omega))))
    all_goals rfl
  replace hJ := s1 _ _ _ hJ hx
  clear hx
  -- the inner loop
  refine wpIn_block (wpIn_loopI (fun (m : Nat) a w => m ≤ 8 ∧ Fl 28 (bsI l (bs.map byteD) (bs.getD k 0).toNat k m) a w ∧ J (8 * k + m) w) (fun m => 8 - m) (x0 := 0) ⟨Nat.zero_le _, hI, hJ⟩ fun m a w hm => ?_)
  obtain ⟨hm, hI, hJ⟩ := hm
  refine wpIn_seq (wpIn_seq (flat_norm mixed (sl' := bsI1 l (bs.map byteD) (bs.getD k 0).toNat k m) (fun p hp => ?_) hI ?_ fun a w1 hI hx => ?_))
  · rcases List.mem_cons.1 hp with rfl | hp
    · exact flatA_d rfl
    · exact flat_bsI hs p hp
  ·
    repeat' (first
        | ((with_reducible refine vc_chk ?_); first | decide +kernel | rfl)
        | (with_reducible refine vc_side0 ?_; rfl)
        | (with_reducible first
             | refine vc_true ?_ | refine vc_true2 ?_ | refine vc_side ?_ ?_ | refine vc_triv | refine vc_later ?_ | refine vc_caseT ?_ | refine vc_caseF ?_ | refine vc_cons ?_ | refine vc_nil ?_ ?_ | refine vc_seq ?_
                | refine vc_region ?_ | refine vc_cond ?_ | refine vc_block ?_ | refine vc_retc ?_ | refine vc_exit ?_ | refine vc_skip ?_ | refine vc_scope ?_ | refine vc_label ?_ | refine vc_goto ?_ | refine vc_wkSl0
                | refine vc_wkHp0 | refine vc_eqAVs0 | refine vc_preG0 | refine vc_wkSl ?_ ?_ | refine vc_wkHp ?_ ?_ | refine vc_eqAVs ?_ ?_ | refine vc_preG ?_ ?_ | refine vc_ret [] [] ?_ | refine vc_weakf [] ?_ ?_ ?_
                | refine vc_side0 ?_ | refine vc_and ?_ ?_)
        | ((with_reducible first | refine vc_caseD (fun h => ?_) (fun h => ?_) | refine vc_caseN (fun h => ?_) (fun h => ?_)) <;> try (exfalso; omega))
        | ((with_reducible refine vc_case (fun h => ?_) (fun h => ?_)) <;> (try simp at h) <;> try (exfalso; omega))
        | (conv in Vc _ => arg 1; whnf
           first
            | (with_reducible refine vc_side0 ?_; rfl)
            | (with_reducible first
                | refine vc_true ?_ | refine vc_true2 ?_ | refine vc_side ?_ ?_ | refine vc_triv | refine vc_later ?_ | refine vc_caseT ?_ | refine vc_caseF ?_ | refine vc_cons ?_ | refine vc_nil ?_ ?_ | refine vc_seq ?_
                   | refine vc_region ?_ | refine vc_cond ?_ | refine vc_block ?_ | refine vc_retc ?_ | refine vc_exit ?_ | refine vc_skip ?_ | refine vc_scope ?_ | refine vc_label ?_ | refine vc_goto ?_ | refine vc_wkSl0
                   | refine vc_wkHp0 | refine vc_eqAVs0 | refine vc_preG0 | refine vc_wkSl ?_ ?_ | refine vc_wkHp ?_ ?_ | refine vc_eqAVs ?_ ?_ | refine vc_preG ?_ ?_ | refine vc_ret [] [] ?_ | refine vc_weakf [] ?_ ?_ ?_
                   | refine vc_side0 ?_ | refine vc_and ?_ ?_)
            | ((with_reducible first | refine vc_caseD (fun h => ?_) (fun h => ?_) | refine vc_caseN (fun h => ?_) (fun h => ?_)) <;> try (exfalso; omega))
            | ((with_reducible refine vc_case (fun h => ?_) (fun h => ?_)) <;> (try simp at h) <;> try (exfalso; omega))))
    all_goals rfl
  replace hJ := s1 _ _ _ hJ hx
  refine fl_cond hI (b := decide ((m : Int) < 8)) rfl (fun ht => wpIn_skip ?_) (fun ht => wpIn_exit ?_)
  case refine_2 =>
    have : m = 8 := by simp at ht; omega
    subst this
    -- behind the inner loop
    show (Code.region _ _ _).wpIn _ _ _ _ _ _
    refine flat_norm mixed (sl' := bsO l (bs.map byteD) (k + 1)) (flat_bsO hs) hI ?_ fun a w2 hI hx => ?_
    ·
      repeat' (first
          | ((with_reducible refine vc_chk ?_); first | decide +kernel | rfl)
          | (with_reducible refine vc_side0 ?_; rfl)
          | (with_reducible first
               | refine vc_true ?_ | refine vc_true2 ?_ | refine vc_side ?_ ?_ | refine vc_triv | refine vc_later ?_ | refine vc_caseT ?_ | refine vc_caseF ?_ | refine vc_cons ?_ | refine vc_nil ?_ ?_ | refine vc_seq ?_
                  | refine vc_region ?_ | refine vc_cond ?_ | refine vc_block ?_ | refine vc_retc ?_ | refine vc_exit ?_ | refine vc_skip ?_ | refine vc_scope ?_ | refine vc_label ?_ | refine vc_goto ?_ | refine vc_wkSl0
                  | refine vc_wkHp0 | refine vc_eqAVs0 | refine vc_preG0 | refine vc_wkSl ?_ ?_ | refine vc_wkHp ?_ ?_ | refine vc_eqAVs ?_ ?_ | refine vc_preG ?_ ?_ | refine vc_ret [] [] ?_ | refine vc_weakf [] ?_ ?_ ?_
                  | refine vc_side0 ?_ | refine vc_and ?_ ?_)
          | ((with_reducible first | refine vc_caseD (fun h => ?_) (fun h => ?_) | refine vc_caseN (fun h => ?_) (fun h => ?_)) <;> try (exfalso; omega))
          | ((with_reducible refine vc_case (fun h => ?_) (fun h => ?_)) <;> (try simp at h) <;> try (exfalso; omega))
          | (conv in Vc _ => arg 1; whnf
             first
              | (with_reducible refine vc_side0 ?_; rfl)
              | (with_reducible first
                  | refine vc_true ?_ | refine vc_true2 ?_ | refine vc_side ?_ ?_ | refine vc_triv | refine vc_later ?_ | refine vc_caseT ?_ | refine vc_caseF ?_ | refine vc_cons ?_ | refine vc_nil ?_ ?_ | refine vc_seq ?_
                     | refine vc_region ?_ | refine vc_cond ?_ | refine vc_block ?_ | refine vc_retc ?_ | refine vc_exit ?_ | refine vc_skip ?_ | refine vc_scope ?_ | refine vc_label ?_ | refine vc_goto ?_ | refine vc_wkSl0
                     | refine vc_wkHp0 | refine vc_eqAVs0 | refine vc_preG0 | refine vc_wkSl ?_ ?_ | refine vc_wkHp ?_ ?_ | refine vc_eqAVs ?_ ?_ | refine vc_preG ?_ ?_ | refine vc_ret [] [] ?_ | refine vc_weakf [] ?_ ?_ ?_
                     | refine vc_side0 ?_ | refine vc_and ?_ ?_)
              | ((with_reducible first | refine vc_caseD (fun h => ?_) (fun h => ?_) | refine vc_caseN (fun h => ?_) (fun h => ?_)) <;> try (exfalso; omega))
              | ((with_reducible refine vc_case (fun h => ?_) (fun h => ?_)) <;> (try simp at h) <;> try (exfalso; omega))))
      all_goals first | rfl | (rw [wrap64_id (by omega) (by omega)]; rfl)
    exact ⟨k + 1, ⟨by omega, hI, s1 _ _ _ hJ hx⟩, by omega⟩
  have hlt : m < 8 := by simp at ht; omega
  have hi : 8 * k + m < 256 := by omega
  have hbit : bitB bs (8 * k + m) = (bs.getD k 0).toNat.testBit (7 - m) := by
    unfold bitB
    rw [show (8 * k + m) / 8 = k by omega, show (8 * k + m) % 8 = m by omega]
  refine wpIn_seq (wpIn_block (wpIn_seq (wpIn_region ?_)))
  rw [show List.range _ = List.range' 0 10 ++ (10 :: List.range' 11 1) from rfl]
  refine wpOpsIn_append _ (flat_pre (id := 6) (sl' := bsI2 l (bs.map byteD) (bs.getD k 0).toNat k m) (fun p hp => ?_) rfl hI ?_ fun a w2 hI hx => ?_)
  · simp only [bsI2, List.mem_cons] at hp
    rcases hp with rfl | rfl | rfl | hp
    · exact flatA_fn
    · exact flatA_d rfl
    · exact flatA_d rfl
    · exact flat_bsI hs p hp
  · simp only [List.take_succ_cons, List.take_zero]
    repeat' (first
        | ((with_reducible refine vc_chk ?_); first | decide +kernel | rfl)
        | (with_reducible refine vc_side0 ?_; rfl)
        | (with_reducible first
             | refine vc_true ?_ | refine vc_true2 ?_ | refine vc_side ?_ ?_ | refine vc_triv | refine vc_later ?_ | refine vc_caseT ?_ | refine vc_caseF ?_ | refine vc_cons ?_ | refine vc_nil ?_ ?_ | refine vc_seq ?_
                | refine vc_region ?_ | refine vc_cond ?_ | refine vc_block ?_ | refine vc_retc ?_ | refine vc_exit ?_ | refine vc_skip ?_ | refine vc_scope ?_ | refine vc_label ?_ | refine vc_goto ?_ | refine vc_wkSl0
                | refine vc_wkHp0 | refine vc_eqAVs0 | refine vc_preG0 | refine vc_wkSl ?_ ?_ | refine vc_wkHp ?_ ?_ | refine vc_eqAVs ?_ ?_ | refine vc_preG ?_ ?_ | refine vc_ret [] [] ?_ | refine vc_weakf [] ?_ ?_ ?_
                | refine vc_side0 ?_ | refine vc_and ?_ ?_)
        | ((with_reducible first | refine vc_caseD (fun h => ?_) (fun h => ?_) | refine vc_caseN (fun h => ?_) (fun h => ?_)) <;> try (exfalso; omega))
        | ((with_reducible refine vc_case (fun h => ?_) (fun h => ?_)) <;> (try simp at h) <;> try (exfalso; omega))
        | (conv in Vc _ => arg 1; whnf
           first
            | (with_reducible refine vc_side0 ?_; rfl)
            | (with_reducible first
                | refine vc_true ?_ | refine vc_true2 ?_ | refine vc_side ?_ ?_ | refine vc_triv | refine vc_later ?_ | refine vc_caseT ?_ | refine vc_caseF ?_ | refine vc_cons ?_ | refine vc_nil ?_ ?_ | refine vc_seq ?_
                   | refine vc_region ?_ | refine vc_cond ?_ | refine vc_block ?_ | refine vc_retc ?_ | refine vc_exit ?_ | refine vc_skip ?_ | refine vc_scope ?_ | refine vc_label ?_ | refine vc_goto ?_ | refine vc_wkSl0
                   | refine vc_wkHp0 | refine vc_eqAVs0 | refine vc_preG0 | refine vc_wkSl ?_ ?_ | refine vc_wkHp ?_ ?_ | refine vc_eqAVs ?_ ?_ | refine vc_preG ?_ ?_ | refine vc_ret [] [] ?_ | refine vc_weakf [] ?_ ?_ ?_
                   | refine vc_side0 ?_ | refine vc_and ?_ ?_)
            | ((with_reducible first | refine vc_caseD (fun h => ?_) (fun h => ?_) | refine vc_caseN (fun h => ?_) (fun h => ?_)) <;> try (exfalso; omega))
            | ((with_reducible refine vc_case (fun h => ?_) (fun h => ?_)) <;> (try simp at h) <;> try (exfalso; omega))))
    all_goals first | rfl | omega | exact congrArg D.bool (and_bit _ _ hlt) | (rw [wrap64_id (n := 8 * (k : Int)) (by omega) (by omega), wrap64_id (by omega) (by omega)]; congr 1)
  replace hJ := s1 _ _ _ hJ hx
  rw [wpOpsIn_cons]
  refine fl_yield (i := 8 * k + m) hy rfl rfl rfl rfl rfl hI rfl (by show _ = [AV.d (.int .i64 ((8 * k + m : Nat) : Int)), AV.d (.bool (bitB bs (8 * k + m)))]; rw [hbit]; rfl) rfl hi hJ (fun p hp => ?_) fun t a w3 hI j1 j2 => ?_
  · simp only [bsI2, List.mem_cons] at hp
    rcases hp with rfl | rfl | rfl | hp
    · exact flatA_fn
    · exact flatA_d rfl
    · exact flatA_d rfl
    · exact flat_bsI hs p hp
  refine flat_suf (id := 6) (sl' := (26, .d (.bool (!t))) :: bsI l (bs.map byteD) (bs.getD k 0).toNat k m) (fun p hp => ?_) rfl hI ?_ fun a w4 hI hx => ?_
  · rcases List.mem_cons.1 hp with rfl | hp
    · exact flatA_d rfl
    · exact flat_bsI hs p hp
  · simp only [List.drop_succ_cons, List.drop_zero]
    repeat' (first
        | ((with_reducible refine vc_chk ?_); first | decide +kernel | rfl)
        | (with_reducible refine vc_side0 ?_; rfl)
        | (with_reducible first
             | refine vc_true ?_ | refine vc_true2 ?_ | refine vc_side ?_ ?_ | refine vc_triv | refine vc_later ?_ | refine vc_caseT ?_ | refine vc_caseF ?_ | refine vc_cons ?_ | refine vc_nil ?_ ?_ | refine vc_seq ?_
                | refine vc_region ?_ | refine vc_cond ?_ | refine vc_block ?_ | refine vc_retc ?_ | refine vc_exit ?_ | refine vc_skip ?_ | refine vc_scope ?_ | refine vc_label ?_ | refine vc_goto ?_ | refine vc_wkSl0
                | refine vc_wkHp0 | refine vc_eqAVs0 | refine vc_preG0 | refine vc_wkSl ?_ ?_ | refine vc_wkHp ?_ ?_ | refine vc_eqAVs ?_ ?_ | refine vc_preG ?_ ?_ | refine vc_ret [] [] ?_ | refine vc_weakf [] ?_ ?_ ?_
                | refine vc_side0 ?_ | refine vc_and ?_ ?_)
        | ((with_reducible first | refine vc_caseD (fun h => ?_) (fun h => ?_) | refine vc_caseN (fun h => ?_) (fun h => ?_)) <;> try (exfalso; omega))
        | ((with_reducible refine vc_case (fun h => ?_) (fun h => ?_)) <;> (try simp at h) <;> try (exfalso; omega))
        | (conv in Vc _ => arg 1; whnf
           first
            | (with_reducible refine vc_side0 ?_; rfl)
            | (with_reducible first
                | refine vc_true ?_ | refine vc_true2 ?_ | refine vc_side ?_ ?_ | refine vc_triv | refine vc_later ?_ | refine vc_caseT ?_ | refine vc_caseF ?_ | refine vc_cons ?_ | refine vc_nil ?_ ?_ | refine vc_seq ?_
                   | refine vc_region ?_ | refine vc_cond ?_ | refine vc_block ?_ | refine vc_retc ?_ | refine vc_exit ?_ | refine vc_skip ?_ | refine vc_scope ?_ | refine vc_label ?_ | refine vc_goto ?_ | refine vc_wkSl0
                   | refine vc_wkHp0 | refine vc_eqAVs0 | refine vc_preG0 | refine vc_wkSl ?_ ?_ | refine vc_wkHp ?_ ?_ | refine vc_eqAVs ?_ ?_ | refine vc_preG ?_ ?_ | refine vc_ret [] [] ?_ | refine vc_weakf [] ?_ ?_ ?_
                   | refine vc_side0 ?_ | refine vc_and ?_ ?_)
            | ((with_reducible first | refine vc_caseD (fun h => ?_) (fun h => ?_) | refine vc_caseN (fun h => ?_) (fun h => ?_)) <;> try (exfalso; omega))
            | ((with_reducible refine vc_case (fun h => ?_) (fun h => ?_)) <;> (try simp at h) <;> try (exfalso; omega))))
    all_goals rfl
  refine fl_cond hI (b := !t) rfl (fun ht => wpIn_exit ?_) (fun ht => wpIn_skip ?_)
  · have htf : t = false := by simpa using ht
    show LeavesInM _ _ _ _ _ _ _ _ _
    rw [fl_defers hI]
    exact ⟨_, results_run (vs := []) rfl, _, rfl, .inr (s2 _ _ (j2 htf) hx)⟩
  · have htt : t = true := by simpa using ht
    have hJ' := s1 _ _ _ (j1 htt) hx
    show (Code.region _ _ _).wpIn _ _ _ _ _ _
    refine flat_norm mixed (sl' := bsI l (bs.map byteD) (bs.getD k 0).toNat k (m + 1)) (flat_bsI hs) hI ?_ fun a w5 hI hx => ?_
    ·
      repeat' (first
          | ((with_reducible refine vc_chk ?_); first | decide +kernel | rfl)
          | (with_reducible refine vc_side0 ?_; rfl)
          | (with_reducible first
               | refine vc_true ?_ | refine vc_true2 ?_ | refine vc_side ?_ ?_ | refine vc_triv | refine vc_later ?_ | refine vc_caseT ?_ | refine vc_caseF ?_ | refine vc_cons ?_ | refine vc_nil ?_ ?_ | refine vc_seq ?_
                  | refine vc_region ?_ | refine vc_cond ?_ | refine vc_block ?_ | refine vc_retc ?_ | refine vc_exit ?_ | refine vc_skip ?_ | refine vc_scope ?_ | refine vc_label ?_ | refine vc_goto ?_ | refine vc_wkSl0
                  | refine vc_wkHp0 | refine vc_eqAVs0 | refine vc_preG0 | refine vc_wkSl ?_ ?_ | refine vc_wkHp ?_ ?_ | refine vc_eqAVs ?_ ?_ | refine vc_preG ?_ ?_ | refine vc_ret [] [] ?_ | refine vc_weakf [] ?_ ?_ ?_
                  | refine vc_side0 ?_ | refine vc_and ?_ ?_)
          | ((with_reducible first | refine vc_caseD (fun h => ?_) (fun h => ?_) | refine vc_caseN (fun h => ?_) (fun h => ?_)) <;> try (exfalso; omega))
          | ((with_reducible refine vc_case (fun h => ?_) (fun h => ?_)) <;> (try simp at h) <;> try (exfalso; omega))
          | (conv in Vc _ => arg 1; whnf
             first
              | (with_reducible refine vc_side0 ?_; rfl)
              | (with_reducible first
                  | refine vc_true ?_ | refine vc_true2 ?_ | refine vc_side ?_ ?_ | refine vc_triv | refine vc_later ?_ | refine vc_caseT ?_ | refine vc_caseF ?_ | refine vc_cons ?_ | refine vc_nil ?_ ?_ | refine vc_seq ?_
                     | refine vc_region ?_ | refine vc_cond ?_ | refine vc_block ?_ | refine vc_retc ?_ | refine vc_exit ?_ | refine vc_skip ?_ | refine vc_scope ?_ | refine vc_label ?_ | refine vc_goto ?_ | refine vc_wkSl0
                     | refine vc_wkHp0 | refine vc_eqAVs0 | refine vc_preG0 | refine vc_wkSl ?_ ?_ | refine vc_wkHp ?_ ?_ | refine vc_eqAVs ?_ ?_ | refine vc_preG ?_ ?_ | refine vc_ret [] [] ?_ | refine vc_weakf [] ?_ ?_ ?_
                     | refine vc_side0 ?_ | refine vc_and ?_ ?_)
              | ((with_reducible first | refine vc_caseD (fun h => ?_) (fun h => ?_) | refine vc_caseN (fun h => ?_) (fun h => ?_)) <;> try (exfalso; omega))
              | ((with_reducible refine vc_case (fun h => ?_) (fun h => ?_)) <;> (try simp at h) <;> try (exfalso; omega))))
      all_goals first | rfl | (rw [wrap64_id (by omega) (by omega)]; rfl)
    exact ⟨m + 1, ⟨by omega, hI, s1 _ _ _ hJ' hx⟩, by omega⟩

end Go.Proofs.Ytbapkpmmanmbdaa
