import Derived.Test.YtdceegllpcepnaaJ1
import Derived.Test.YtdceegllpcepnaaJ2
import Derived.Test.YtdceegllpcepnaaJ3
import Derived.Test.YtdceegllpcepnaaJ4
import Derived.Test.YtdceegllpcepnaaJ5
import Derived.Test.YtdceegllpcepnaaJ6
set_option linter.unusedSimpArgs false
set_option linter.unusedVariables false
/-
Two ways from one root are the same, or two unlike texts have one digest; no program in sight.
-/
set_option linter.unusedSimpArgs false
set_option linter.unusedVariables false
namespace Go.Proofs.Ytdceegllpcepnaa
open Go.Sym
set_option maxRecDepth 10000
set_option maxHeartbeats 1000000

/-- Is there a pair at one place of two lists? -/
def twoB : List (List UInt8) → List (List UInt8) → Bool
  | x :: a, y :: b => pairB x y || twoB a b
  | _, _ => false
/-- What may stand at a way's end. -/
def isEnd (b : List UInt8) : Prop := b = emptyB ∨ ∃ a v : List UInt8, a.length = 32 ∧ v.length = 32 ∧ b = leafB a v
theorem endB_isEnd {p : Prf} (hw : wfP p) : isEnd (endB p) := by
  unfold endB
  by_cases h : p.fin = 1
  · rw [decide_eq_true h, cond_true]; exact .inr ⟨_, _, hw.2, hw.3, rfl⟩
  · rw [decide_eq_false h, cond_false]; exact .inl rfl
theorem stepB_head (idx : List UInt8) (d : Nat) (y x : List UInt8) : ∃ r, stepB idx d y x = 78 :: r := by
  unfold stepB
  cases bitI idx (d : Int)
  · exact ⟨_, rfl⟩
  · exact ⟨_, rfl⟩
theorem isEnd_step {idx : List UInt8} {d : Nat} {y x b : List UInt8} (hb : isEnd b) : ¬ b = stepB idx d y x := fun h => by
  obtain ⟨r, hr⟩ := stepB_head idx d y x
  rw [hr] at h
  rcases hb with rfl | ⟨a, v, _, _, rfl⟩
  · exact absurd (List.cons.inj h).1 (by decide)
  · exact absurd (List.cons.inj h).1 (by decide)
theorem stepB_inj {idx : List UInt8} {d : Nat} {y x z w : List UInt8} (hy : y.length = 32) (hx : x.length = 32) (hz : z.length = 32) (hw : w.length = 32) (h : stepB idx d y x = stepB idx d z w) : y = z ∧ x = w := by
  unfold stepB at h
  cases hb : bitI idx (d : Int) with
  | false =>
    rw [hb] at h
    have h := List.append_inj (List.cons.inj h).2 (by rw [hx, hw])
    exact ⟨h.2, h.1⟩
  | true =>
    rw [hb] at h
    exact List.append_inj (List.cons.inj h).2 (by rw [hy, hz])
theorem pair_same {a b : List UInt8} (h : shaB a = shaB b) : pairB a b = true ∨ a = b := by
  by_cases e : a = b
  · exact .inr e
  · refine .inl ?_
    unfold pairB
    rw [decide_eq_false e, decide_eq_true h]; rfl

theorem way_same (idx : List UInt8) : ∀ (ys zs : List (List UInt8)) (d : Nat) (b c : List UInt8), (∀ y, y ∈ ys → y.length = 32) → (∀ z, z ∈ zs → z.length = 32) → isEnd b → isEnd c →
    shaB ((wayL idx d ys b).headD []) = shaB ((wayL idx d zs c).headD []) → twoB (wayL idx d ys b) (wayL idx d zs c) = true ∨ (ys = zs ∧ b = c)
  | [], [], d, b, c, _, _, hb, hc, h => by
    rcases pair_same h with h | h
    · exact .inl (by simp only [wayL, twoB]; rw [show pairB b c = true from h]; rfl)
    · exact .inr ⟨rfl, h⟩
  | [], z :: zs, d, b, c, _, _, hb, hc, h => by
    rcases pair_same h with h | h
    · exact .inl (by simp only [wayL, twoB]; rw [show pairB b (stepB idx d z _) = true from h]; rfl)
    · exact absurd h (isEnd_step hb)
  | y :: ys, [], d, b, c, _, _, hb, hc, h => by
    rcases pair_same h with h | h
    · exact .inl (by simp only [wayL, twoB]; rw [show pairB (stepB idx d y _) c = true from h]; rfl)
    · exact absurd h.symm (isEnd_step hc)
  | y :: ys, z :: zs, d, b, c, hy, hz, hb, hc, h => by
    rcases pair_same h with h | h
    · exact .inl (by simp only [wayL, twoB]; rw [show pairB (stepB idx d y _) (stepB idx d z _) = true from h]; rfl)
    · obtain ⟨e1, e2⟩ := stepB_inj (hy y (by simp)) (shaB_length _) (hz z (by simp)) (shaB_length _) h
      rcases way_same idx ys zs (d + 1) b c (fun y h => hy y (by simp [h])) (fun z h => hz z (by simp [h])) hb hc e2 with h | ⟨h1, h2⟩
      · exact .inl (by simp only [wayL, twoB]; rw [h, Bool.or_true])
      · exact .inr ⟨by rw [e1, h1], h2⟩

theorem prf_same {idx : List UInt8} {p q : Prf} (hp : wfP p) (hq : wfP q) (h : rootP idx p = rootP idx q) : twoB (hashedP idx p) (hashedP idx q) = true ∨ (p.sides = q.sides ∧ endB p = endB q) :=
  way_same idx p.sides q.sides 0 (endB p) (endB q) hp.1 hq.1 (endB_isEnd hp) (endB_isEnd hq) h

/-- A pair found at a place. -/
theorem twoB_drop {a b : List (List UInt8)} {i : Nat} (ha : i < a.length) (hb : i < b.length) : twoB (a.drop i) (b.drop i) = (pairB (a.getD i []) (b.getD i []) || twoB (a.drop (i + 1)) (b.drop (i + 1))) := by
  have e1 : a.drop i = a.getD i [] :: a.drop (i + 1) := by
    rw [List.drop_eq_getElem_cons ha, List.getD_eq_getElem?_getD, List.getElem?_eq_getElem ha]; rfl
  have e2 : b.drop i = b.getD i [] :: b.drop (i + 1) := by
    rw [List.drop_eq_getElem_cons hb, List.getD_eq_getElem?_getD, List.getElem?_eq_getElem hb]; rfl
  rw [e1, e2]; rfl
theorem twoB_end {a b : List (List UInt8)} {i : Nat} (h : a.length ≤ i ∨ b.length ≤ i) : twoB (a.drop i) (b.drop i) = false := by
  rcases h with h | h
  · rw [List.drop_eq_nil_of_le h]; rfl
  · rw [List.drop_eq_nil_of_le h]
    cases a.drop i <;> rfl

/-- What a way that a tree tells proves. -/
theorem prfL_ok {l : Lvs} (hw : wfL l) (hn : (keysL l).Nodup) {idx : List UInt8} (hx : idx.length = 32) :
    okP (rootL l) idx (prfL l idx) = true ∧ (leafP (rootL l) idx (prfL l idx) = (getL l idx).isSome) ∧ valP (rootL l) idx (prfL l idx) = (getL l idx).getD zero32 := by
  have hr := prfL_root hw hn idx
  have hl := prove_leaf idx 256 0 l rfl hw hn (agree_zero l) (fun x _ j hj => absurd hj (Nat.not_lt_zero j))
  have hg := prove_get idx 256 0 l rfl hw hn (agree_zero l)
  have hle := prfL_len hw hn idx
  have h1 : okP (rootL l) idx (prfL l idx) = true := by
    unfold okP underP
    rw [decide_eq_true (prfL_right hw hn idx), decide_eq_true hr, Bool.and_true, Bool.true_and]
    unfold prfL at hle ⊢
    rw [prfO_sides] at hle ⊢
    generalize proveF 257 0 l idx = r at *
    cases h : r.2 with
    | none => rfl
    | some x =>
      have hc := common_ge hle fun j hj => (hl x h).2 j (by omega)
      show (!decide ((1 : Int) = 1) || decide ((common x.1 idx : Int) ≥ (r.1.length : Int))) = true
      rw [decide_eq_true (show (common x.1 idx : Int) ≥ (r.1.length : Int) by omega), Bool.or_true]
  refine ⟨h1, ?_, ?_⟩
  · unfold leafP
    rw [h1, Bool.true_and, hg]
    unfold prfL
    show _ = ((proveF 257 0 l idx).2.bind _).isSome
    generalize proveF 257 0 l idx = r
    cases r.2 with
    | none => rfl
    | some x =>
      show (decide ((1 : Int) = 1) && decide (x.1 = idx)) = (bif decide (x.1 = idx) then some x.2 else none).isSome
      cases decide (x.1 = idx) <;> rfl
  · have h2 : leafP (rootL l) idx (prfL l idx) = (decide ((prfL l idx).fin = 1) && decide ((prfL l idx).index = idx)) := by unfold leafP; rw [h1, Bool.true_and]
    unfold valP
    rw [h2, hg]
    unfold prfL
    show _ = ((proveF 257 0 l idx).2.bind _).getD zero32
    generalize proveF 257 0 l idx = r
    cases r.2 with
    | none => rfl
    | some x =>
      show (bif decide ((1 : Int) = 1) && decide (x.1 = idx) then x.2 else zero32) = (bif decide (x.1 = idx) then some x.2 else none).getD zero32
      cases decide (x.1 = idx) <;> rfl

end Go.Proofs.Ytdceegllpcepnaa

/-
What the references of the path layer do.
-/
set_option linter.unusedSimpArgs false
set_option linter.unusedVariables false
namespace Go.Proofs.Ytdceegllpcepnaa
open Go.Sym
set_option maxRecDepth 10000
set_option maxHeartbeats 1000000

theorem shr_half (c : UInt8) (j : Nat) : IntKind.i64.wrap (((c.toNat >>> j : Nat) : Int).tdiv 2) = ((c.toNat >>> (j + 1) : Nat) : Int) := by
  have h1 : c.toNat >>> (j + 1) = (c.toNat >>> j) / 2 := Nat.shiftRight_succ _ _
  have h2 : c.toNat >>> j ≤ c.toNat := by rw [Nat.shiftRight_eq_div_pow]; exact Nat.div_le_self _ _
  have h3 := c.toNat_lt
  rw [h1]
  generalize c.toNat >>> j = q at h2
  rw [Int.tdiv_eq_ediv_of_nonneg (by omega), wrap64_id (by omega) (by omega)]; omega

theorem shr_bit (c m : Nat) : (((c >>> m : Nat) : Int).tmod 2 == 1) = c.testBit m := by
  rw [Nat.testBit_eq_decide_div_mod_eq, ← Nat.shiftRight_eq_div_pow]
  generalize c >>> m = q
  rw [Int.tmod_eq_emod_of_nonneg (by omega)]
  rw [Bool.eq_iff_iff]
  simp
  omega

theorem setB_same {bs : List UInt8} (hb : bs.length = 32) {n : Nat} {on : Bool} (h : bitB bs n = on) : setB bs n on = bs := by
  refine dig_ext (ofBits_length _) hb fun m hm => ?_
  unfold setB
  rw [bitB_ofBits _ _ hm, beq_dec]
  by_cases h1 : m = n
  · subst h1; simp [h]
  · simp [h1]

theorem pow_two (j : Nat) : ((2 ^ j : Nat) : Int) * 2 = ((2 ^ (j + 1) : Nat) : Int) := by
  rw [Nat.pow_succ]; omega

theorem add_byte (c : UInt8) (m : Nat) (h : m < 8) (hb : c.toNat.testBit (7 - m) = false) : IntKind.u8.wrap ((c.toNat : Int) + IntKind.u8.wrap ((2 ^ (7 - m) : Nat) : Int)) = ((c.toNat + 2 ^ (7 - m) : Nat) : Int) ∧ c.toNat + 2 ^ (7 - m) < 256 := by
  have key : ∀ n : Fin 256, ∀ m : Fin 8, n.val.testBit (7 - m.val) = false → IntKind.u8.wrap ((n.val : Int) + IntKind.u8.wrap ((2 ^ (7 - m.val) : Nat) : Int)) = ((n.val + 2 ^ (7 - m.val) : Nat) : Int) ∧ n.val + 2 ^ (7 - m.val) < 256 := by decide +kernel
  exact key ⟨c.toNat, c.toNat_lt⟩ ⟨m, h⟩ hb
theorem add_bits (c : UInt8) (m : Nat) (h : m < 8) (hb : c.toNat.testBit (7 - m) = false) (j : Nat) (hj : j < 8) : (c.toNat + 2 ^ (7 - m)).testBit (7 - j) = bif j.beq m then true else c.toNat.testBit (7 - j) := by
  have key : ∀ n : Fin 256, ∀ m : Fin 8, n.val.testBit (7 - m.val) = false → ∀ j : Fin 8, (n.val + 2 ^ (7 - m.val)).testBit (7 - j.val) = bif j.val.beq m.val then true else n.val.testBit (7 - j.val) := by decide +kernel
  exact key ⟨c.toNat, c.toNat_lt⟩ ⟨m, h⟩ hb ⟨j, hj⟩
theorem sub_byte (c : UInt8) (m : Nat) (h : m < 8) (hb : c.toNat.testBit (7 - m) = true) : IntKind.u8.wrap ((c.toNat : Int) - IntKind.u8.wrap ((2 ^ (7 - m) : Nat) : Int)) = ((c.toNat - 2 ^ (7 - m) : Nat) : Int) ∧ c.toNat - 2 ^ (7 - m) < 256 := by
  have key : ∀ n : Fin 256, ∀ m : Fin 8, n.val.testBit (7 - m.val) = true → IntKind.u8.wrap ((n.val : Int) - IntKind.u8.wrap ((2 ^ (7 - m.val) : Nat) : Int)) = ((n.val - 2 ^ (7 - m.val) : Nat) : Int) ∧ n.val - 2 ^ (7 - m.val) < 256 := by decide +kernel
  exact key ⟨c.toNat, c.toNat_lt⟩ ⟨m, h⟩ hb
theorem sub_bits (c : UInt8) (m : Nat) (h : m < 8) (hb : c.toNat.testBit (7 - m) = true) (j : Nat) (hj : j < 8) : (c.toNat - 2 ^ (7 - m)).testBit (7 - j) = bif j.beq m then false else c.toNat.testBit (7 - j) := by
  have key : ∀ n : Fin 256, ∀ m : Fin 8, n.val.testBit (7 - m.val) = true → ∀ j : Fin 8, (n.val - 2 ^ (7 - m.val)).testBit (7 - j.val) = bif j.val.beq m.val then false else n.val.testBit (7 - j.val) := by decide +kernel
  exact key ⟨c.toNat, c.toNat_lt⟩ ⟨m, h⟩ hb ⟨j, hj⟩

theorem rBit_ok (xs : List D) (bs : List UInt8) (hx : xs = bs.map byteD) (hb : bs.length = 32) (i : Int) : LocalCall Try.prog 43 [.d (.arr 32 1 xs), .d (.int .i64 i)] [] [] (one [.d (.bool (bitI bs i))]) [] := by
  subst hx
  refine vc_fn mixed Try.func43 rfl rfl [] (vc_chk rfl) ?_
  repeat' (first
      | ((with_reducible refine vc_chk ?_); first | decide +kernel | rfl)
      | (with_reducible refine vc_side0 ?_; rfl)
      | (with_reducible first
           | refine vc_true ?_ | refine vc_true2 ?_ | refine vc_side ?_ ?_ | refine vc_triv | refine vc_later ?_ | refine vc_caseT ?_ | refine vc_caseF ?_ | refine vc_cons ?_ | refine vc_nil ?_ ?_ | refine vc_seq ?_
              | refine vc_region ?_ | refine vc_cond ?_ | refine vc_block ?_ | refine vc_retc ?_ | refine vc_exit ?_ | refine vc_skip ?_ | refine vc_scope ?_ | refine vc_label ?_ | refine vc_goto ?_ | refine vc_wkSl0
              | refine vc_wkHp0 | refine vc_eqAVs0 | refine vc_preG0 | refine vc_wkSl ?_ ?_ | refine vc_wkHp ?_ ?_ | refine vc_eqAVs ?_ ?_ | refine vc_preG ?_ ?_ | refine vc_side0 ?_
              | refine vc_loopI 29 (fun (j : Nat) => [(1, .d (.int .i64 i)), (5, .d (.int .i64 (((bs.getD (i.toNat / 8) 0).toNat >>> j : Nat) : Int))), (6, .d (.int .i64 ((7 - j : Nat) : Int)))]) (fun _ => []) (fun j => 7 - j) (fun j => j ≤ 7 - i.toNat % 8) 0 [] ?_ ?_ ?_ ?_ ?_ (fun j hj => ?_)
              | refine vc_nextI (j + 1) [] ?_ ?_ ?_ ?_ ?_ ?_ | refine vc_weakf [] ?_ ?_ ?_ | refine vc_and ?_ ?_ | refine vc_ret [] [] ?_)
      | ((with_reducible first | refine vc_caseD (fun h => ?_) (fun h => ?_) | refine vc_caseN (fun h => ?_) (fun h => ?_)) <;> try (exfalso; omega))
      | ((with_reducible refine vc_case (fun h => ?_) (fun h => ?_)) <;> (try simp at h) <;> try (exfalso; omega))
      | (conv in Vc _ => arg 1; whnf
         first
          | (with_reducible refine vc_side0 ?_; rfl)
          | (with_reducible first
              | refine vc_true ?_ | refine vc_true2 ?_ | refine vc_side ?_ ?_ | refine vc_triv | refine vc_later ?_ | refine vc_caseT ?_ | refine vc_caseF ?_ | refine vc_cons ?_ | refine vc_nil ?_ ?_ | refine vc_seq ?_
                 | refine vc_region ?_ | refine vc_cond ?_ | refine vc_block ?_ | refine vc_retc ?_ | refine vc_exit ?_ | refine vc_skip ?_ | refine vc_scope ?_ | refine vc_label ?_ | refine vc_goto ?_ | refine vc_wkSl0
                 | refine vc_wkHp0 | refine vc_eqAVs0 | refine vc_preG0 | refine vc_wkSl ?_ ?_ | refine vc_wkHp ?_ ?_ | refine vc_eqAVs ?_ ?_ | refine vc_preG ?_ ?_ | refine vc_side0 ?_
                 | refine vc_loopI 29 (fun (j : Nat) => [(1, .d (.int .i64 i)), (5, .d (.int .i64 (((bs.getD (i.toNat / 8) 0).toNat >>> j : Nat) : Int))), (6, .d (.int .i64 ((7 - j : Nat) : Int)))]) (fun _ => []) (fun j => 7 - j) (fun j => j ≤ 7 - i.toNat % 8) 0 [] ?_ ?_ ?_ ?_ ?_ (fun j hj => ?_)
                 | refine vc_nextI (j + 1) [] ?_ ?_ ?_ ?_ ?_ ?_ | refine vc_weakf [] ?_ ?_ ?_ | refine vc_and ?_ ?_ | refine vc_ret [] [] ?_)
          | ((with_reducible first | refine vc_caseD (fun h => ?_) (fun h => ?_) | refine vc_caseN (fun h => ?_) (fun h => ?_)) <;> try (exfalso; omega))
          | ((with_reducible refine vc_case (fun h => ?_) (fun h => ?_)) <;> (try simp at h) <;> try (exfalso; omega))))
  all_goals first | rw [bitI_neg bs (by omega)] | rw [bitI_big bs (by omega)] | skip
  all_goals
    obtain ⟨n, rfl⟩ : ∃ n : Nat, i = n := ⟨i.toNat, by omega⟩
    have hn : n < 256 := by omega
    have hc := (bs.getD (n / 8) 0).toNat_lt
    try simp only [div8 hn, mod8, Int.toNat_natCast, getD_byte (show n / 8 < bs.length by omega)] at *
  all_goals first
    | rfl
    | omega
    | exact ⟨⟨by omega, trivial⟩, rfl⟩
    | (simp only [byteD, D.toInt]; rw [wrap64_id (by omega) (by omega)]; rfl)
    | (rw [shr_half])
    | (rw [wrap64_id (by omega) (by omega)]; congr 1; omega)
    | (obtain rfl : j = 7 - n % 8 := by omega
       rw [bitI_nat bs hn]; exact congrArg D.bool (shr_bit _ _))

theorem set_add {bs : List UInt8} (hb : bs.length = 32) {n : Nat} (hn : n < 256) (h : bitB bs n = false) :
    (bs.map byteD).set (n / 8) (.int .u8 (IntKind.u8.wrap ((byteD (bs.getD (n / 8) 0)).toInt + IntKind.u8.wrap ((2 ^ (7 - n % 8) : Nat) : Int)))) = (setB bs n true).map byteD := by
  have hbf : (bs.getD (n / 8) 0).toNat.testBit (7 - n % 8) = false := h
  have := (add_byte _ _ (show n % 8 < 8 by omega) hbf).1
  simp only [byteD, D.toInt]
  rw [this]
  exact setByte hb hn (add_byte _ _ (by omega) hbf).2 fun j hj => add_bits _ _ (by omega) hbf j hj
theorem set_sub {bs : List UInt8} (hb : bs.length = 32) {n : Nat} (hn : n < 256) (h : bitB bs n = true) :
    (bs.map byteD).set (n / 8) (.int .u8 (IntKind.u8.wrap ((byteD (bs.getD (n / 8) 0)).toInt - IntKind.u8.wrap ((2 ^ (7 - n % 8) : Nat) : Int)))) = (setB bs n false).map byteD := by
  have hbf : (bs.getD (n / 8) 0).toNat.testBit (7 - n % 8) = true := h
  have := (sub_byte _ _ (show n % 8 < 8 by omega) hbf).1
  simp only [byteD, D.toInt]
  rw [this]
  exact setByte hb hn (sub_byte _ _ (by omega) hbf).2 fun j hj => sub_bits _ _ (by omega) hbf j hj

end Go.Proofs.Ytdceegllpcepnaa
