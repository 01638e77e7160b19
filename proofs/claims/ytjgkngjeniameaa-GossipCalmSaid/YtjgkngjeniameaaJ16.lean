import Derived.Test.YtjgkngjeniameaaJ13
import Derived.Test.YtjgkngjeniameaaJ15
set_option linter.unusedSimpArgs false
set_option linter.unusedVariables false
namespace Go.Proofs.Ytjgkngjeniameaa
open Go.Sym
set_option maxRecDepth 10000
set_option maxHeartbeats 4000000
theorem honN_walk (seed : List UInt8) (ts : List (List UInt8)) : ∀ n, n ≤ 60 → walk (hdP (pubH seed 1)) (honN seed ts n) = (honH seed ts n, n, 0)
  | 0, _ => rfl
  | n + 1, h => by
    have ih := honN_walk seed ts n (by omega)
    have hs : folE (honH seed ts n) (sealS seed (honH seed ts n) (ts.getD n [])) = 0 :=
      seal_follow seed (by rw [honH_epoch]; omega) (by rw [honH_key, honH_epoch]) _
    show walk _ (honN seed ts n ++ [_]) = _
    rw [walk_append, ih]
    show (bif decide ((0 : Int) = 0) then ((walk (honH seed ts n) [_]).1, n + (walk (honH seed ts n) [_]).2.1, (walk (honH seed ts n) [_]).2.2) else _) = _
    rw [walk_one hs]; rfl
theorem walk_cut {g : Hd} {l : List Sgn} (h : (walk g l).2.2 = 0) (k : Nat) : (walk g (l.take k)).2.2 = 0 := by
  by_cases hk : k < l.length
  · exact (walk_take h hk).1
  · rw [List.take_of_length_le (by omega)]; exact h
theorem getD_take {l : List Sgn} {k j : Nat} (h : j < k) : (l.take k).getD j s0 = l.getD j s0 := by
  rw [List.getD_eq_getElem?_getD, List.getD_eq_getElem?_getD, List.getElem?_take_of_lt h]
theorem partF_takes (l : List Sgn) (m k : Nat) : partF (l.take m) (l.take k) = none := by
  refine partF_none (i := min m k) ?_ fun j hj => by rw [getD_take (by omega), getD_take (by omega)]
  simp only [List.length_take]; omega
theorem hear_calm {pin : List UInt8} {l : List Sgn} (h : (walk (hdP pin) l).2.2 = 0) {m k : Nat} (hm : m ≤ l.length) (hk : k ≤ l.length) :
    hearI ⟨pin, l.take m, false, e0⟩ (l.take k) = 0 ∧ hearP ⟨pin, l.take m, false, e0⟩ (l.take k) = ⟨pin, l.take (max m k), false, e0⟩ := by
  have h0 : hearI ⟨pin, l.take m, false, e0⟩ (l.take k) = 0 := walk_cut h k
  refine ⟨h0, ?_⟩
  rw [hearP_yes h0]
  unfold hearT
  simp only [findF_none (partF_takes l m k), List.length_take, Nat.min_eq_left hm, Nat.min_eq_left hk]
  by_cases hh : m < k
  · rw [decide_eq_true hh, Nat.max_eq_right (by omega)]; rfl
  · rw [decide_eq_false hh, Nat.max_eq_left (by omega)]; rfl
theorem hear_new {pin : List UInt8} {l : List Sgn} (h : hearI ⟨pin, [], false, e0⟩ l = 0) : hearP ⟨pin, [], false, e0⟩ l = ⟨pin, l, false, e0⟩ := by
  rw [hearP_yes h]
  unfold hearT
  simp only [findF_none (show partF [] l = none from partF_none (i := 0) (.inl (Nat.le_refl _)) (fun j hj => absurd hj (Nat.not_lt_zero j)))]
  cases l with
  | nil => rfl
  | cons s l => rfl
theorem hear_two {pin : List UInt8} {l m : List Sgn} (hl : (walk (hdP pin) l).2.2 = 0) (hm : (walk (hdP pin) m).2.2 = 0) :
    hearP ⟨pin, l, false, e0⟩ m = match partF l m with | some k => ⟨pin, l, true, evAt l m k⟩ | none => ⟨pin, bif decide (l.length < m.length) then m else l, false, e0⟩ := by
  have h : hearI ⟨pin, l, false, e0⟩ m = 0 := hm
  rw [hearP_yes h]
  unfold hearT
  simp only [find_law hl hm]
  cases partF l m with
  | none => cases decide (l.length < m.length) <;> rfl
  | some k => rfl
theorem part_turn {l m : List Sgn} : partF m l = partF l m := by
  cases h : partF l m with
  | some k =>
    obtain ⟨h1, h2, h3, h4⟩ := partF_at h
    exact partF_some h2 h1 (fun j hj => (h4 j hj).symm) (fun e => h3 e.symm)
  | none =>
    cases h' : partF m l with
    | none => rfl
    | some k =>
      obtain ⟨h1, h2, h3, h4⟩ := partF_at h'
      have := partF_some h2 h1 (fun j hj => (h4 j hj).symm) (fun e => h3 e.symm)
      rw [h] at this; cases this
abbrev intD (n : Int) : D := .int .i64 n
theorem int_at {ns : List Int} {i : Nat} (hi : i < ns.length) : (ns.map intD).getD i .nilp = intD (ns.getD i 0) := (map_at (f := intD) (d := 0) hi).1
theorem int_ty {ns : List Int} {i : Nat} (hi : i < ns.length) : (ns.map intD).getD ((i : Int)).toNat .nilp = D.ty Try.prog 8 3 ((ns.map intD).getD ((i : Int)).toNat .nilp) := by
  rw [Int.toNat_natCast, int_at hi]; rfl
abbrev hN (ns : List Int) (i : Nat) : Int := ((ns.map intD).getD ((i : Int)).toNat .nilp).toInt
def kF (L : List Sgn) (n : Int) : Nat := (kK L n).toNat
theorem kF_ok {L : List Sgn} (n : Int) (h : L.length ≤ 40) : kK L n = (kF L n : Int) ∧ kF L n ≤ L.length := by
  obtain ⟨k, h1, h2⟩ := kK_eq L n h
  unfold kF
  rw [h2]
  exact ⟨rfl, h1⟩
theorem calm_cG {L : List Sgn} {n : Int} {m : Nat} (hl : L.length ≤ 40) (h : kK L n > (m : Int)) : D.sl (cutD (L.map sD) 0 (kK L n)) = D.sl ((L.take (max m (kF L n))).map sD) := by
  have hk := kF_ok n hl
  rw [hk.1] at h ⊢
  rw [cutS, Nat.max_eq_right (by omega)]
theorem calm_cL {L : List Sgn} {n : Int} {m : Nat} (hl : L.length ≤ 40) (h : ¬ kK L n > (m : Int)) : D.sl (cutD (L.map sD) 0 (m : Int)) = D.sl ((L.take (max m (kF L n))).map sD) := by
  have hk := kF_ok n hl
  rw [hk.1] at h
  rw [cutS, Nat.max_eq_left (by omega)]
theorem calm_mG {L : List Sgn} {n : Int} {m : Nat} (hl : L.length ≤ 40) (h : kK L n > (m : Int)) : D.int .i64 (kK L n) = D.int .i64 ((max m (kF L n) : Nat) : Int) := by
  have hk := kF_ok n hl
  rw [hk.1] at h ⊢
  rw [Nat.max_eq_right (by omega)]
theorem calm_mL {L : List Sgn} {n : Int} {m : Nat} (hl : L.length ≤ 40) (h : ¬ kK L n > (m : Int)) : D.int .i64 (m : Int) = D.int .i64 ((max m (kF L n) : Nat) : Int) := by
  have hk := kF_ok n hl
  rw [hk.1] at h
  rw [Nat.max_eq_left (by omega)]
theorem gossipCalm_main (seed : List UInt8) (hs : seed.length = 32) (ts : List (List UInt8)) (ht : ∀ t, t ∈ ts → t.length = 32) (ns : List Int) :
    LocalCall Try.prog 5 [.d (digD seed), .d (.sl (ts.map digD)), .d (.sl (ns.map intD))] [] [] (one [.d (.bool true)]) [] := by
  have lt : (ts.map digD).length = ts.length := List.length_map _
  have ln : (ns.map intD).length = ns.length := List.length_map _
  by_cases hg : ts.length ≤ 4 ∧ ns.length ≤ 8
  case neg =>
    refine vc_fn mixed Try.func5 rfl rfl [] (vzH rfl) ?_
    repeat' (first | ((with_reducible refine vzH ?_); first | decide +kernel | rfl) | (with_reducible refine vzC ?_; rfl) | (with_reducible first | (refine vzZ ?_; constructor) | refine vzC ?_ | refine vc_pure works24_ok ?_ ?_ ?_ | refine vzB [] ?_ ?_ ?_ | refine vzD ?_ ?_ | refine vc_ret [] [] ?_) | ((with_reducible first | refine vzE (fun h => ?_) (fun h => ?_) | refine vzF (fun h => ?_) (fun h => ?_)) <;> try (exfalso; omega)) | ((with_reducible refine vzG (fun h => ?_) (fun h => ?_)) <;> (try simp only [Go.Sym.vs1, reduceCtorEq] at h) <;> try (exfalso; first | omega | (simp at h; done))) | ((conv in Vc _ => arg 1; whnf); first | (with_reducible refine vzC ?_; rfl) | (with_reducible first | (refine vzZ ?_; constructor) | refine vzC ?_ | refine vc_pure works24_ok ?_ ?_ ?_ | refine vzB [] ?_ ?_ ?_ | refine vzD ?_ ?_ | refine vc_ret [] [] ?_) | ((with_reducible first | refine vzE (fun h => ?_) (fun h => ?_) | refine vzF (fun h => ?_) (fun h => ?_)) <;> try (exfalso; omega)) | ((with_reducible refine vzG (fun h => ?_) (fun h => ?_)) <;> (try simp only [Go.Sym.vs1, reduceCtorEq] at h) <;> try (exfalso; first | omega | (simp at h; done)))))
    all_goals first
      | with_reducible rfl
      | (exfalso; exact hg ⟨by omega, by omega⟩)
      | rfl
      | trace_state
  obtain ⟨g1, g2⟩ := hg
  have c1 := rHonest_ok seed hs ts ht (by omega)
  have c2 := rPin_ok seed hs
  have hp : (pubH seed 1).length = 32 := pubH_length _ _
  have hw := congrArg (fun x => x.2.2) (honN_walk seed ts ts.length (by omega))
  replace hw : (walk (hdP (pubH seed 1)) (honN seed ts ts.length)).2.2 = 0 := hw
  have lL := honN_length seed ts ts.length
  have wL := honN_wf seed ht (Nat.le_refl ts.length) (by omega)
  generalize honN seed ts ts.length = L at *
  generalize pubH seed 1 = pin at *
  have sL := walk_sig _ _ hw
  have c3 := gnew_ok pin hp
  have fp : ∀ m, fitP ⟨pin, L.take m, false, e0⟩ := fun m => ⟨fun s h => ⟨wL s (List.mem_of_mem_take h), by rw [sL s (List.mem_of_mem_take h)]; decide⟩, fit_e0⟩
  have wp : ∀ m, wfPe ⟨pin, L.take m, false, e0⟩ := fun m => ⟨hp, fun s h => wL s (List.mem_of_mem_take h), wf_e0⟩
  have tl : ∀ m, (L.take m).length ≤ 4 := fun m => by rw [List.length_take]; omega
  have c4 : ∀ m k, m ≤ L.length → k ≤ L.length → LocalCall Try.prog 12 [.d (prD ⟨pin, L.take m, false, e0⟩), .d (.sl ((L.take k).map sD))] [] [] (one [.d (prD ⟨pin, L.take (max m k), false, e0⟩), .d (.int .i64 0)]) [] := fun m k hm hk => by
    have h := hear_ok ⟨pin, L.take m, false, e0⟩ (wp m) (L.take k) (fun s h => wL s (List.mem_of_mem_take h)) (by have := tl m; show (L.take m).length ≤ _; omega) (Nat.zero_le _) (fp m) (by have := tl k; omega)
    rwa [(hear_calm hw hm hk).1, (hear_calm hw hm hk).2] at h
  have c5 : ∀ m, LocalCall Try.prog 23 [.d (.sl ((L.take m).map sD)), .d (.sl ((L.take m).map sD))] [] [] (one [.d (.bool true)]) [] := fun m => by
    have h := sameRoots_ok (L.take m) (L.take m) (by have := tl m; omega)
    rwa [decide_eq_true rfl] at h
  have lm : (L.map sD).length = L.length := List.length_map _
  have kk : ∀ n, kK L n = (kF L n : Int) ∧ kF L n ≤ L.length := fun n => kF_ok n (by omega)
  have l40 : L.length ≤ 40 := by omega
  have hr : ∀ n, 0 ≤ kK L n ∧ kK L n ≤ ((L.map sD).length : Int) := fun n => by have := kk n; rw [this.1, lm]; omega
  have kc : ∀ n, cutD (L.map sD) 0 (kK L n) = (L.take (kF L n)).map sD := fun n => by rw [(kk n).1]; exact cutS L _
  have hz : IntKind.u64.wrap (IntKind.i64.wrap (((L.map sD).length : Int) + 1)) ≠ 0 := by
    rw [List.length_map, wrap64_id (n := (L.length : Int) + 1) (by omega) (by omega), wrapU64_id (n := (L.length : Int) + 1) (by omega) (by omega)]; omega
  have sz : ∀ y, y ∈ L.map sD → y.size = szOf Try.prog 30 := fun y hy => by
    obtain ⟨s, _, rfl⟩ := List.mem_map.1 hy; rfl
  refine vc_fn mixed Try.func5 rfl rfl [] (vzH rfl) ?_
  repeat' (first | ((with_reducible refine vzH ?_); first | decide +kernel | rfl) | (with_reducible refine vzC ?_; rfl) | (with_reducible first | (refine vzZ ?_; constructor) | refine vzC ?_ | refine vc_pure works24_ok ?_ ?_ ?_ | refine vc_pure c1 ?_ ?_ ?_ | refine vc_pure c2 ?_ ?_ ?_ | refine vc_pure c3 ?_ ?_ ?_ | refine vc_loopI 73 (fun (x : Nat × Nat) => [(2, .d (.sl (ns.map intD))), (7, .d (.sl (L.map sD))), (8, .ptr 5012 []), (9, .d (.int .i64 (x.2 : Int))), (10, .d (.int .i64 (x.1 : Int)))]) (fun x => [(5012, .var (.d (prD ⟨pin, L.take x.2, false, e0⟩)))]) (fun x => ns.length - x.1) (fun x => x.1 ≤ ns.length ∧ x.2 ≤ L.length) (0, 0) [] ?_ ?_ ?_ ?_ ?_ (fun x hI => ?_) | refine vc_call [] (c4 x.2 (kF L (hN ns x.1)) hI.2 (kk _).2) ?_ | refine vc_call [] (c5 (max x.2 (kF L (hN ns x.1)))) ?_ | refine vc_nextI (x.1 + 1, max x.2 (kF L (hN ns x.1))) [] ?_ ?_ ?_ ?_ ?_ ?_ | refine vzB [] ?_ ?_ ?_ | refine vzD ?_ ?_ | refine vc_ret [] [] ?_) | ((with_reducible first | refine vzE (fun h => ?_) (fun h => ?_) | refine vzF (fun h => ?_) (fun h => ?_)) <;> try (exfalso; omega)) | ((with_reducible refine vzG (fun h => ?_) (fun h => ?_)) <;> (try simp only [Go.Sym.vs1, reduceCtorEq] at h) <;> try (exfalso; first | omega | (simp at h; done))) | ((conv in Vc _ => arg 1; whnf); first | (with_reducible refine vzC ?_; rfl) | (with_reducible first | (refine vzZ ?_; constructor) | refine vzC ?_ | refine vc_pure works24_ok ?_ ?_ ?_ | refine vc_pure c1 ?_ ?_ ?_ | refine vc_pure c2 ?_ ?_ ?_ | refine vc_pure c3 ?_ ?_ ?_ | refine vc_loopI 73 (fun (x : Nat × Nat) => [(2, .d (.sl (ns.map intD))), (7, .d (.sl (L.map sD))), (8, .ptr 5012 []), (9, .d (.int .i64 (x.2 : Int))), (10, .d (.int .i64 (x.1 : Int)))]) (fun x => [(5012, .var (.d (prD ⟨pin, L.take x.2, false, e0⟩)))]) (fun x => ns.length - x.1) (fun x => x.1 ≤ ns.length ∧ x.2 ≤ L.length) (0, 0) [] ?_ ?_ ?_ ?_ ?_ (fun x hI => ?_) | refine vc_call [] (c4 x.2 (kF L (hN ns x.1)) hI.2 (kk _).2) ?_ | refine vc_call [] (c5 (max x.2 (kF L (hN ns x.1)))) ?_ | refine vc_nextI (x.1 + 1, max x.2 (kF L (hN ns x.1))) [] ?_ ?_ ?_ ?_ ?_ ?_ | refine vzB [] ?_ ?_ ?_ | refine vzD ?_ ?_ | refine vc_ret [] [] ?_) | ((with_reducible first | refine vzE (fun h => ?_) (fun h => ?_) | refine vzF (fun h => ?_) (fun h => ?_)) <;> try (exfalso; omega)) | ((with_reducible refine vzG (fun h => ?_) (fun h => ?_)) <;> (try simp only [Go.Sym.vs1, reduceCtorEq] at h) <;> try (exfalso; first | omega | (simp at h; done)))))
  all_goals first
    | with_reducible rfl
    | exact ⟨Nat.zero_le _, Nat.zero_le _⟩
    | exact hz
    | exact ⟨⟨Int.le_refl 0, (hr _).1, (hr _).2⟩, sz⟩
    | exact ⟨⟨Int.le_refl 0, by omega, by omega⟩, sz⟩
    | exact ⟨⟨by omega, by omega⟩, int_ty (by omega)⟩
    | exact congrArg D.sl (kc _)
    | exact calm_cG l40 (by assumption)
    | exact calm_cL l40 (by assumption)
    | exact calm_mG l40 (by assumption)
    | exact calm_mL l40 (by assumption)
    | exact ⟨by show x.1 + 1 ≤ _; omega, Nat.max_le.2 ⟨hI.2, (kk _).2⟩⟩
    | (show ns.length - (x.1 + 1) < ns.length - x.1; omega)
    | exact absurd rfl h
    | (rw [wrap64_id (by omega) (by omega)]; rfl)
    | rfl
    | trace_state
theorem gossipFinds_main (pin : List UInt8) (hp : pin.length = 32) (l m : List Sgn) (hl : ∀ s, s ∈ l → wfS s) (hm : ∀ s, s ∈ m → wfS s) :
    LocalCall Try.prog 8 [.d (digD pin), .d (.sl (l.map sD)), .d (.sl (m.map sD))] [] [] (one [.d (.bool true)]) [] := by
  have xa : (l.map sD).length = l.length := List.length_map _
  have xb : (m.map sD).length = m.length := List.length_map _
  have f1 := few24_ok l
  have f2 := few24_ok m
  have c1 := gnew_ok pin hp
  have wf0 : ∀ c : List Sgn, (∀ s, s ∈ c → wfS s) → wfPe ⟨pin, c, false, e0⟩ := fun c h => ⟨hp, h, wf_e0⟩
  have h0 : ∀ c : List Sgn, (∀ s, s ∈ c → wfS s) → fewG c = true → _ := fun c h hf => hear_ok ⟨pin, [], false, e0⟩ (wf0 [] nofun) c h (Nat.zero_le _) (Nat.zero_le _) ⟨nofun, fit_e0⟩ (by have := fewG_le hf; omega)
  by_cases hg : fewG l = true ∧ fewG m = true
  case neg =>
    refine vc_fn mixed Try.func8 rfl rfl [] (vzH rfl) ?_
    repeat' (first | ((with_reducible refine vzH ?_); first | decide +kernel | rfl) | (with_reducible refine vzC ?_; rfl) | (with_reducible first | (refine vzZ ?_; constructor) | refine vzC ?_ | refine vc_pure f1 ?_ ?_ ?_ | refine vc_pure f2 ?_ ?_ ?_ | refine vc_pure works24_ok ?_ ?_ ?_ | refine vzB [] ?_ ?_ ?_ | refine vzD ?_ ?_ | refine vc_ret [] [] ?_) | ((with_reducible first | refine vzE (fun h => ?_) (fun h => ?_) | refine vzF (fun h => ?_) (fun h => ?_)) <;> try (exfalso; omega)) | ((with_reducible refine vzG (fun h => ?_) (fun h => ?_)) <;> (try simp only [Go.Sym.vs1, reduceCtorEq] at h) <;> try (exfalso; first | omega | (simp at h; done))) | ((conv in Vc _ => arg 1; whnf); first | (with_reducible refine vzC ?_; rfl) | (with_reducible first | (refine vzZ ?_; constructor) | refine vzC ?_ | refine vc_pure f1 ?_ ?_ ?_ | refine vc_pure f2 ?_ ?_ ?_ | refine vc_pure works24_ok ?_ ?_ ?_ | refine vzB [] ?_ ?_ ?_ | refine vzD ?_ ?_ | refine vc_ret [] [] ?_) | ((with_reducible first | refine vzE (fun h => ?_) (fun h => ?_) | refine vzF (fun h => ?_) (fun h => ?_)) <;> try (exfalso; omega)) | ((with_reducible refine vzG (fun h => ?_) (fun h => ?_)) <;> (try simp only [Go.Sym.vs1, reduceCtorEq] at h) <;> try (exfalso; first | omega | (simp at h; done)))))
    all_goals first
      | with_reducible rfl
      | (exfalso; exact hg ⟨by assumption, by assumption⟩)
      | rfl
      | trace_state
  obtain ⟨g1, g2⟩ := hg
  have la := fewG_le g1
  have lb := fewG_le g2
  have c2 := h0 l hl g1
  have c3 := h0 m hm g2
  rw [g1] at f1
  rw [g2] at f2
  by_cases hh : hearI ⟨pin, [], false, e0⟩ l = 0 ∧ hearI ⟨pin, [], false, e0⟩ m = 0
  case neg =>
    generalize hearI ⟨pin, [], false, e0⟩ l = r1 at *
    generalize hearI ⟨pin, [], false, e0⟩ m = r2 at *
    generalize hearP ⟨pin, [], false, e0⟩ l = p1 at *
    generalize hearP ⟨pin, [], false, e0⟩ m = p2 at *
    refine vc_fn mixed Try.func8 rfl rfl [] (vzH rfl) ?_
    repeat' (first | ((with_reducible refine vzH ?_); first | decide +kernel | rfl) | (with_reducible refine vzC ?_; rfl) | (with_reducible first | (refine vzZ ?_; constructor) | refine vzC ?_ | refine vc_pure f1 ?_ ?_ ?_ | refine vc_pure f2 ?_ ?_ ?_ | refine vc_pure c1 ?_ ?_ ?_ | refine vc_pure c2 ?_ ?_ ?_ | refine vc_pure c3 ?_ ?_ ?_ | refine vc_pure works24_ok ?_ ?_ ?_ | refine vzB [] ?_ ?_ ?_ | refine vzD ?_ ?_ | refine vc_ret [] [] ?_) | ((with_reducible first | refine vzE (fun h => ?_) (fun h => ?_) | refine vzF (fun h => ?_) (fun h => ?_)) <;> try (exfalso; omega)) | ((with_reducible refine vzG (fun h => ?_) (fun h => ?_)) <;> (try simp only [Go.Sym.vs1, reduceCtorEq] at h) <;> try (exfalso; first | omega | (simp at h; done))) | ((conv in Vc _ => arg 1; whnf); first | (with_reducible refine vzC ?_; rfl) | (with_reducible first | (refine vzZ ?_; constructor) | refine vzC ?_ | refine vc_pure f1 ?_ ?_ ?_ | refine vc_pure f2 ?_ ?_ ?_ | refine vc_pure c1 ?_ ?_ ?_ | refine vc_pure c2 ?_ ?_ ?_ | refine vc_pure c3 ?_ ?_ ?_ | refine vc_pure works24_ok ?_ ?_ ?_ | refine vzB [] ?_ ?_ ?_ | refine vzD ?_ ?_ | refine vc_ret [] [] ?_) | ((with_reducible first | refine vzE (fun h => ?_) (fun h => ?_) | refine vzF (fun h => ?_) (fun h => ?_)) <;> try (exfalso; omega)) | ((with_reducible refine vzG (fun h => ?_) (fun h => ?_)) <;> (try simp only [Go.Sym.vs1, reduceCtorEq] at h) <;> try (exfalso; first | omega | (simp at h; done)))))
    all_goals first
      | with_reducible rfl
      | (exfalso; exact hh ⟨by assumption, by assumption⟩)
      | exact absurd rfl h
      | rfl
      | trace_state
  obtain ⟨e1, e2⟩ := hh
  have kl : (walk (hdP pin) l).2.2 = 0 := e1
  have km : (walk (hdP pin) m).2.2 = 0 := e2
  rw [hear_new e1, e1] at c2
  rw [hear_new e2, e2] at c3
  have sl := walk_sig _ _ kl
  have sm := walk_sig _ _ km
  have fl : fitL l := fun s h => ⟨hl s h, by rw [sl s h]; decide⟩
  have fm : fitL m := fun s h => ⟨hm s h, by rw [sm s h]; decide⟩
  have c4 := gtell_ok ⟨pin, m, false, e0⟩ fm (show m.length ≤ 5000 by omega)
  have c5 := gtell_ok ⟨pin, l, false, e0⟩ fl (show l.length ≤ 5000 by omega)
  have c6 := gread_some (telB m) (telB_len fm (by omega)) m (tell_back (by omega) fun s h => ⟨hm s h, by rw [sm s h]; decide⟩)
  have c7 := gread_some (telB l) (telB_len fl (by omega)) l (tell_back (by omega) fun s h => ⟨hl s h, by rw [sl s h]; decide⟩)
  have c8 := hear_ok ⟨pin, l, false, e0⟩ (wf0 l hl) m hm (show l.length ≤ _ by omega) (Nat.zero_le _) ⟨fl, fit_e0⟩ (by omega)
  have c9 := hear_ok ⟨pin, m, false, e0⟩ (wf0 m hm) l hl (show m.length ≤ _ by omega) (Nat.zero_le _) ⟨fm, fit_e0⟩ (by omega)
  rw [show hearI ⟨pin, l, false, e0⟩ m = 0 from km, hear_two kl km] at c8
  rw [show hearI ⟨pin, m, false, e0⟩ l = 0 from kl, hear_two km kl, part_turn] at c9
  replace c4 : LocalCall Try.prog 24 [.d (prD ⟨pin, m, false, e0⟩)] [] [] (one [.d (.sl ((telB m).map byteD))]) [] := c4
  replace c5 : LocalCall Try.prog 24 [.d (prD ⟨pin, l, false, e0⟩)] [] [] (one [.d (.sl ((telB l).map byteD))]) [] := c5
  generalize telB m = tm at *
  generalize telB l = tl at *
  have ue : ∀ i, i ≤ l.length → i ≤ m.length → l.length ≤ i ∨ m.length ≤ i → unl l m i = (partF l m).isSome := fun i h1 h2 h => unl_end h1 h2 h
  cases hP : partF l m with
  | none =>
    rw [hP] at c8 c9
    simp only [] at c8 c9
    rw [hP] at ue
    generalize (bif decide (l.length < m.length) then m else l) = A at *
    generalize (bif decide (m.length < l.length) then l else m) = B at *
    refine vc_fn mixed Try.func8 rfl rfl [] (vzH rfl) ?_
    repeat' (first | ((with_reducible refine vzH ?_); first | decide +kernel | rfl) | (with_reducible refine vzC ?_; rfl) | (with_reducible first | (refine vzZ ?_; constructor) | refine vzC ?_ | refine vc_pure f1 ?_ ?_ ?_ | refine vc_pure f2 ?_ ?_ ?_ | refine vc_pure c1 ?_ ?_ ?_ | refine vc_pure c2 ?_ ?_ ?_ | refine vc_pure c3 ?_ ?_ ?_ | refine vc_pure c4 ?_ ?_ ?_ | refine vc_pure c5 ?_ ?_ ?_ | refine vc_pure c6 ?_ ?_ ?_ | refine vc_pure c7 ?_ ?_ ?_ | refine vc_pure c8 ?_ ?_ ?_ | refine vc_pure c9 ?_ ?_ ?_ | refine vc_pure works24_ok ?_ ?_ ?_ | refine vc_loopI 161 (fun (i : Nat) => [(1, .d (.sl (l.map sD))), (2, .d (.sl (m.map sD))), (3, .ptr 1000 []), (7, .ptr 4028 []), (9, .ptr 5028 []), (11, .d (.bool (unl l m i))), (12, .d (.int .i64 (i : Int)))]) (fun _ => [(1000, .var (.d (digD pin))), (4028, .var (.d (prD ⟨pin, l, false, e0⟩))), (5028, .var (.d (prD ⟨pin, m, false, e0⟩)))]) (fun i => l.length - i) (fun i => i ≤ l.length ∧ i ≤ m.length) 0 [] ?_ ?_ ?_ ?_ ?_ (fun i hI => ?_) | refine vc_nextI (i + 1) [] ?_ ?_ ?_ ?_ ?_ ?_ | refine vzB [] ?_ ?_ ?_ | refine vzD ?_ ?_ | refine vc_ret [] [] ?_) | ((with_reducible first | refine vzE (fun h => ?_) (fun h => ?_) | refine vzF (fun h => ?_) (fun h => ?_)) <;> try (exfalso; omega)) | ((with_reducible refine vzG (fun h => ?_) (fun h => ?_)) <;> (try simp only [Go.Sym.vs1, reduceCtorEq] at h) <;> try (exfalso; first | omega | (simp at h; done))) | ((conv in Vc _ => arg 1; whnf); first | (with_reducible refine vzC ?_; rfl) | (with_reducible first | (refine vzZ ?_; constructor) | refine vzC ?_ | refine vc_pure f1 ?_ ?_ ?_ | refine vc_pure f2 ?_ ?_ ?_ | refine vc_pure c1 ?_ ?_ ?_ | refine vc_pure c2 ?_ ?_ ?_ | refine vc_pure c3 ?_ ?_ ?_ | refine vc_pure c4 ?_ ?_ ?_ | refine vc_pure c5 ?_ ?_ ?_ | refine vc_pure c6 ?_ ?_ ?_ | refine vc_pure c7 ?_ ?_ ?_ | refine vc_pure c8 ?_ ?_ ?_ | refine vc_pure c9 ?_ ?_ ?_ | refine vc_pure works24_ok ?_ ?_ ?_ | refine vc_loopI 161 (fun (i : Nat) => [(1, .d (.sl (l.map sD))), (2, .d (.sl (m.map sD))), (3, .ptr 1000 []), (7, .ptr 4028 []), (9, .ptr 5028 []), (11, .d (.bool (unl l m i))), (12, .d (.int .i64 (i : Int)))]) (fun _ => [(1000, .var (.d (digD pin))), (4028, .var (.d (prD ⟨pin, l, false, e0⟩))), (5028, .var (.d (prD ⟨pin, m, false, e0⟩)))]) (fun i => l.length - i) (fun i => i ≤ l.length ∧ i ≤ m.length) 0 [] ?_ ?_ ?_ ?_ ?_ (fun i hI => ?_) | refine vc_nextI (i + 1) [] ?_ ?_ ?_ ?_ ?_ ?_ | refine vzB [] ?_ ?_ ?_ | refine vzD ?_ ?_ | refine vc_ret [] [] ?_) | ((with_reducible first | refine vzE (fun h => ?_) (fun h => ?_) | refine vzF (fun h => ?_) (fun h => ?_)) <;> try (exfalso; omega)) | ((with_reducible refine vzG (fun h => ?_) (fun h => ?_)) <;> (try simp only [Go.Sym.vs1, reduceCtorEq] at h) <;> try (exfalso; first | omega | (simp at h; done)))))
    all_goals (try have hi : i < l.length := (by omega))
    all_goals (try have hj : i < m.length := (by omega))
    all_goals (try simp only [Int.toNat_natCast, sgn_at hi, sgn_at hj] at *)
    all_goals first
      | with_reducible rfl
      | omega
      | exact ⟨trivial, trivial, trivial⟩
      | exact ⟨Nat.zero_le _, Nat.zero_le _⟩
      | exact ⟨⟨by omega, by omega⟩, rfl⟩
      | exact ⟨by omega, by omega⟩
      | exact ⟨by decide +kernel, fits_root 5 _, fits_root 5 _⟩
      | (rw [wrap64_id (by omega) (by omega)]; rfl)
      | (rw [unl_succ, h]; rfl)
      | (rw [unl_succ, h, Bool.false_or]; exact unl_bool _ _)
      | exact absurd (ue i hI.1 hI.2 (by omega)).symm h
      | (exfalso; have := ue i hI.1 hI.2 (by omega); rw [h] at this; cases this)
      | exact absurd rfl h
      | rfl
      | trace_state
  | some k =>
    rw [hP] at c8 c9
    simp only [] at c8 c9
    rw [hP] at ue
    have hQ : partF m l = some k := part_turn.trans hP
    obtain ⟨_, ok1⟩ := findF_at ((find_law kl km).trans hP)
    obtain ⟨_, ok2⟩ := findF_at ((find_law km kl).trans hQ)
    obtain ⟨s1, s2⟩ := okE_small ok1
    have w1 := evAt_wf hl hm k
    have w2 := evAt_wf hm hl k
    have fk := fit_of w1 (fun s hs => Nat.le_trans (s2 s hs) (by decide))
    have c10 := accuse_ok ⟨pin, l, true, evAt l m k⟩ ⟨fl, fk⟩ (show (evAt l m k).trunk.length ≤ 1000 by omega)
    replace c10 : LocalCall Try.prog 18 [.d (prD ⟨pin, l, true, evAt l m k⟩)] [] [] (one [.d (.sl ((evB (evAt l m k)).map byteD))]) [] := c10
    have rb := rdE_back w1 s1 s2
    have c11 := blame_ok ⟨pin, [], false, e0⟩ (wf0 [] nofun) ⟨nofun, fit_e0⟩ (Nat.zero_le _) (Nat.zero_le _) (evB (evAt l m k)) (evB_len fk (by omega))
    have bi : blamI ⟨pin, [], false, e0⟩ (evB (evAt l m k)) = 0 := (accV_back rb).trans (chkE_yes ok1)
    have bp : blamP ⟨pin, [], false, e0⟩ (evB (evAt l m k)) = ⟨pin, [], true, evAt l m k⟩ := by
      unfold blamP blamT
      rw [decide_eq_true bi, cond_true, rb]; rfl
    rw [bi, bp] at c11
    have c12 := echeck_ok pin hp (evAt l m k) w1 (by have := evAt_trunk l m k; omega)
    have c13 := echeck_ok pin hp (evAt m l k) w2 (by have := evAt_trunk m l k; omega)
    rw [chkE_yes ok1] at c12
    rw [chkE_yes ok2] at c13
    generalize evB (evAt l m k) = eb at *
    generalize evAt l m k = ea at *
    generalize evAt m l k = em at *
    refine vc_fn mixed Try.func8 rfl rfl [] (vzH rfl) ?_
    repeat' (first | ((with_reducible refine vzH ?_); first | decide +kernel | rfl) | (with_reducible refine vzC ?_; rfl) | (with_reducible first | (refine vzZ ?_; constructor) | refine vzC ?_ | refine vc_pure f1 ?_ ?_ ?_ | refine vc_pure f2 ?_ ?_ ?_ | refine vc_pure c1 ?_ ?_ ?_ | refine vc_pure c2 ?_ ?_ ?_ | refine vc_pure c3 ?_ ?_ ?_ | refine vc_pure c4 ?_ ?_ ?_ | refine vc_pure c5 ?_ ?_ ?_ | refine vc_pure c6 ?_ ?_ ?_ | refine vc_pure c7 ?_ ?_ ?_ | refine vc_pure c8 ?_ ?_ ?_ | refine vc_pure c9 ?_ ?_ ?_ | refine vc_pure c10 ?_ ?_ ?_ | refine vc_pure c11 ?_ ?_ ?_ | refine vc_pure c12 ?_ ?_ ?_ | refine vc_pure c13 ?_ ?_ ?_ | refine vc_pure works24_ok ?_ ?_ ?_ | refine vc_loopI 161 (fun (i : Nat) => [(1, .d (.sl (l.map sD))), (2, .d (.sl (m.map sD))), (3, .ptr 1000 []), (7, .ptr 4028 []), (9, .ptr 5028 []), (11, .d (.bool (unl l m i))), (12, .d (.int .i64 (i : Int)))]) (fun _ => [(1000, .var (.d (digD pin))), (4028, .var (.d (prD ⟨pin, l, false, e0⟩))), (5028, .var (.d (prD ⟨pin, m, false, e0⟩)))]) (fun i => l.length - i) (fun i => i ≤ l.length ∧ i ≤ m.length) 0 [] ?_ ?_ ?_ ?_ ?_ (fun i hI => ?_) | refine vc_nextI (i + 1) [] ?_ ?_ ?_ ?_ ?_ ?_ | refine vzB [] ?_ ?_ ?_ | refine vzD ?_ ?_ | refine vc_ret [] [] ?_) | ((with_reducible first | refine vzE (fun h => ?_) (fun h => ?_) | refine vzF (fun h => ?_) (fun h => ?_)) <;> try (exfalso; omega)) | ((with_reducible refine vzG (fun h => ?_) (fun h => ?_)) <;> (try simp only [Go.Sym.vs1, reduceCtorEq] at h) <;> try (exfalso; first | omega | (simp at h; done))) | ((conv in Vc _ => arg 1; whnf); first | (with_reducible refine vzC ?_; rfl) | (with_reducible first | (refine vzZ ?_; constructor) | refine vzC ?_ | refine vc_pure f1 ?_ ?_ ?_ | refine vc_pure f2 ?_ ?_ ?_ | refine vc_pure c1 ?_ ?_ ?_ | refine vc_pure c2 ?_ ?_ ?_ | refine vc_pure c3 ?_ ?_ ?_ | refine vc_pure c4 ?_ ?_ ?_ | refine vc_pure c5 ?_ ?_ ?_ | refine vc_pure c6 ?_ ?_ ?_ | refine vc_pure c7 ?_ ?_ ?_ | refine vc_pure c8 ?_ ?_ ?_ | refine vc_pure c9 ?_ ?_ ?_ | refine vc_pure c10 ?_ ?_ ?_ | refine vc_pure c11 ?_ ?_ ?_ | refine vc_pure c12 ?_ ?_ ?_ | refine vc_pure c13 ?_ ?_ ?_ | refine vc_pure works24_ok ?_ ?_ ?_ | refine vc_loopI 161 (fun (i : Nat) => [(1, .d (.sl (l.map sD))), (2, .d (.sl (m.map sD))), (3, .ptr 1000 []), (7, .ptr 4028 []), (9, .ptr 5028 []), (11, .d (.bool (unl l m i))), (12, .d (.int .i64 (i : Int)))]) (fun _ => [(1000, .var (.d (digD pin))), (4028, .var (.d (prD ⟨pin, l, false, e0⟩))), (5028, .var (.d (prD ⟨pin, m, false, e0⟩)))]) (fun i => l.length - i) (fun i => i ≤ l.length ∧ i ≤ m.length) 0 [] ?_ ?_ ?_ ?_ ?_ (fun i hI => ?_) | refine vc_nextI (i + 1) [] ?_ ?_ ?_ ?_ ?_ ?_ | refine vzB [] ?_ ?_ ?_ | refine vzD ?_ ?_ | refine vc_ret [] [] ?_) | ((with_reducible first | refine vzE (fun h => ?_) (fun h => ?_) | refine vzF (fun h => ?_) (fun h => ?_)) <;> try (exfalso; omega)) | ((with_reducible refine vzG (fun h => ?_) (fun h => ?_)) <;> (try simp only [Go.Sym.vs1, reduceCtorEq] at h) <;> try (exfalso; first | omega | (simp at h; done)))))
    all_goals (try have hi : i < l.length := (by omega))
    all_goals (try have hj : i < m.length := (by omega))
    all_goals (try simp only [Int.toNat_natCast, sgn_at hi, sgn_at hj] at *)
    all_goals first
      | with_reducible rfl
      | omega
      | exact ⟨trivial, trivial, trivial⟩
      | exact ⟨Nat.zero_le _, Nat.zero_le _⟩
      | exact ⟨⟨by omega, by omega⟩, rfl⟩
      | exact ⟨by omega, by omega⟩
      | exact ⟨by decide +kernel, fits_root 5 _, fits_root 5 _⟩
      | (rw [wrap64_id (by omega) (by omega)]; rfl)
      | (rw [unl_succ, h]; rfl)
      | (rw [unl_succ, h, Bool.false_or]; exact unl_bool _ _)
      | exact absurd (ue i hI.1 hI.2 (by omega)).symm h
      | (exfalso; have := ue i hI.1 hI.2 (by omega); rw [h] at this; cases this)
      | exact absurd rfl h
      | rfl
      | trace_state
end Go.Proofs.Ytjgkngjeniameaa
