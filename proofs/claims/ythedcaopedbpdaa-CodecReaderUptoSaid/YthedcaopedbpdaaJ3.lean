import Derived.Test.YthedcaopedbpdaaJ1
import Derived.Test.YthedcaopedbpdaaJ2
set_option linter.unusedSimpArgs false
set_option linter.unusedVariables false
/-
A function that defers a closure that recovers: 'codec.Read' and its like.
-/
namespace Go.Sym

def midK (en : List Nat) (n : Nat) (sl : List (Nat × AV)) (hp : List (Nat × AObj)) : AExit → St → Prop
  | .normal, S => S.n = n ∧ Weak en S sl hp
  | _, _ => False

theorem vc_mid {en : List Nat} {n : Nat} {sl : List (Nat × AV)} {hp : List (Nat × AObj)} {S : St} (m : List (Nat × Nat)) (hn : Vc (Chk (S.n.beq n))) (h1 : Vc (Chk (wkOK en m sl hp))) (h2 : Vc (wkSl S m sl)) (h3 : Vc (wkHp S m hp)) : Vc (S.n = n ∧ Weak en S sl hp) :=
  ⟨Nat.eq_of_beq_eq_true hn.h.h, ⟨m, h1.h, h2.h, h3.h⟩⟩

def CatG (N : Nat) (q : St → Prop) (S : St) : Prop := match S.hp N with
  | some (.var (.d (.int _ _))) => q (S.write [(N, .var (.d (.int .i64 3)))])
  | _ => False

def catK (P : Program) (fn : Func) (pre : List (Nat × AObj)) (nw : List Nat) (rs : List AV) (ws : List (Nat × AObj)) (fv : Value) (N : Nat) : Value → St → Prop :=
  fun v S => Side (v = fv) ∧ CatG N (RetC P fn pre nw rs ws) S

theorem InvAt.noMarks {E : Ent} {S : St} {ρ : Nat → Option Nat} {X : Nat → Prop} {a : Act} {w : World} (h : InvAt E S ρ X a w) (hn : E.nm = true) : a.defers = E.ds := by
  obtain ⟨ms, k1, k2, _⟩ := h.marks
  rw [k2 hn] at k1
  exact k1

theorem local_recovers {P : Program} (hm : P.follows .mixedOrders = true) {f : FuncId} {fn : Func} {c0 rest : Code} {rid : Nat} {o1 o2 : Oper} (hf : P.funcs[f]? = some fn) (hb : fn.body = some (.seq c0 (.seq (.region rid #[o1, o2] false) rest)))
    {g : FuncId} {t4 t6 : Nat} {c2 : Call} (h1o : o1.op = .makeFunc (.func g) #[] #[.tmp t4]) (h1g : o1.guard = none) (h1d : o1.dst = some t6) (h2o : o2.op = .defer c2) (h2g : o2.guard = none) (h2d : o2.dst = none) (h2c : c2.callee = .value (.tmp t6)) (h2a : c2.args = #[])
    {n : Nat} (hn : fn.ntmps = n) (fr : List (Nat × List Nat)) {args : List AV} {pre : List (Nat × AObj)} {nw : List Nat} {rs : List AV} {ws : List (Nat × AObj)} {sl2 : List (Nat × AV)} {hp2 : List (Nat × AObj)} {N : Nat} {fv : Value} {zo : Obj}
    (hidle : ∀ p w, CallsDIn (FR none) 0 P g #[.pointer (some p)] .returning w fun e u' w' => e = .returned (.tuple #[]) ∧ u' = .returning ∧ w' = w)
    (hcatch : ∀ p w k x, (w.alloc zo).cell? p = some (.int k x) → (w.alloc zo).frozen? p = false → CallsDIn (FR none) 0 P g #[.pointer (some p)] (.panicking [{ v := fv, recovered := false }]) w fun e u' w' =>
      e = .returned (.tuple #[]) ∧ u' = .panicking [{ v := fv, recovered := true }] ∧ w' = (w.alloc zo).setCell p (.int .i64 3))
    (hcl : callable P g = true) (hE : Vc (Chk (entOK n args pre))) (hsl : lkp sl2 t4 = some (.ptr N [])) (ht4 : t4 < n) (ht6 : t6 < n) (hn6 : lkp sl2 t6 = none)
    (h0 : Vc (fNs (pre.map (·.1)) fun en => Later (wpC P fr true en c0 (mkSt n (enumA 0 args) pre) (midK en n sl2 hp2) (fun _ _ => False))))
    (h2 : Vc (fNs (hp2.map (·.1)) fun en => Later (wpC P fr true en rest (mkSt n sl2 hp2) (fnK P fn pre nw rs ws) (catK P fn pre nw rs ws fv N)))) : LocalCall P f args pre nw (one rs) ws := by
  subst hn
  intro hp hpre hnw ρ X w vs hh hr hnn
  have h0 := h0.h
  have h2 := h2.h
  rw [fNs_eq, Later_eq] at h0 h2
  have hstart := hh.start hr hpre hE.h.h
  have hstart' : Inv ⟨fun o => lkp pre o, ρ, X, w, [], true⟩ (mkSt fn.ntmps (enumA 0 args) pre) { tmps := vs.toArray ++ Array.replicate (fn.ntmps - vs.toArray.size) undef, defers := [] } w := by
    obtain ⟨ρ', X', k⟩ := hstart
    exact ⟨ρ', X', ⟨k.sim, k.ext, k.xs, k.own, k.same, ⟨[], rfl, fun _ => rfl, List.nodup_nil, fun _ h => by cases h⟩⟩⟩
  refine calls_of_wp_marks hf hb (wpIn_seq (wpIn_mono (wpC_sound hm (E := ⟨fun o => lkp pre o, ρ, X, w, [], true⟩) c0 (fun h => by cases h) (fun n hn => pre_mem hn) h0 hstart') fun e a w1 he => ?_))
  cases e with
  | ret => obtain ⟨_, k1, _⟩ := he; exact k1.elim
  | exit i => obtain ⟨_, k1, _⟩ := he; exact k1.elim
  | goto l => obtain ⟨_, k1, _⟩ := he; exact k1.elim
  | panic ch => obtain ⟨_, _, _, k1, _⟩ := he; exact k1.elim
  | outgrown => exact he.elim
  | normal =>
  obtain ⟨S, ⟨hSn, hW⟩, hI⟩ := he
  have hI := hI.weak (fun n hn => pre_mem hn) hW
  rw [hSn] at hI
  obtain ⟨ρ1, X1, hA1⟩ := hI
  have had : a.defers = [] := hA1.noMarks rfl
  have hsz : a.tmps.size = fn.ntmps := hA1.sim.n
  have hv4 : a.tmps[t4]? = some a.tmps[t4] := Array.getElem?_eq_getElem (by omega)
  have hr4 := hA1.sim.slots t4 _ hv4
  have hs4 : (mkSt fn.ntmps sl2 hp2).sl t4 = .ptr N [] := by show (match lkp sl2 t4 with | some x => x | none => .top : AV) = _; rw [hsl]
  rw [hs4] at hr4
  obtain ⟨b, hb0, hxv⟩ := repA_ptr hr4
  have hpo : pOff [] = 0 := rfl
  rw [hpo] at hxv
  let p : Addr := ⟨b, 0, none⟩
  let d : Deferred := { target := .fn (.func g) #[.pointer (some p)], args := #[] }
  let a2 : Act := { tmps := a.tmps.setIfInBounds t6 (.func (.func g) #[] #[.pointer (some p)]), defers := [d] }
  have hev4 : a.eval (.tmp t4) = .pointer (some p) := by simp only [Act.eval]; rw [Array.getD_eq_getD_getElem?, hv4]; exact hxv
  have hmk : (execOp a.eval o1).run P w1 = .ok (.value (.func (.func g) #[] #[.pointer (some p)])) w1 := by
    simp only [execOp, h1o]
    simp [hev4, Instr.makeFunc]
  have hA2 : InvAt ⟨fun o => lkp hp2 o, ρ1, X1, w1, [d], true⟩ (mkSt fn.ntmps sl2 hp2) ρ1 X1 a2 w1 := by
    have hs := hA1.sim
    refine ⟨⟨by simp [a2, hsz, mkSt], fun t v ht => ?_, hs.objs, hs.inj, hs.own, hs.closedS, hs.closedH⟩, .refl _ _, fun b _ => ⟨id, .inl⟩, fun o x b k1 k2 k3 => .inr ⟨o, x, k1, k2, k3⟩, fun n hn => ⟨hn, rfl⟩, ⟨[], rfl, fun _ => rfl, List.nodup_nil, fun _ h => by cases h⟩⟩
    by_cases ht6' : t6 = t
    · subst ht6'
      show RepA _ _ _ (match lkp sl2 t6 with | some x => x | none => .top : AV) v
      rw [hn6]; trivial
    · refine hs.slots t v ?_
      simpa [a2, Array.getElem?_setIfInBounds_ne ht6'] using ht
  have hinv : ∀ w' : World, (invoke d.target d.args).run P w' = .ok (.enter g #[.pointer (some p)]) w' := fun w' => by
    simp only [invoke, d]
    exact callable_run hcl _ w'
  refine wpIn_seq (wpIn_region ?_)
  show wpOpsIn (FR none) 0 P #[o1, o2] _ [0, 1] a w1
  have hop1 : Region.wanted o1 (yielded #[o1, o2] a.tmps) = true := by simp [Region.wanted, h1g]
  simp only [wpOpsIn]
  have e0 : (#[o1, o2] : Array Oper)[0]? = some o1 := rfl
  have e1 : (#[o1, o2] : Array Oper)[1]? = some o2 := rfl
  rw [e0]
  simp only [hop1, if_true]
  refine ⟨fun _ _ => trivial, ?_⟩
  rw [Oper.semAt_eq _ _ _ (by rw [h1o]; intro c h; cases h), hmk, Oper.uponIn_value]
  rw [e1]
  have hop2 : Region.wanted o2 (yielded #[o1, o2] (a.put o1.dst (.func (.func g) #[] #[.pointer (some p)])).tmps) = true := by simp [Region.wanted, h2g]
  simp only [hop2, if_true]
  refine ⟨fun _ _ => trivial, ?_⟩
  have hdf : (execOp (a.put o1.dst (.func (.func g) #[] #[.pointer (some p)])).eval o2).run P w1 = .ok (.defer d) w1 := by
    have : (a.put o1.dst (.func (.func g) #[] #[.pointer (some p)])).eval (.tmp t6) = .func (.func g) #[] #[.pointer (some p)] := by
      rw [h1d]
      simp only [Act.eval, Act.put]
      rw [Array.getD_eq_getD_getElem?, Array.getElem?_setIfInBounds_self_of_lt (by omega)]
      rfl
    simp only [execOp, h2o, resolve, h2c, this, Deferred.ofValue, h2a]
    rw [run_bind_ok (run_pure _ w1), run_pure]
    simp [d]
  show o2.uponIn (FR none) 0 P _ _ _ ((Oper.semAt none _ o2).run P w1)
  rw [Oper.semAt_none, hdf, Oper.uponIn_defer]
  have ha2 : ({ (a.put o1.dst (.func (.func g) #[] #[.pointer (some p)])) with defers := d :: (a.put o1.dst (.func (.func g) #[] #[.pointer (some p)])).defers } : Act).put o2.dst undef = a2 := by
    rw [h2d, h1d]
    simp only [Act.put, had, a2]
  rw [ha2]
  refine wpIn_mono (wpC_sound hm (E := ⟨fun o => lkp hp2 o, ρ1, X1, w1, [d], true⟩) rest (fun h => by cases h) (fun n hn => pre_mem hn) h2 ⟨ρ1, X1, hA2⟩) fun e a3 w3 he => ?_
  have back : ∀ {S3 : St} {ρ3 : Nat → Option Nat} {X3 : Nat → Prop}, InvAt ⟨fun o => lkp hp2 o, ρ1, X1, w1, [d], true⟩ S3 ρ3 X3 a3 w3 → InvAt ⟨fun o => lkp pre o, ρ, X, w, [], true⟩ S3 ρ3 X3 { a3 with defers := [] } w3 := fun {S3 ρ3 X3} hA3 => by
    have hR := hA1.round hA3
    have hs := hA3.sim
    exact ⟨⟨hs.n, hs.slots, hs.objs, hs.inj, hs.own, hs.closedS, hs.closedH⟩, hR.ext, hR.xs, hR.own, hR.same, ⟨[], rfl, fun _ => rfl, List.nodup_nil, fun _ h => by cases h⟩⟩
  have fin : ∀ S3, RetC P fn pre nw rs ws S3 → Inv ⟨fun o => lkp hp2 o, ρ1, X1, w1, [d], true⟩ S3 a3 w3 → LeavesInM (FR none) 0 P fn a3.tmps (fun e w' => ∃ v, e = .returned v ∧ ∃ ρ' X', HSim (wr hp ws) ρ' X' w' ∧ HEvo hp (wr hp ws) ρ ρ' X X' w w' ∧ RepA ρ' X' w' (one rs) v ∧ ∀ n, n ∈ (one rs).names → wr hp ws n ≠ none) a3.defers .returning w3 := by
    intro S3 hS hI
    obtain ⟨ρ3, X3, hA3⟩ := hI
    rw [hA3.noMarks rfl]
    refine ⟨by simp, .inr ⟨fun h => (by cases h), .func g, _, g, _, rfl, hinv w3, fun _ _ => trivial, (hidle p w3).mono ?_⟩⟩
    rintro e' u' w' ⟨rfl, rfl, rfl⟩
    obtain ⟨v, hv, hrest⟩ := ret_fin hh hpre hnw (back hA3) hS
    exact ⟨v, hv, v, rfl, hrest⟩
  cases e with
  | normal => obtain ⟨S, k1, k2⟩ := he; exact fin S k1 k2
  | ret => obtain ⟨S, k1, k2⟩ := he; exact fin S k1 k2
  | exit i => obtain ⟨_, k1, _⟩ := he; exact k1.elim
  | goto l => obtain ⟨_, k1, _⟩ := he; exact k1.elim
  | outgrown => exact he.elim
  | panic ch =>
    obtain ⟨v, S3, rfl, ⟨k1, k2⟩, ρ3, X3, hA3⟩ := he
    rw [Side_eq] at k1
    subst k1
    unfold CatG at k2
    split at k2
    · rename_i k x hN
      have hρ3 : ρ3 N = some b := by
        rw [(hA3.same N (by
          have := hA2.sim.closedS t4 N (by rw [hs4]; simp [AV.names])
          exact this)).2]
        exact hb0
      show LeavesInM _ _ _ _ _ _ a3.defers _ w3
      rw [hA3.noMarks rfl]
      have hB := (back hA3).alloc zo
      obtain ⟨b', cs, T, z, q0, q1, q2, q3⟩ := hB.sim.objs N _ hN
      rw [hρ3] at q0; cases q0
      have hcs : cs = [.int k x] := by
        cases q3 with
        | d q3 => cases q3; rfl
      subst hcs
      have hcell : (w3.alloc zo).cell? p = some (.int k x) := by
        simp only [World.cell?, p, q1]; rfl
      have hfr : (w3.alloc zo).frozen? p = false := frozen_row q1 q2 (by simp)
      refine ⟨by simp, .inr ⟨fun h => (by cases h), .func g, _, g, _, rfl, hinv w3, fun _ _ => trivial, (hcatch p w3 k x hcell hfr).mono ?_⟩⟩
      rintro e' u' w' ⟨rfl, rfl, rfl⟩
      have hlay : (w3.alloc zo).setCell p (.int .i64 3) = World.lay (w3.alloc zo) b [.int .i64 3] := by
        rw [setCell_eq_setRow _ _ _ _ _ _ _ q1]; rfl
      rw [hlay]
      obtain ⟨s1, s2⟩ := hB.sim.lay (dst := none) (r := .top) (v := undef) (cs' := [.int .i64 3]) (x' := .var (.d (.int .i64 3))) hN rfl hρ3 q1 rfl (fun Y g hh => ⟨b, _, T, z, hρ3, hh, q2, .d (.int _ _)⟩) (fun m hm => by cases hm) (fun _ _ => trivial) (fun m hm => by cases hm)
      have hfin := hB.evo s1 s2 (fun n hn => upd_dom hn) rfl
      obtain ⟨v, hv, hrest⟩ := ret_fin hh hpre hnw hfin k2
      exact ⟨v, hv, v, rfl, hrest⟩
    · exact k2.elim

end Go.Sym

/-
A contract under other names.
-/
namespace Go.Sym

mutual
theorem AV.ren_ren {m mi : List (Nat × Nat)} : ∀ (x : AV), (∀ n, n ∈ x.names → renN mi (renN m n) = n) → (x.ren m).ren mi = x
  | .d _, _ => rfl
  | .ptr o p, h => by simp only [AV.ren]; rw [h o (by simp [AV.names])]
  | .sl o p e off len, h => by simp only [AV.ren]; rw [h o (by simp [AV.names])]
  | .st fs, h => by simp only [AV.ren]; rw [AV.rens_rens fs (by simpa [AV.names] using h)]
  | .dptr _, _ => rfl
  | .fn f cs, h => by simp only [AV.ren]; rw [AV.rens_rens cs (by simpa [AV.names] using h)]
  | .cst _, _ => rfl
  | .tup vs, h => by simp only [AV.ren]; rw [AV.rens_rens vs (by simpa [AV.names] using h)]
  | .top, _ => rfl
theorem AV.rens_rens {m mi : List (Nat × Nat)} : ∀ (xs : List AV), (∀ n, n ∈ AV.namesL xs → renN mi (renN m n) = n) → AV.rens mi (AV.rens m xs) = xs
  | [], _ => rfl
  | x :: xs, h => by
    simp only [AV.rens]
    rw [AV.ren_ren x (fun n hn => h n (by simp [AV.namesL, hn])), AV.rens_rens xs (fun n hn => h n (by simp [AV.namesL, hn]))]
end

mutual
theorem AV.names_ren {m : List (Nat × Nat)} {n : Nat} : ∀ (x : AV), n ∈ (x.ren m).names → ∃ k, k ∈ x.names ∧ n = renN m k
  | .d _, h => by cases h
  | .ptr o p, h => ⟨o, by simp [AV.names], by simpa [AV.ren, AV.names] using h⟩
  | .sl o p e off len, h => ⟨o, by simp [AV.names], by simpa [AV.ren, AV.names] using h⟩
  | .st fs, h => by simp only [AV.ren, AV.names] at h ⊢; exact AV.names_rens fs h
  | .dptr _, h => by cases h
  | .fn f cs, h => by simp only [AV.ren, AV.names] at h ⊢; exact AV.names_rens cs h
  | .cst _, h => by cases h
  | .tup vs, h => by simp only [AV.ren, AV.names] at h ⊢; exact AV.names_rens vs h
  | .top, h => by cases h
theorem AV.names_rens {m : List (Nat × Nat)} {n : Nat} : ∀ (xs : List AV), n ∈ AV.namesL (AV.rens m xs) → ∃ k, k ∈ AV.namesL xs ∧ n = renN m k
  | [], h => by cases h
  | x :: xs, h => by
    simp only [AV.rens, AV.namesL, List.mem_append] at h ⊢
    rcases h with h | h
    · obtain ⟨k, h1, h2⟩ := AV.names_ren x h; exact ⟨k, .inl h1, h2⟩
    · obtain ⟨k, h1, h2⟩ := AV.names_rens xs h; exact ⟨k, .inr h1, h2⟩
end

theorem AObj.ren_ren {m mi : List (Nat × Nat)} (x : AObj) (h : ∀ n, n ∈ x.names → renN mi (renN m n) = n) : (x.ren m).ren mi = x := by
  cases x with
  | var x => simp only [AObj.ren]; rw [AV.ren_ren x h]
  | row e xs => rfl
  | dead => rfl
theorem AObj.names_ren {m : List (Nat × Nat)} {n : Nat} (x : AObj) (h : n ∈ (x.ren m).names) : ∃ k, k ∈ x.names ∧ n = renN m k := by
  cases x with
  | var x => exact AV.names_ren x h
  | row e xs => cases h
  | dead => cases h

def renP (m : List (Nat × Nat)) (p : Nat × AObj) : Nat × AObj := (renN m p.1, p.2.ren m)

def renOK (m mi : List (Nat × Nat)) (args : List AV) (pre : List (Nat × AObj)) (nw : List Nat) (r : AV) (ws : List (Nat × AObj)) : Bool :=
  (pre.map (·.1) ++ nw).all (fun n => (renN mi (renN m n)).beq n) && (AV.namesL args).all (fun n => (pre.map (·.1)).contains n) && pre.all (fun p => p.2.names.all fun n => (pre.map (·.1)).contains n) &&
  r.names.all (fun n => (pre.map (·.1) ++ nw).contains n) && ws.all (fun p => (pre.map (·.1) ++ nw).contains p.1 && p.2.names.all fun n => (pre.map (·.1) ++ nw).contains n)

theorem lkp_of_mem {α : Type} {k : Nat} : ∀ {l : List (Nat × α)}, k ∈ l.map (·.1) → lkp l k ≠ none
  | [], h => by cases h
  | p :: l, h => by
    simp only [lkp]
    cases hb : p.1.beq k with
    | true => simp
    | false =>
      simp only [cond_false]
      refine lkp_of_mem ?_
      rcases List.mem_cons.1 h with h | h
      · subst h; simp at hb
      · exact h

theorem lkp_ren {m mi : List (Nat × Nat)} {k : Nat} (hk : renN mi (renN m k) = k) : ∀ {ws : List (Nat × AObj)}, (∀ p, p ∈ ws → renN mi (renN m p.1) = p.1) → lkp (ws.map (renP m)) (renN m k) = (lkp ws k).map (AObj.ren m)
  | [], _ => rfl
  | p :: ws, h => by
    simp only [List.map_cons, renP, lkp]
    have hp := h p (by simp)
    by_cases he : p.1 = k
    · subst he; simp
    · have h1 : p.1.beq k = false := by
        cases hb : p.1.beq k with
        | true => exact absurd (Nat.eq_of_beq_eq_true hb) he
        | false => rfl
      have h2 : (renN m p.1).beq (renN m k) = false := by
        cases hb : (renN m p.1).beq (renN m k) with
        | true => exact absurd (by have := congrArg (renN mi) (Nat.eq_of_beq_eq_true hb); rw [hp, hk] at this; exact this) he
        | false => rfl
      rw [h1, h2, cond_false, cond_false]
      exact lkp_ren hk fun q hq => h q (by simp [hq])

open Classical in
theorem local_ren {P : Program} {f : FuncId} {args : List AV} {pre : List (Nat × AObj)} {nw : List Nat} {r : AV} {ws : List (Nat × AObj)} (m mi : List (Nat × Nat)) (h : LocalCall P f args pre nw r ws) (hok : renOK m mi args pre nw r ws = true) :
    LocalCall P f (AV.rens m args) (pre.map (renP m)) (nw.map (renN m)) (r.ren m) (ws.map (renP m)) := by
  simp only [renOK, Bool.and_eq_true, List.all_eq_true, List.contains_eq_mem, decide_eq_true_eq] at hok
  obtain ⟨⟨⟨⟨c1, c2⟩, c3⟩, c4⟩, c5⟩ := hok
  have hK : ∀ n, n ∈ pre.map (·.1) ++ nw → renN mi (renN m n) = n := fun n hn => Nat.eq_of_beq_eq_true (c1 n hn)
  have hKp : ∀ n, n ∈ pre.map (·.1) → n ∈ pre.map (·.1) ++ nw := fun n hn => List.mem_append_left _ hn
  intro hp h1 h2 ρ X w vs hs hr hn
  have pre0 : ∀ n x, lkp pre n = some x → hp (renN m n) = some (x.ren m) := fun n x hl => h1 (renP m (n, x)) (List.mem_map.2 ⟨_, lkp_mem hl, rfl⟩)
  have preK : ∀ {n : Nat} {x : AObj}, lkp pre n = some x → n ∈ pre.map (·.1) := fun hl => List.mem_map.2 ⟨_, lkp_mem hl, rfl⟩
  have inj : ∀ {a b : Nat}, a ∈ pre.map (·.1) ++ nw → b ∈ pre.map (·.1) ++ nw → renN m a = renN m b → a = b := fun ha hb he => by rw [← hK _ ha, ← hK _ hb, he]
  have hs0 : HSim (fun n => lkp pre n) (fun n => ρ (renN m n)) X w := by
    refine ⟨fun n x hl => ObjAt.ren (hs.objs _ _ (pre0 n x hl)), fun n n' x x' b k1 k2 k3 k4 k5 k6 => ?_, fun n x b k1 k2 k3 => hs.own _ _ b (pre0 n x k1) (by rw [AObj.ren_alive]; exact k2) k3, fun n x hl n' hn' => lkp_of_mem (c3 _ (lkp_mem hl) n' hn')⟩
    exact inj (hKp _ (preK k1)) (hKp _ (preK k3)) (hs.inj _ _ _ _ b (pre0 n x k1) (by rw [AObj.ren_alive]; exact k2) (pre0 n' x' k3) (by rw [AObj.ren_alive]; exact k4) k5 k6)
  have hpre0 : ∀ p, p ∈ pre → lkp pre p.1 = some p.2 := fun p hp' => by
    have hm : p.1 ∈ pre.map (·.1) := List.mem_map.2 ⟨p, hp', rfl⟩
    cases hl : lkp pre p.1 with
    | none => exact absurd hl (lkp_of_mem hm)
    | some y =>
      have e1 := pre0 _ _ hl
      have e2 := h1 (renP m p) (List.mem_map.2 ⟨p, hp', rfl⟩)
      simp only [renP] at e2
      rw [e1] at e2
      have := congrArg (AObj.ren mi) (Option.some.inj e2)
      rw [AObj.ren_ren y (fun n hn => hK n (hKp n (c3 _ (lkp_mem hl) n hn))), AObj.ren_ren p.2 (fun n hn => hK n (hKp n (c3 _ hp' n hn)))] at this
      rw [this]
  have hnw0 : ∀ n, n ∈ nw → lkp pre n = none := fun n hn' => by
    cases hl : lkp pre n with
    | none => rfl
    | some y =>
      have e1 := pre0 _ _ hl
      rw [h2 _ (List.mem_map.2 ⟨n, hn', rfl⟩)] at e1; cases e1
  refine (h (fun n => lkp pre n) hpre0 hnw0 (fun n => ρ (renN m n)) X w vs hs0 hr.ren (fun n hn' => lkp_of_mem (c2 n hn'))).mono fun e w' ⟨v, e1, ρ', X', k1, k2, k3, k4⟩ => ?_
  let ρf : Nat → Option Nat := fun n => if hp n ≠ none then ρ n else ρ' (renN mi n)
  have hρo : ∀ n, hp n ≠ none → ρf n = ρ n := fun n hn' => if_pos hn'
  have hρf : ∀ k, k ∈ pre.map (·.1) ++ nw → ρf (renN m k) = ρ' k := fun k hk => by
    by_cases hp' : k ∈ pre.map (·.1)
    · have hl := lkp_of_mem hp'
      obtain ⟨x, hx⟩ := Option.ne_none_iff_exists'.1 hl
      rw [hρo _ (by rw [pre0 k x hx]; simp)]
      exact (k2.same k hl).symm
    · have hkn : k ∈ nw := (List.mem_append.1 hk).resolve_left hp'
      have : hp (renN m k) = none := h2 _ (List.mem_map.2 ⟨k, hkn, rfl⟩)
      show (if hp (renN m k) ≠ none then _ else _) = _
      rw [if_neg (by rw [this]; simp), hK k hk]
  have hwsK : ∀ p, p ∈ ws → p.1 ∈ pre.map (·.1) ++ nw := fun p hp' => (c5 p hp').1
  have hlk : ∀ k, k ∈ pre.map (·.1) ++ nw → lkp (ws.map (renP m)) (renN m k) = (lkp ws k).map (AObj.ren m) := fun k hk => lkp_ren (hK k hk) fun p hp' => hK _ (hwsK p hp')
  have g0 : Goes (fun n => ρ' (renN mi n)) ρf X' X' (fun _ => False) w' w' := ⟨.refl _ _, fun _ _ _ h => h, fun _ _ h => h⟩
  have hag : ∀ k, k ∈ pre.map (·.1) ++ nw → ρf (renN m k) = ρ' (renN mi (renN m k)) := fun k hk => by rw [hρf k hk, hK k hk]
  have wrNames : ∀ k y, wr (fun n => lkp pre n) ws k = some y → k ∈ pre.map (·.1) ++ nw ∧ ∀ n, n ∈ y.names → n ∈ pre.map (·.1) ++ nw := fun k y hw => by
    unfold wr at hw
    cases hl : lkp ws k with
    | some z => simp only [hl, Option.some.injEq] at hw; subst hw; exact ⟨hwsK _ (lkp_mem hl), (c5 _ (lkp_mem hl)).2⟩
    | none => simp only [hl] at hw; exact ⟨hKp _ (preK hw), fun n hn' => hKp _ (c3 _ (lkp_mem hw) n hn')⟩
  have conv : ∀ k y, wr (fun n => lkp pre n) ws k = some y → ObjAt ρf X' w' (renN m k) (y.ren m) := fun k y hw => by
    obtain ⟨q1, q2⟩ := wrNames k y hw
    have o1 := k1.objs k y hw
    have o2 : ObjAt ρ' X' w' (renN mi (renN m k)) ((y.ren m).ren mi) := by rw [hK k q1, AObj.ren_ren y fun n hn' => hK n (q2 n hn')]; exact o1
    refine (ObjAt.ren o2).mono g0 (hag k q1) (fun _ _ => rfl) fun n hn' => ?_
    obtain ⟨k', q3, rfl⟩ := AObj.names_ren y hn'
    exact hag k' (q2 k' q3)
  have hwr : ∀ k, k ∈ pre.map (·.1) ++ nw → wr hp (ws.map (renP m)) (renN m k) = (wr (fun n => lkp pre n) ws k).map (AObj.ren m) := fun k hk => by
    unfold wr
    rw [hlk k hk]
    cases hl : lkp ws k with
    | some y => rfl
    | none =>
      simp only [Option.map_none]
      cases hl2 : lkp pre k with
      | some y => simp only [Option.map_some]; exact pre0 k y hl2
      | none =>
        have hkn : k ∈ nw := (List.mem_append.1 hk).resolve_left fun hp' => lkp_of_mem hp' hl2
        exact h2 _ (List.mem_map.2 ⟨k, hkn, rfl⟩)
  have char : ∀ n x, wr hp (ws.map (renP m)) n = some x → (∃ k y, wr (fun n => lkp pre n) ws k = some y ∧ n = renN m k ∧ x = y.ren m) ∨ (hp n = some x ∧ ∀ k, k ∈ pre.map (·.1) ++ nw → n ≠ renN m k) := fun n x hw => by
    by_cases he : ∃ k, k ∈ pre.map (·.1) ++ nw ∧ n = renN m k
    · obtain ⟨k, hk, rfl⟩ := he
      rw [hwr k hk] at hw
      obtain ⟨y, hy, rfl⟩ := Option.map_eq_some_iff.1 hw
      exact .inl ⟨k, y, hy, rfl, rfl⟩
    · refine .inr ⟨?_, fun k hk e => he ⟨k, hk, e⟩⟩
      unfold wr at hw
      split at hw
      · rename_i z hl
        obtain ⟨p, hp', he'⟩ := List.mem_map.1 (lkp_mem hl)
        exact absurd ⟨p.1, hwsK p hp', (congrArg Prod.fst he').symm⟩ he
      · exact hw
  have ownedC : ∀ b, (∃ o x, lkp pre o = some x ∧ x.alive = true ∧ ρ (renN m o) = some b) → ∃ o x, hp o = some x ∧ x.alive = true ∧ ρ o = some b := fun b ⟨o, x, q1, q2, q3⟩ => ⟨_, _, pre0 o x q1, by rw [AObj.ren_alive]; exact q2, q3⟩
  have notB : ∀ n x b, hp n = some x → x.alive = true → ρ n = some b → (∀ k, k ∈ pre.map (·.1) ++ nw → n ≠ renN m k) → ¬ ∃ o x, lkp pre o = some x ∧ x.alive = true ∧ ρ (renN m o) = some b := fun n x b q1 q2 q3 q4 ⟨o, y, q5, q6, q7⟩ =>
    q4 o (hKp _ (preK q5)) (hs.inj _ _ _ _ b q1 q2 (pre0 o y q5) (by rw [AObj.ren_alive]; exact q6) q3 q7)
  have g : Goes ρ ρf X X' (fun b => ∃ o x, lkp pre o = some x ∧ x.alive = true ∧ ρ (renN m o) = some b) w w' := ⟨k2.ext, fun b _ hx hy => by obtain ⟨o, x, q1, q2, q3⟩ := ownedC b hy; exact hx (hs.own o x b q1 q2 q3), fun b hb hx => (k2.xs b hb).1 hx⟩
  have AB : ∀ k y n x b, wr (fun n => lkp pre n) ws k = some y → y.alive = true → ρ' k = some b → hp n = some x → x.alive = true → ρ n = some b → (∀ k, k ∈ pre.map (·.1) ++ nw → n ≠ renN m k) → False := fun k y n x b q1 q2 q3 q4 q5 q6 q7 => by
    rcases k2.own k y b q1 q2 q3 with hb | hb
    · have := (hs.objs n x q4).lt q5 q6; omega
    · exact notB n x b q4 q5 q6 q7 hb
  refine ⟨v, e1, ρf, X', ⟨fun n x hw => ?_, fun n n' x x' b q1 q2 q3 q4 q5 q6 => ?_, fun n x b q1 q2 q3 => ?_, fun n x q1 n' hn' => ?_⟩, ⟨k2.ext.mono fun b _ hb => ownedC b hb, fun b hb => ⟨(k2.xs b hb).1, fun hx => ((k2.xs b hb).2 hx).imp id (ownedC b)⟩, fun n x b q1 q2 q3 => ?_, fun n hn' => hρo n hn'⟩, ?_, fun n hn' => ?_⟩
  · rcases char n x hw with ⟨k, y, q1, rfl, rfl⟩ | ⟨q1, q2⟩
    · exact conv k y q1
    · cases ha : x.alive with
      | false => cases x <;> first | trivial | cases ha
      | true => exact (hs.objs n x q1).mono g (hρo n (by rw [q1]; simp)) (fun b hb => k2.ext.keep b ((hs.objs n x q1).lt ha hb) (notB n x b q1 ha hb q2)) fun o ho => hρo o (hs.closed n x q1 o ho)
  · rcases char n x q1 with ⟨k, y, p1, rfl, rfl⟩ | ⟨p1, p2⟩
    · rw [hρf k (wrNames k y p1).1] at q5
      rw [AObj.ren_alive] at q2
      rcases char n' x' q3 with ⟨k', y', p3, rfl, rfl⟩ | ⟨p3, p4⟩
      · rw [hρf k' (wrNames k' y' p3).1] at q6
        rw [AObj.ren_alive] at q4
        rw [k1.inj k k' y y' b p1 q2 p3 q4 q5 q6]
      · rw [hρo n' (by rw [p3]; simp)] at q6
        exact (AB k y n' x' b p1 q2 q5 p3 q4 q6 p4).elim
    · rw [hρo n (by rw [p1]; simp)] at q5
      rcases char n' x' q3 with ⟨k', y', p3, rfl, rfl⟩ | ⟨p3, p4⟩
      · rw [hρf k' (wrNames k' y' p3).1] at q6
        rw [AObj.ren_alive] at q4
        exact (AB k' y' n x b p3 q4 q6 p1 q2 q5 p2).elim
      · rw [hρo n' (by rw [p3]; simp)] at q6
        exact hs.inj n n' x x' b p1 q2 p3 q4 q5 q6
  · rcases char n x q1 with ⟨k, y, p1, rfl, rfl⟩ | ⟨p1, p2⟩
    · rw [hρf k (wrNames k y p1).1] at q3
      exact k1.own k y b p1 (by rw [AObj.ren_alive] at q2; exact q2) q3
    · rw [hρo n (by rw [p1]; simp)] at q3
      exact ((k2.xs b ((hs.objs n x p1).lt q2 q3)).2 (hs.own n x b p1 q2 q3)).resolve_right (notB n x b p1 q2 q3 p2)
  · rcases char n x q1 with ⟨k, y, p1, rfl, rfl⟩ | ⟨p1, p2⟩
    · obtain ⟨k', p3, rfl⟩ := AObj.names_ren y hn'
      rw [hwr k' ((wrNames k y p1).2 k' p3)]
      have := k1.closed k y p1 k' p3
      cases hz : wr (fun n => lkp pre n) ws k' with
      | none => exact absurd hz this
      | some z => simp
    · exact wr_ne (hs.closed n x p1 n' hn')
  · rcases char n x q1 with ⟨k, y, p1, rfl, rfl⟩ | ⟨p1, p2⟩
    · rw [hρf k (wrNames k y p1).1] at q3
      exact (k2.own k y b p1 (by rw [AObj.ren_alive] at q2; exact q2) q3).imp id (ownedC b)
    · rw [hρo n (by rw [p1]; simp)] at q3
      exact .inr ⟨n, x, p1, q2, q3⟩
  · have o2 : RepA ρ' X' w' ((r.ren m).ren mi) v := by rw [AV.ren_ren r fun n hn' => hK n (c4 n hn')]; exact k3
    refine (RepA.ren o2).mono g0 fun n hn' => ?_
    obtain ⟨k', q3, rfl⟩ := AV.names_ren r hn'
    exact hag k' (c4 k' q3)
  · obtain ⟨k', q3, rfl⟩ := AV.names_ren r hn'
    rw [hwr k' (c4 k' q3)]
    have := k4 k' q3
    cases hz : wr (fun n => lkp pre n) ws k' with
    | none => exact absurd hz this
    | some z => simp

open Classical in
theorem localPan_ren {P : Program} {f : FuncId} {args : List AV} {pre : List (Nat × AObj)} {nw : List Nat} {pv : Value} {ws : List (Nat × AObj)} (m mi : List (Nat × Nat)) (h : LocalPan P f args pre nw pv ws) (hok : renOK m mi args pre nw .top ws = true) :
    LocalPan P f (AV.rens m args) (pre.map (renP m)) (nw.map (renN m)) pv (ws.map (renP m)) := by
  simp only [renOK, Bool.and_eq_true, List.all_eq_true, List.contains_eq_mem, decide_eq_true_eq] at hok
  obtain ⟨⟨⟨⟨c1, c2⟩, c3⟩, c4⟩, c5⟩ := hok
  have hK : ∀ n, n ∈ pre.map (·.1) ++ nw → renN mi (renN m n) = n := fun n hn => Nat.eq_of_beq_eq_true (c1 n hn)
  have hKp : ∀ n, n ∈ pre.map (·.1) → n ∈ pre.map (·.1) ++ nw := fun n hn => List.mem_append_left _ hn
  intro hp h1 h2 ρ X w vs hs hr hn
  have pre0 : ∀ n x, lkp pre n = some x → hp (renN m n) = some (x.ren m) := fun n x hl => h1 (renP m (n, x)) (List.mem_map.2 ⟨_, lkp_mem hl, rfl⟩)
  have preK : ∀ {n : Nat} {x : AObj}, lkp pre n = some x → n ∈ pre.map (·.1) := fun hl => List.mem_map.2 ⟨_, lkp_mem hl, rfl⟩
  have inj : ∀ {a b : Nat}, a ∈ pre.map (·.1) ++ nw → b ∈ pre.map (·.1) ++ nw → renN m a = renN m b → a = b := fun ha hb he => by rw [← hK _ ha, ← hK _ hb, he]
  have hs0 : HSim (fun n => lkp pre n) (fun n => ρ (renN m n)) X w := by
    refine ⟨fun n x hl => ObjAt.ren (hs.objs _ _ (pre0 n x hl)), fun n n' x x' b k1 k2 k3 k4 k5 k6 => ?_, fun n x b k1 k2 k3 => hs.own _ _ b (pre0 n x k1) (by rw [AObj.ren_alive]; exact k2) k3, fun n x hl n' hn' => lkp_of_mem (c3 _ (lkp_mem hl) n' hn')⟩
    exact inj (hKp _ (preK k1)) (hKp _ (preK k3)) (hs.inj _ _ _ _ b (pre0 n x k1) (by rw [AObj.ren_alive]; exact k2) (pre0 n' x' k3) (by rw [AObj.ren_alive]; exact k4) k5 k6)
  have hpre0 : ∀ p, p ∈ pre → lkp pre p.1 = some p.2 := fun p hp' => by
    have hm : p.1 ∈ pre.map (·.1) := List.mem_map.2 ⟨p, hp', rfl⟩
    cases hl : lkp pre p.1 with
    | none => exact absurd hl (lkp_of_mem hm)
    | some y =>
      have e1 := pre0 _ _ hl
      have e2 := h1 (renP m p) (List.mem_map.2 ⟨p, hp', rfl⟩)
      simp only [renP] at e2
      rw [e1] at e2
      have := congrArg (AObj.ren mi) (Option.some.inj e2)
      rw [AObj.ren_ren y (fun n hn => hK n (hKp n (c3 _ (lkp_mem hl) n hn))), AObj.ren_ren p.2 (fun n hn => hK n (hKp n (c3 _ hp' n hn)))] at this
      rw [this]
  have hnw0 : ∀ n, n ∈ nw → lkp pre n = none := fun n hn' => by
    cases hl : lkp pre n with
    | none => rfl
    | some y =>
      have e1 := pre0 _ _ hl
      rw [h2 _ (List.mem_map.2 ⟨n, hn', rfl⟩)] at e1; cases e1
  refine (h (fun n => lkp pre n) hpre0 hnw0 (fun n => ρ (renN m n)) X w vs hs0 hr.ren (fun n hn' => lkp_of_mem (c2 n hn'))).mono fun e w' ⟨e1, ρ', X', k1, k2⟩ => ?_
  let ρf : Nat → Option Nat := fun n => if hp n ≠ none then ρ n else ρ' (renN mi n)
  have hρo : ∀ n, hp n ≠ none → ρf n = ρ n := fun n hn' => if_pos hn'
  have hρf : ∀ k, k ∈ pre.map (·.1) ++ nw → ρf (renN m k) = ρ' k := fun k hk => by
    by_cases hp' : k ∈ pre.map (·.1)
    · have hl := lkp_of_mem hp'
      obtain ⟨x, hx⟩ := Option.ne_none_iff_exists'.1 hl
      rw [hρo _ (by rw [pre0 k x hx]; simp)]
      exact (k2.same k hl).symm
    · have hkn : k ∈ nw := (List.mem_append.1 hk).resolve_left hp'
      have : hp (renN m k) = none := h2 _ (List.mem_map.2 ⟨k, hkn, rfl⟩)
      show (if hp (renN m k) ≠ none then _ else _) = _
      rw [if_neg (by rw [this]; simp), hK k hk]
  have hwsK : ∀ p, p ∈ ws → p.1 ∈ pre.map (·.1) ++ nw := fun p hp' => (c5 p hp').1
  have hlk : ∀ k, k ∈ pre.map (·.1) ++ nw → lkp (ws.map (renP m)) (renN m k) = (lkp ws k).map (AObj.ren m) := fun k hk => lkp_ren (hK k hk) fun p hp' => hK _ (hwsK p hp')
  have g0 : Goes (fun n => ρ' (renN mi n)) ρf X' X' (fun _ => False) w' w' := ⟨.refl _ _, fun _ _ _ h => h, fun _ _ h => h⟩
  have hag : ∀ k, k ∈ pre.map (·.1) ++ nw → ρf (renN m k) = ρ' (renN mi (renN m k)) := fun k hk => by rw [hρf k hk, hK k hk]
  have wrNames : ∀ k y, wr (fun n => lkp pre n) ws k = some y → k ∈ pre.map (·.1) ++ nw ∧ ∀ n, n ∈ y.names → n ∈ pre.map (·.1) ++ nw := fun k y hw => by
    unfold wr at hw
    cases hl : lkp ws k with
    | some z => simp only [hl, Option.some.injEq] at hw; subst hw; exact ⟨hwsK _ (lkp_mem hl), (c5 _ (lkp_mem hl)).2⟩
    | none => simp only [hl] at hw; exact ⟨hKp _ (preK hw), fun n hn' => hKp _ (c3 _ (lkp_mem hw) n hn')⟩
  have conv : ∀ k y, wr (fun n => lkp pre n) ws k = some y → ObjAt ρf X' w' (renN m k) (y.ren m) := fun k y hw => by
    obtain ⟨q1, q2⟩ := wrNames k y hw
    have o1 := k1.objs k y hw
    have o2 : ObjAt ρ' X' w' (renN mi (renN m k)) ((y.ren m).ren mi) := by rw [hK k q1, AObj.ren_ren y fun n hn' => hK n (q2 n hn')]; exact o1
    refine (ObjAt.ren o2).mono g0 (hag k q1) (fun _ _ => rfl) fun n hn' => ?_
    obtain ⟨k', q3, rfl⟩ := AObj.names_ren y hn'
    exact hag k' (q2 k' q3)
  have hwr : ∀ k, k ∈ pre.map (·.1) ++ nw → wr hp (ws.map (renP m)) (renN m k) = (wr (fun n => lkp pre n) ws k).map (AObj.ren m) := fun k hk => by
    unfold wr
    rw [hlk k hk]
    cases hl : lkp ws k with
    | some y => rfl
    | none =>
      simp only [Option.map_none]
      cases hl2 : lkp pre k with
      | some y => simp only [Option.map_some]; exact pre0 k y hl2
      | none =>
        have hkn : k ∈ nw := (List.mem_append.1 hk).resolve_left fun hp' => lkp_of_mem hp' hl2
        exact h2 _ (List.mem_map.2 ⟨k, hkn, rfl⟩)
  have char : ∀ n x, wr hp (ws.map (renP m)) n = some x → (∃ k y, wr (fun n => lkp pre n) ws k = some y ∧ n = renN m k ∧ x = y.ren m) ∨ (hp n = some x ∧ ∀ k, k ∈ pre.map (·.1) ++ nw → n ≠ renN m k) := fun n x hw => by
    by_cases he : ∃ k, k ∈ pre.map (·.1) ++ nw ∧ n = renN m k
    · obtain ⟨k, hk, rfl⟩ := he
      rw [hwr k hk] at hw
      obtain ⟨y, hy, rfl⟩ := Option.map_eq_some_iff.1 hw
      exact .inl ⟨k, y, hy, rfl, rfl⟩
    · refine .inr ⟨?_, fun k hk e => he ⟨k, hk, e⟩⟩
      unfold wr at hw
      split at hw
      · rename_i z hl
        obtain ⟨p, hp', he'⟩ := List.mem_map.1 (lkp_mem hl)
        exact absurd ⟨p.1, hwsK p hp', (congrArg Prod.fst he').symm⟩ he
      · exact hw
  have ownedC : ∀ b, (∃ o x, lkp pre o = some x ∧ x.alive = true ∧ ρ (renN m o) = some b) → ∃ o x, hp o = some x ∧ x.alive = true ∧ ρ o = some b := fun b ⟨o, x, q1, q2, q3⟩ => ⟨_, _, pre0 o x q1, by rw [AObj.ren_alive]; exact q2, q3⟩
  have notB : ∀ n x b, hp n = some x → x.alive = true → ρ n = some b → (∀ k, k ∈ pre.map (·.1) ++ nw → n ≠ renN m k) → ¬ ∃ o x, lkp pre o = some x ∧ x.alive = true ∧ ρ (renN m o) = some b := fun n x b q1 q2 q3 q4 ⟨o, y, q5, q6, q7⟩ =>
    q4 o (hKp _ (preK q5)) (hs.inj _ _ _ _ b q1 q2 (pre0 o y q5) (by rw [AObj.ren_alive]; exact q6) q3 q7)
  have g : Goes ρ ρf X X' (fun b => ∃ o x, lkp pre o = some x ∧ x.alive = true ∧ ρ (renN m o) = some b) w w' := ⟨k2.ext, fun b _ hx hy => by obtain ⟨o, x, q1, q2, q3⟩ := ownedC b hy; exact hx (hs.own o x b q1 q2 q3), fun b hb hx => (k2.xs b hb).1 hx⟩
  have AB : ∀ k y n x b, wr (fun n => lkp pre n) ws k = some y → y.alive = true → ρ' k = some b → hp n = some x → x.alive = true → ρ n = some b → (∀ k, k ∈ pre.map (·.1) ++ nw → n ≠ renN m k) → False := fun k y n x b q1 q2 q3 q4 q5 q6 q7 => by
    rcases k2.own k y b q1 q2 q3 with hb | hb
    · have := (hs.objs n x q4).lt q5 q6; omega
    · exact notB n x b q4 q5 q6 q7 hb
  refine ⟨e1, ρf, X', ⟨fun n x hw => ?_, fun n n' x x' b q1 q2 q3 q4 q5 q6 => ?_, fun n x b q1 q2 q3 => ?_, fun n x q1 n' hn' => ?_⟩, ⟨k2.ext.mono fun b _ hb => ownedC b hb, fun b hb => ⟨(k2.xs b hb).1, fun hx => ((k2.xs b hb).2 hx).imp id (ownedC b)⟩, fun n x b q1 q2 q3 => ?_, fun n hn' => hρo n hn'⟩⟩
  · rcases char n x hw with ⟨k, y, q1, rfl, rfl⟩ | ⟨q1, q2⟩
    · exact conv k y q1
    · cases ha : x.alive with
      | false => cases x <;> first | trivial | cases ha
      | true => exact (hs.objs n x q1).mono g (hρo n (by rw [q1]; simp)) (fun b hb => k2.ext.keep b ((hs.objs n x q1).lt ha hb) (notB n x b q1 ha hb q2)) fun o ho => hρo o (hs.closed n x q1 o ho)
  · rcases char n x q1 with ⟨k, y, p1, rfl, rfl⟩ | ⟨p1, p2⟩
    · rw [hρf k (wrNames k y p1).1] at q5
      rw [AObj.ren_alive] at q2
      rcases char n' x' q3 with ⟨k', y', p3, rfl, rfl⟩ | ⟨p3, p4⟩
      · rw [hρf k' (wrNames k' y' p3).1] at q6
        rw [AObj.ren_alive] at q4
        rw [k1.inj k k' y y' b p1 q2 p3 q4 q5 q6]
      · rw [hρo n' (by rw [p3]; simp)] at q6
        exact (AB k y n' x' b p1 q2 q5 p3 q4 q6 p4).elim
    · rw [hρo n (by rw [p1]; simp)] at q5
      rcases char n' x' q3 with ⟨k', y', p3, rfl, rfl⟩ | ⟨p3, p4⟩
      · rw [hρf k' (wrNames k' y' p3).1] at q6
        rw [AObj.ren_alive] at q4
        exact (AB k' y' n x b p3 q4 q6 p1 q2 q5 p2).elim
      · rw [hρo n' (by rw [p3]; simp)] at q6
        exact hs.inj n n' x x' b p1 q2 p3 q4 q5 q6
  · rcases char n x q1 with ⟨k, y, p1, rfl, rfl⟩ | ⟨p1, p2⟩
    · rw [hρf k (wrNames k y p1).1] at q3
      exact k1.own k y b p1 (by rw [AObj.ren_alive] at q2; exact q2) q3
    · rw [hρo n (by rw [p1]; simp)] at q3
      exact ((k2.xs b ((hs.objs n x p1).lt q2 q3)).2 (hs.own n x b p1 q2 q3)).resolve_right (notB n x b p1 q2 q3 p2)
  · rcases char n x q1 with ⟨k, y, p1, rfl, rfl⟩ | ⟨p1, p2⟩
    · obtain ⟨k', p3, rfl⟩ := AObj.names_ren y hn'
      rw [hwr k' ((wrNames k y p1).2 k' p3)]
      have := k1.closed k y p1 k' p3
      cases hz : wr (fun n => lkp pre n) ws k' with
      | none => exact absurd hz this
      | some z => simp
    · exact wr_ne (hs.closed n x p1 n' hn')
  · rcases char n x q1 with ⟨k, y, p1, rfl, rfl⟩ | ⟨p1, p2⟩
    · rw [hρf k (wrNames k y p1).1] at q3
      exact (k2.own k y b p1 (by rw [AObj.ren_alive] at q2; exact q2) q3).imp id (ownedC b)
    · rw [hρo n (by rw [p1]; simp)] at q3
      exact .inr ⟨n, x, p1, q2, q3⟩

end Go.Sym
