/-
A function that defers a closure that recovers: 'codec.Read' and its like.
-/
import Derived.Test.YthedcaopedbpdaaSymx
namespace Go.Sym

def midK (en : List Nat) (n : Nat) (sl : List (Nat × AV)) (hp : List (Nat × AObj)) : AExit → St → Prop
  | .normal, S => S.n = n ∧ Weak en S sl hp
  | _, _ => False

theorem vc_mid {en : List Nat} {n : Nat} {sl : List (Nat × AV)} {hp : List (Nat × AObj)} {S : St} (m : List (Nat × Nat)) (hn : Vc (Chk (S.n.beq n))) (h1 : Vc (Chk (wkOK en m sl hp))) (h2 : Vc (wkSl S m sl)) (h3 : Vc (wkHp S m hp)) : Vc (S.n = n ∧ Weak en S sl hp) :=
  ⟨Nat.eq_of_beq_eq_true hn.h.h, ⟨m, h1.h, h2.h, h3.h⟩⟩

def CatG (N : Nat) (q : St → Prop) (S : St) : Prop := match S.hp N with
  | some (.var (.d (.int _ _))) => q (S.write [(N, .var (.d (.int .i64 3)))])
  | _ => False

def catK (P : Program) (fn : Func) (pre : List (Nat × AObj)) (nw : List Nat) (rs : List AV) (ws : List (Nat × AObj)) (fv : Value) (N : Nat) : Value → St → Prop :=
  fun v S => Side (v = fv) ∧ CatG N (RetC P fn pre nw rs ws) S

theorem InvAt.noMarks {E : Ent} {S : St} {ρ : Nat → Option Nat} {X : Nat → Prop} {a : Act} {w : World} (h : InvAt E S ρ X a w) (hn : E.nm = true) : a.defers = E.ds := by
  obtain ⟨ms, k1, k2, _⟩ := h.marks
  rw [k2 hn] at k1
  exact k1

theorem local_recovers {P : Program} (hm : P.follows .mixedOrders = true) {f : FuncId} {fn : Func} {c0 rest : Code} {rid : Nat} {o1 o2 : Oper} (hf : P.funcs[f]? = some fn) (hb : fn.body = some (.seq c0 (.seq (.region rid #[o1, o2] false) rest)))
    {g : FuncId} {t4 t6 : Nat} {c2 : Call} (h1o : o1.op = .makeFunc (.func g) #[] #[.tmp t4]) (h1g : o1.guard = none) (h1d : o1.dst = some t6) (h2o : o2.op = .defer c2) (h2g : o2.guard = none) (h2d : o2.dst = none) (h2c : c2.callee = .value (.tmp t6)) (h2a : c2.args = #[])
    {n : Nat} (hn : fn.ntmps = n) (fr : List (Nat × List Nat)) {args : List AV} {pre : List (Nat × AObj)} {nw : List Nat} {rs : List AV} {ws : List (Nat × AObj)} {sl2 : List (Nat × AV)} {hp2 : List (Nat × AObj)} {N : Nat} {fv : Value} {zo : Obj}
    (hidle : ∀ p w, CallsDIn (FR none) 0 P g #[.pointer (some p)] .returning w fun e u' w' => e = .returned (.tuple #[]) ∧ u' = .returning ∧ w' = w)
    (hcatch : ∀ p w k x, (w.alloc zo).cell? p = some (.int k x) → (w.alloc zo).frozen? p = false → CallsDIn (FR none) 0 P g #[.pointer (some p)] (.panicking [{ v := fv, recovered := false }]) w fun e u' w' =>
      e = .returned (.tuple #[]) ∧ u' = .panicking [{ v := fv, recovered := true }] ∧ w' = (w.alloc zo).setCell p (.int .i64 3))
    (hcl : callable P g = true) (hE : Vc (Chk (entOK n args pre))) (hsl : lkp sl2 t4 = some (.ptr N [])) (ht4 : t4 < n) (ht6 : t6 < n) (hn6 : lkp sl2 t6 = none)
    (h0 : Vc (fNs (pre.map (·.1)) fun en => Later (wpC P fr true en c0 (mkSt n (enumA 0 args) pre) (midK en n sl2 hp2) (fun _ _ => False))))
    (h2 : Vc (fNs (hp2.map (·.1)) fun en => Later (wpC P fr true en rest (mkSt n sl2 hp2) (fnK P fn pre nw rs ws) (catK P fn pre nw rs ws fv N)))) : LocalCall P f args pre nw (one rs) ws := by
  subst hn
  intro hp hpre hnw ρ X w vs hh hr hnn
  have h0 := h0.h
  have h2 := h2.h
  rw [fNs_eq, Later_eq] at h0 h2
  have hstart := hh.start hr hpre hE.h.h
  have hstart' : Inv ⟨fun o => lkp pre o, ρ, X, w, [], true⟩ (mkSt fn.ntmps (enumA 0 args) pre) { tmps := vs.toArray ++ Array.replicate (fn.ntmps - vs.toArray.size) undef, defers := [] } w := by
    obtain ⟨ρ', X', k⟩ := hstart
    exact ⟨ρ', X', ⟨k.sim, k.ext, k.xs, k.own, k.same, ⟨[], rfl, fun _ => rfl, List.nodup_nil, fun _ h => by cases h⟩⟩⟩
  refine calls_of_wp_marks hf hb (wpIn_seq (wpIn_mono (wpC_sound hm (E := ⟨fun o => lkp pre o, ρ, X, w, [], true⟩) c0 (fun h => by cases h) (fun n hn => pre_mem hn) h0 hstart') fun e a w1 he => ?_))
  cases e with
  | ret => obtain ⟨_, k1, _⟩ := he; exact k1.elim
  | exit i => obtain ⟨_, k1, _⟩ := he; exact k1.elim
  | goto l => obtain ⟨_, k1, _⟩ := he; exact k1.elim
  | panic ch => obtain ⟨_, _, _, k1, _⟩ := he; exact k1.elim
  | outgrown => exact he.elim
  | normal =>
  obtain ⟨S, ⟨hSn, hW⟩, hI⟩ := he
  have hI := hI.weak (fun n hn => pre_mem hn) hW
  rw [hSn] at hI
  obtain ⟨ρ1, X1, hA1⟩ := hI
  have had : a.defers = [] := hA1.noMarks rfl
  have hsz : a.tmps.size = fn.ntmps := hA1.sim.n
  have hv4 : a.tmps[t4]? = some a.tmps[t4] := Array.getElem?_eq_getElem (by omega)
  have hr4 := hA1.sim.slots t4 _ hv4
  have hs4 : (mkSt fn.ntmps sl2 hp2).sl t4 = .ptr N [] := by show (match lkp sl2 t4 with | some x => x | none => .top : AV) = _; rw [hsl]
  rw [hs4] at hr4
  obtain ⟨b, hb0, hxv⟩ := repA_ptr hr4
  have hpo : pOff [] = 0 := rfl
  rw [hpo] at hxv
  let p : Addr := ⟨b, 0, none⟩
  let d : Deferred := { target := .fn (.func g) #[.pointer (some p)], args := #[] }
  let a2 : Act := { tmps := a.tmps.setIfInBounds t6 (.func (.func g) #[] #[.pointer (some p)]), defers := [d] }
  have hev4 : a.eval (.tmp t4) = .pointer (some p) := by simp only [Act.eval]; rw [Array.getD_eq_getD_getElem?, hv4]; exact hxv
  have hmk : (execOp a.eval o1).run P w1 = .ok (.value (.func (.func g) #[] #[.pointer (some p)])) w1 := by
    simp only [execOp, h1o]
    simp [hev4, Instr.makeFunc]
  have hA2 : InvAt ⟨fun o => lkp hp2 o, ρ1, X1, w1, [d], true⟩ (mkSt fn.ntmps sl2 hp2) ρ1 X1 a2 w1 := by
    have hs := hA1.sim
    refine ⟨⟨by simp [a2, hsz, mkSt], fun t v ht => ?_, hs.objs, hs.inj, hs.own, hs.closedS, hs.closedH⟩, .refl _ _, fun b _ => ⟨id, .inl⟩, fun o x b k1 k2 k3 => .inr ⟨o, x, k1, k2, k3⟩, fun n hn => ⟨hn, rfl⟩, ⟨[], rfl, fun _ => rfl, List.nodup_nil, fun _ h => by cases h⟩⟩
    by_cases ht6' : t6 = t
    · subst ht6'
      show RepA _ _ _ (match lkp sl2 t6 with | some x => x | none => .top : AV) v
      rw [hn6]; trivial
    · refine hs.slots t v ?_
      simpa [a2, Array.getElem?_setIfInBounds_ne ht6'] using ht
  have hinv : ∀ w' : World, (invoke d.target d.args).run P w' = .ok (.enter g #[.pointer (some p)]) w' := fun w' => by
    simp only [invoke, d]
    exact callable_run hcl _ w'
  refine wpIn_seq (wpIn_region ?_)
  show wpOpsIn (FR none) 0 P #[o1, o2] _ [0, 1] a w1
  have hop1 : Region.wanted o1 (yielded #[o1, o2] a.tmps) = true := by simp [Region.wanted, h1g]
  simp only [wpOpsIn]
  have e0 : (#[o1, o2] : Array Oper)[0]? = some o1 := rfl
  have e1 : (#[o1, o2] : Array Oper)[1]? = some o2 := rfl
  rw [e0]
  simp only [hop1, if_true]
  refine ⟨fun _ _ => trivial, ?_⟩
  rw [Oper.semAt_eq _ _ _ (by rw [h1o]; intro c h; cases h), hmk, Oper.uponIn_value]
  rw [e1]
  have hop2 : Region.wanted o2 (yielded #[o1, o2] (a.put o1.dst (.func (.func g) #[] #[.pointer (some p)])).tmps) = true := by simp [Region.wanted, h2g]
  simp only [hop2, if_true]
  refine ⟨fun _ _ => trivial, ?_⟩
  have hdf : (execOp (a.put o1.dst (.func (.func g) #[] #[.pointer (some p)])).eval o2).run P w1 = .ok (.defer d) w1 := by
    have : (a.put o1.dst (.func (.func g) #[] #[.pointer (some p)])).eval (.tmp t6) = .func (.func g) #[] #[.pointer (some p)] := by
      rw [h1d]
      simp only [Act.eval, Act.put]
      rw [Array.getD_eq_getD_getElem?, Array.getElem?_setIfInBounds_self_of_lt (by omega)]
      rfl
    simp only [execOp, h2o, resolve, h2c, this, Deferred.ofValue, h2a]
    rw [run_bind_ok (run_pure _ w1), run_pure]
    simp [d]
  show o2.uponIn (FR none) 0 P _ _ _ ((Oper.semAt none _ o2).run P w1)
  rw [Oper.semAt_none, hdf, Oper.uponIn_defer]
  have ha2 : ({ (a.put o1.dst (.func (.func g) #[] #[.pointer (some p)])) with defers := d :: (a.put o1.dst (.func (.func g) #[] #[.pointer (some p)])).defers } : Act).put o2.dst undef = a2 := by
    rw [h2d, h1d]
    simp only [Act.put, had, a2]
  rw [ha2]
  refine wpIn_mono (wpC_sound hm (E := ⟨fun o => lkp hp2 o, ρ1, X1, w1, [d], true⟩) rest (fun h => by cases h) (fun n hn => pre_mem hn) h2 ⟨ρ1, X1, hA2⟩) fun e a3 w3 he => ?_
  have back : ∀ {S3 : St} {ρ3 : Nat → Option Nat} {X3 : Nat → Prop}, InvAt ⟨fun o => lkp hp2 o, ρ1, X1, w1, [d], true⟩ S3 ρ3 X3 a3 w3 → InvAt ⟨fun o => lkp pre o, ρ, X, w, [], true⟩ S3 ρ3 X3 { a3 with defers := [] } w3 := fun {S3 ρ3 X3} hA3 => by
    have hR := hA1.round hA3
    have hs := hA3.sim
    exact ⟨⟨hs.n, hs.slots, hs.objs, hs.inj, hs.own, hs.closedS, hs.closedH⟩, hR.ext, hR.xs, hR.own, hR.same, ⟨[], rfl, fun _ => rfl, List.nodup_nil, fun _ h => by cases h⟩⟩
  have fin : ∀ S3, RetC P fn pre nw rs ws S3 → Inv ⟨fun o => lkp hp2 o, ρ1, X1, w1, [d], true⟩ S3 a3 w3 → LeavesInM (FR none) 0 P fn a3.tmps (fun e w' => ∃ v, e = .returned v ∧ ∃ ρ' X', HSim (wr hp ws) ρ' X' w' ∧ HEvo hp (wr hp ws) ρ ρ' X X' w w' ∧ RepA ρ' X' w' (one rs) v ∧ ∀ n, n ∈ (one rs).names → wr hp ws n ≠ none) a3.defers .returning w3 := by
    intro S3 hS hI
    obtain ⟨ρ3, X3, hA3⟩ := hI
    rw [hA3.noMarks rfl]
    refine ⟨by simp, .inr ⟨fun h => (by cases h), .func g, _, g, _, rfl, hinv w3, fun _ _ => trivial, (hidle p w3).mono ?_⟩⟩
    rintro e' u' w' ⟨rfl, rfl, rfl⟩
    obtain ⟨v, hv, hrest⟩ := ret_fin hh hpre hnw (back hA3) hS
    exact ⟨v, hv, v, rfl, hrest⟩
  cases e with
  | normal => obtain ⟨S, k1, k2⟩ := he; exact fin S k1 k2
  | ret => obtain ⟨S, k1, k2⟩ := he; exact fin S k1 k2
  | exit i => obtain ⟨_, k1, _⟩ := he; exact k1.elim
  | goto l => obtain ⟨_, k1, _⟩ := he; exact k1.elim
  | outgrown => exact he.elim
  | panic ch =>
    obtain ⟨v, S3, rfl, ⟨k1, k2⟩, ρ3, X3, hA3⟩ := he
    rw [Side_eq] at k1
    subst k1
    unfold CatG at k2
    split at k2
    · rename_i k x hN
      have hρ3 : ρ3 N = some b := by
        rw [(hA3.same N (by
          have := hA2.sim.closedS t4 N (by rw [hs4]; simp [AV.names])
          exact this)).2]
        exact hb0
      show LeavesInM _ _ _ _ _ _ a3.defers _ w3
      rw [hA3.noMarks rfl]
      have hB := (back hA3).alloc zo
      obtain ⟨b', cs, T, z, q0, q1, q2, q3⟩ := hB.sim.objs N _ hN
      rw [hρ3] at q0; cases q0
      have hcs : cs = [.int k x] := by
        cases q3 with
        | d q3 => cases q3; rfl
      subst hcs
      have hcell : (w3.alloc zo).cell? p = some (.int k x) := by
        simp only [World.cell?, p, q1]; rfl
      have hfr : (w3.alloc zo).frozen? p = false := frozen_row q1 q2 (by simp)
      refine ⟨by simp, .inr ⟨fun h => (by cases h), .func g, _, g, _, rfl, hinv w3, fun _ _ => trivial, (hcatch p w3 k x hcell hfr).mono ?_⟩⟩
      rintro e' u' w' ⟨rfl, rfl, rfl⟩
      have hlay : (w3.alloc zo).setCell p (.int .i64 3) = World.lay (w3.alloc zo) b [.int .i64 3] := by
        rw [setCell_eq_setRow _ _ _ _ _ _ _ q1]; rfl
      rw [hlay]
      obtain ⟨s1, s2⟩ := hB.sim.lay (dst := none) (r := .top) (v := undef) (cs' := [.int .i64 3]) (x' := .var (.d (.int .i64 3))) hN rfl hρ3 q1 rfl (fun Y g hh => ⟨b, _, T, z, hρ3, hh, q2, .d (.int _ _)⟩) (fun m hm => by cases hm) (fun _ _ => trivial) (fun m hm => by cases hm)
      have hfin := hB.evo s1 s2 (fun n hn => upd_dom hn) rfl
      obtain ⟨v, hv, hrest⟩ := ret_fin hh hpre hnw hfin k2
      exact ⟨v, hv, v, rfl, hrest⟩
    · exact k2.elim

end Go.Sym
