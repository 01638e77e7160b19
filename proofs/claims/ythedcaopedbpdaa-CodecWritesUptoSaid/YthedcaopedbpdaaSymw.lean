/-
A function by its body: the join.
-/
import Derived.Test.YthedcaopedbpdaaSymv
namespace Go.Sym

/-- A mark is come to. -/
theorem InvAt.take {E : Ent} {S : St} {ρ : Nat → Option Nat} {X : Nat → Prop} {a : Act} {w : World} (hA : InvAt E S ρ X a w) {D : Nat} {ms : List Nat} (hd : a.defers = (D :: ms).map mark ++ E.ds) :
    w.heap[D]? = some (.deferred (some [])) ∧ InvAt E S ρ X { a with defers := ms.map mark ++ E.ds } (w.putObj D (.deferred none)) := by
  obtain ⟨ms', m1, mn, m0, m2⟩ := hA.marks
  have hms : ms' = D :: ms := mark_inj (List.append_cancel_right (m1.symm.trans hd))
  subst hms
  obtain ⟨h1, h2, h3⟩ := m2 D (by simp)
  have hs := hA.sim.putObj (.deferred none) h3 rfl h2
  refine ⟨h3, ⟨⟨hs.n, hs.slots, hs.objs, hs.inj, hs.own, hs.closedS, hs.closedH⟩, ⟨hA.ext.os, hA.ext.tape, hA.ext.output, by simpa using hA.ext.size, fun b hb hn => ?_, fun b c T z hb => ?_⟩, hA.xs, hA.own, hA.same, ms, rfl, (fun h => by have := mn h; cases this), (List.nodup_cons.1 m0).2, fun D' hD' => ?_⟩⟩
  · rw [World.putObj_heap_other (by omega)]; exact hA.ext.keep b hb hn
  · have hb' : b < E.w.heap.size := (Array.getElem?_eq_some_iff.1 hb).1
    rw [World.putObj_heap_other (by omega)]; exact hA.ext.shape b c T z hb
  · obtain ⟨k1, k2, k3⟩ := m2 D' (by simp [hD'])
    exact ⟨k1, k2, by rw [World.putObj_heap_other fun e => (List.nodup_cons.1 m0).1 (by rw [← e]; exact hD')]; exact k3⟩

theorem take_marks {P : Program} {F : Fence} {n : Nat} {fn : Func} {R : Ending → World → Prop} {u : FrameMode} (hu : u ≠ .run) {E : Ent} {S : St} {ρ : Nat → Option Nat} {X : Nat → Prop} : ∀ (ms : List Nat) {a : Act} {w : World}, InvAt E S ρ X a w → a.defers = ms.map mark ++ E.ds →
    (∀ w', InvAt E S ρ X { a with defers := E.ds } w' → LeavesInM F n P fn a.tmps R E.ds u w') → LeavesInM F n P fn a.tmps R a.defers u w
  | [], a, w, hA, hd, h => by
    have e : a = { a with defers := E.ds } := by
      cases a; simp only [List.map_nil, List.nil_append] at hd; rw [hd]
    have h := h w (by rw [← e]; exact hA)
    rw [hd]; exact h
  | D :: ms, a, w, hA, hd, h => by
    obtain ⟨h1, h2⟩ := hA.take hd
    rw [hd]
    exact ⟨hu, .inl ⟨D, _, rfl, run_takeDeferred h1, take_marks hu ms h2 rfl h⟩⟩

theorem one_rep {ρ : Nat → Option Nat} {X : Nat → Prop} {w : World} {rs : List AV} {vs : List Value} (h : RepT ρ X w rs vs) : RepA ρ X w (one rs) (oneV vs) := by
  match rs, vs, h with
  | [], [], _ => exact ⟨[], rfl, trivial⟩
  | [x], [v], h => exact h.1.toA
  | x :: y :: xs, v :: u :: us, h => exact ⟨v :: u :: us, rfl, h⟩
  | [], _ :: _, h => exact h.elim
  | [_], [], h => exact h.elim
  | [_], _ :: _ :: _, h => exact h.2.elim
  | _ :: _ :: _, [], h => exact h.elim
  | _ :: _ :: _, [_], h => exact h.2.elim

theorem one_names {rs : List AV} {n : Nat} (h : n ∈ (one rs).names) : n ∈ AV.namesL rs := by
  match rs, h with
  | [], h => simpa [one, AV.names] using h
  | [x], h => simpa [one, AV.namesL] using h
  | x :: y :: xs, h => simpa only [one, AV.names] using h

/-- What is handed back, and what is there behind the call, for the caller. -/
theorem ret_fin {P : Program} {fn : Func} {hp : Nat → Option AObj} {ρ : Nat → Option Nat} {X : Nat → Prop} {w : World} {pre : List (Nat × AObj)} {nw : List Nat} (hh : HSim hp ρ X w) (hpre : ∀ p, p ∈ pre → hp p.1 = some p.2) (hnw : ∀ n, n ∈ nw → hp n = none)
    {S : St} {ρ' : Nat → Option Nat} {X' : Nat → Prop} {a : Act} {w' : World} {ds : List Deferred} {nm : Bool} (hA : InvAt ⟨fun o => lkp pre o, ρ, X, w, ds, nm⟩ S ρ' X' a w') {rs : List AV} {ws : List (Nat × AObj)} (hS : RetC P fn pre nw rs ws S) :
    ∃ v, (results fn a.tmps).run P w' = .ok v w' ∧ ∃ ρf Xf, HSim (wr hp ws) ρf Xf w' ∧ HEvo hp (wr hp ws) ρ ρf X Xf w w' ∧ RepA ρf Xf w' (one rs) v ∧ ∀ n, n ∈ (one rs).names → wr hp ws n ≠ none := by
  obtain ⟨ms, m, s, s', xs, ys, fz, kl, k1, k2, k3, k4, k5, k6, k7⟩ := hS.h
  rw [Chk_eq] at k6
  obtain ⟨us, r1, r2, r3, r4⟩ := aRes_run hA.sim k1 k2
  have hT := cvt_rep hA.sim k3 k4 (F := fz ++ kl) (fun _ h => List.mem_append_left _ h) r2 r3
  rw [eqAVs_spec k5] at hT
  obtain ⟨ρf, q1, q2, q3⟩ := fin_call hh hpre hnw (hA.kill (fz ++ kl)) k6 k7
  refine ⟨_, results_run r1, ρf, _, q1, q2, ?_, fun n hn => (q3 n (one_names hn)).2⟩
  exact one_rep (RepT.mono (Y := fun _ => False) ⟨.refl _ _, fun _ _ _ h => h, fun _ _ h => h⟩ (fun n hn => (q3 n hn).1) hT.ren)

theorem pre_mem {pre : List (Nat × AObj)} {n : Nat} (hn : lkp pre n ≠ none) : n ∈ pre.map (·.1) := by
  obtain ⟨x, hx⟩ := Option.ne_none_iff_exists'.1 hn
  exact List.mem_map.2 ⟨_, lkp_mem hx, rfl⟩

theorem calls_of_wp_marks {P : Program} {f : FuncId} {fn : Func} {c : Code} {args : Array Value} {w : World} {R : Ending → World → Prop} (hf : P.funcs[f]? = some fn) (hb : fn.body = some c)
    (h : c.wpIn (FR none) 0 P (bodyPostM (FR none) 0 P fn R) { tmps := args ++ Array.replicate (fn.ntmps - args.size) undef, defers := [] } w) : Calls P f args w R :=
  (callsIn_of_wp_marks (F := FR none) hf hb trivial h).calls fun k => room_wide k

theorem local_of_body {P : Program} (hm : P.follows .mixedOrders = true) {f : FuncId} {fn : Func} {c : Code} (hf : P.funcs[f]? = some fn) (hb : fn.body = some c) {fr : List (Nat × List Nat)} {args : List AV} {pre : List (Nat × AObj)} {nw : List Nat}
    {rs : List AV} {ws : List (Nat × AObj)} (h : FnC P fn c fr args pre nw rs ws) : LocalCall P f args pre nw (one rs) ws := by
  intro hp hpre hnw ρ X w vs hh hr hn
  obtain ⟨h1, h2⟩ := h
  rw [Chk_eq] at h1
  refine calls_of_wp_marks hf hb (wpIn_mono (wpC_sound hm (E := ⟨fun o => lkp pre o, ρ, X, w, [], false⟩) c (fun _ => ⟨rfl, rfl⟩) (fun n hn => pre_mem hn) h2 (hh.start hr hpre h1)) fun e a w' he => ?_)
  have fin : ∀ S, RetC P fn pre nw rs ws S → Inv ⟨fun o => lkp pre o, ρ, X, w, [], false⟩ S a w' → LeavesInM (FR none) 0 P fn a.tmps (fun e w' => ∃ v, e = .returned v ∧ ∃ ρ' X', HSim (wr hp ws) ρ' X' w' ∧ HEvo hp (wr hp ws) ρ ρ' X X' w w' ∧ RepA ρ' X' w' (one rs) v ∧ ∀ n, n ∈ (one rs).names → wr hp ws n ≠ none) a.defers .returning w' := by
    intro S hS hI
    obtain ⟨ρ', X', hA⟩ := hI
    obtain ⟨ms, m1, _⟩ := hA.marks
    refine take_marks (by simp) ms hA m1 fun w2 hA2 => ?_
    obtain ⟨v, hv, hrest⟩ := ret_fin hh hpre hnw hA2 hS
    exact ⟨v, hv, v, rfl, hrest⟩
  cases e with
  | normal => obtain ⟨S, k1, k2⟩ := he; exact fin S k1 k2
  | ret => obtain ⟨S, k1, k2⟩ := he; exact fin S k1 k2
  | exit i => obtain ⟨_, k1, _⟩ := he; exact k1.elim
  | goto l => obtain ⟨_, k1, _⟩ := he; exact k1.elim
  | panic ch => obtain ⟨_, _, _, k1, _⟩ := he; exact k1.elim
  | outgrown => exact he.elim

/-- What is there where a call panics, for the caller. -/
theorem pan_fin {hp : Nat → Option AObj} {ρ : Nat → Option Nat} {X : Nat → Prop} {w : World} {pre : List (Nat × AObj)} {nw : List Nat} (hh : HSim hp ρ X w) (hpre : ∀ p, p ∈ pre → hp p.1 = some p.2) (hnw : ∀ n, n ∈ nw → hp n = none)
    {S : St} {ρ' : Nat → Option Nat} {X' : Nat → Prop} {a : Act} {w' : World} {ds : List Deferred} {nm : Bool} (hA : InvAt ⟨fun o => lkp pre o, ρ, X, w, ds, nm⟩ S ρ' X' a w') {ws : List (Nat × AObj)} (hS : PanC pre nw ws S) :
    ∃ ρf Xf, HSim (wr hp ws) ρf Xf w' ∧ HEvo hp (wr hp ws) ρ ρf X Xf w w' := by
  obtain ⟨m, kl, k6, k7⟩ := hS.h
  rw [Chk_eq] at k6
  obtain ⟨ρf, q1, q2, _⟩ := fin_call hh hpre hnw (hA.kill kl) k6 k7
  exact ⟨ρf, _, q1, q2⟩

theorem localPan_of_body {P : Program} (hm : P.follows .mixedOrders = true) {f : FuncId} {fn : Func} {c : Code} (hf : P.funcs[f]? = some fn) (hb : fn.body = some c) {fr : List (Nat × List Nat)} {args : List AV} {pre : List (Nat × AObj)} {nw : List Nat} {pv : Value} {ws : List (Nat × AObj)}
    (h : FnPan P fn c fr args pre nw pv ws) : LocalPan P f args pre nw pv ws := by
  intro hp hpre hnw ρ X w vs hh hr hn
  obtain ⟨h1, h2⟩ := h
  rw [Chk_eq] at h1
  refine calls_of_wp_marks hf hb (wpIn_mono (wpC_sound hm (E := ⟨fun o => lkp pre o, ρ, X, w, [], false⟩) c (fun _ => ⟨rfl, rfl⟩) (fun n hn => pre_mem hn) h2 (hh.start hr hpre h1)) fun e a w' he => ?_)
  cases e with
  | normal => obtain ⟨_, k1, _⟩ := he; exact k1.elim
  | ret => obtain ⟨_, k1, _⟩ := he; exact k1.elim
  | exit i => obtain ⟨_, k1, _⟩ := he; exact k1.elim
  | goto l => obtain ⟨_, k1, _⟩ := he; exact k1.elim
  | panic ch =>
    obtain ⟨v, S, rfl, ⟨k1, k2⟩, ρ', X', hA⟩ := he
    rw [Side_eq] at k1
    subst k1
    obtain ⟨ms, m1, _⟩ := hA.marks
    refine take_marks (by simp) ms hA m1 fun w2 hA2 => ?_
    obtain ⟨ρf, Xf, q1, q2⟩ := pan_fin hh hpre hnw hA2 k2
    exact ⟨rfl, ρf, Xf, q1, q2⟩
  | outgrown => exact he.elim

end Go.Sym
