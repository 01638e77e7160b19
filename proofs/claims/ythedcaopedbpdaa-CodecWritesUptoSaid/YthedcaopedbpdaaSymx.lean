/-
How what is asked ('Vc') is taken apart.
-/
import Derived.Test.YthedcaopedbpdaaSymw
namespace Go.Sym

structure Vc (p : Prop) : Prop where
  h : p

theorem vc_true {q : Prop} (k : Vc q) : Vc (Side True ∧ q) := ⟨⟨trivial⟩, k.h⟩
theorem vc_true2 {q : Prop} (k : Vc q) : Vc (Side (True ∧ True) ∧ q) := ⟨⟨trivial, trivial⟩, k.h⟩
theorem vc_side {s q : Prop} (h : s) (k : Vc q) : Vc (Side s ∧ q) := ⟨⟨h⟩, k.h⟩
theorem vc_side0 {s : Prop} (h : s) : Vc (Side s) := ⟨⟨h⟩⟩
theorem vc_and {p q : Prop} (h : Vc p) (k : Vc q) : Vc (p ∧ q) := ⟨h.h, k.h⟩
theorem vc_chk {b : Bool} (h : b = true) : Vc (Chk b) := ⟨⟨h⟩⟩
theorem vc_triv : Vc True := ⟨trivial⟩
theorem vc_later {p : Prop} (h : Vc p) : Vc (Later p) := ⟨⟨h.h⟩⟩
theorem vc_caseT {f : Bool → Prop} (h : Vc (f true)) : Vc (bcase true f) := ⟨⟨fun _ => h.h, fun e => by cases e⟩⟩
theorem vc_caseF {f : Bool → Prop} (h : Vc (f false)) : Vc (bcase false f) := ⟨⟨fun e => (by cases e), fun _ => h.h⟩⟩
theorem vc_case {b : Bool} {f : Bool → Prop} (h1 : b = true → Vc (f true)) (h2 : b = false → Vc (f false)) : Vc (bcase b f) := ⟨⟨fun h => (h1 h).h, fun h => (h2 h).h⟩⟩
/-- A condition that is a proposition's. -/
theorem vc_caseD {p : Prop} [hd : Decidable p] {f : Bool → Prop} (h1 : p → Vc (f true)) (h2 : ¬ p → Vc (f false)) : Vc (bcase (decide p) f) :=
  vc_case (fun h => h1 (of_decide_eq_true h)) (fun h => h2 (of_decide_eq_false h))
theorem vc_caseN {p : Prop} [hd : Decidable p] {f : Bool → Prop} (h1 : ¬ p → Vc (f true)) (h2 : p → Vc (f false)) : Vc (bcase (!decide p) f) :=
  vc_case (fun h => h1 (of_decide_eq_false (by simpa using h))) (fun h => h2 (of_decide_eq_true (by simpa using h)))

section
variable {P : Program} {ops : List Oper} {rid : Nat} {chk : Foots → Prop} {S : St} {acc : Foots} {K : St → Prop} {Kp : Value → St → Prop}

theorem vc_nil {q : Bool} {i m : Nat} (h1 : Vc (chk acc)) (h2 : Vc (K S)) : Vc (vcOps P ops rid chk [] q i m S acc K Kp) := by
  constructor; unfold vcOps; exact ⟨h1.h, h2.h⟩
theorem vc_cons {q : Bool} {o : Oper} {rest : List Oper} {i m : Nat} (h : Vc (stepOp P ops rid (fun q i m S acc K Kp => Later (vcOps P ops rid chk rest q i m S acc K Kp)) o q i m S acc K Kp)) : Vc (vcOps P ops rid chk (o :: rest) q i m S acc K Kp) := by
  constructor; unfold vcOps; exact h.h
end

/-- A body's end in its sequence. -/
def seqK (L : St → Prop) (K : AExit → St → Prop) : AExit → St → Prop
  | .normal, S => L S
  | e, S => K e S
def blockK (id : Nat) (K : AExit → St → Prop) : AExit → St → Prop
  | .exit i, S => bif i.beq id then K .normal S else K (.exit i) S
  | e, S => K e S
def scopeK (K : AExit → St → Prop) : AExit → St → Prop
  | .goto _, _ => False
  | e, S => K e S

section
variable {P : Program} {rd : Bool} {en : List Nat} {fr : List (Nat × List Nat)} {S : St} {K : AExit → St → Prop} {Kp : Value → St → Prop}

theorem vc_skip (h : Vc (K .normal S)) : Vc (wpC P fr rd en .skip S K Kp) := by constructor; unfold wpC; exact h.h
theorem vc_label {l : Nat} (h : Vc (K .normal S)) : Vc (wpC P fr rd en (.label l) S K Kp) := by constructor; unfold wpC; exact h.h
theorem vc_exit {id : Nat} (h : Vc (K (.exit id) S)) : Vc (wpC P fr rd en (.exit id) S K Kp) := by constructor; unfold wpC; exact h.h
theorem vc_goto {l : Nat} (h : Vc (K (.goto l) S)) : Vc (wpC P fr rd en (.goto l) S K Kp) := by constructor; unfold wpC; exact h.h
theorem vc_retc (h : Vc (K .ret S)) : Vc (wpC P fr rd en .ret S K Kp) := by constructor; unfold wpC; exact h.h
theorem vc_seq {x y : Code} (h : Vc (wpC P fr rd en x S (seqK (fun S' => Later (wpC P fr rd en y S' K Kp)) K) Kp)) : Vc (wpC P fr rd en (.seq x y) S K Kp) := by
  constructor
  unfold wpC
  have e : seqK (fun S' => Later (wpC P fr rd en y S' K Kp)) K = fun e S' => match e with
      | .normal => wpC P fr rd en y S' K Kp
      | e => K e S' := by
    funext e S'
    cases e <;> simp only [seqK, Later_eq]
  rw [e] at h
  exact h.h
theorem vc_cond {c : Operand} {x y : Code} (h : Vc (match S.ev c with
      | .d (.bool b) => bcase b fun t => bif t then Later (wpC P fr rd en x S K Kp) else Later (wpC P fr rd en y S K Kp)
      | _ => False)) : Vc (wpC P fr rd en (.cond c x y) S K Kp) := by
  constructor
  unfold wpC
  simp only [Later_eq] at h
  exact h.h
theorem vc_block {id : Nat} {x : Code} (h : Vc (wpC P fr rd en x S (blockK id K) Kp)) : Vc (wpC P fr rd en (.block id x) S K Kp) := by
  constructor
  unfold wpC
  have e : blockK id K = fun e S' => match e with
      | .exit i => bif i.beq id then K .normal S' else K (.exit i) S'
      | e => K e S' := by
    funext e S'
    cases e <;> rfl
  rw [e] at h
  exact h.h
theorem vc_scope {x : Code} (h : Vc (wpC P fr rd en x S (scopeK K) Kp)) : Vc (wpC P fr rd en (.scope x) S K Kp) := by
  constructor
  unfold wpC
  have e : scopeK K = fun e S' => match e with
      | .goto _ => False
      | e => K e S' := by
    funext e S'
    cases e <;> rfl
  rw [e] at h
  exact h.h

def vcRL (P : Program) (id : Nat) (l : List Oper) (draw : Bool) (S : St) (K : St → Prop) (Kp : Value → St → Prop) : Prop :=
  bif draw then Later (vcOps P l id (fun fs => Chk (okPairs l fs && edgesB l)) l false 0 0 S [] K Kp)
  else Later (vcOps P l id (fun _ => True) l false 0 0 S [] K Kp)

theorem vc_region {id : Nat} {l : List Oper} {draw : Bool} (h : Vc (frC fr id S fun S' => vcRL P id l draw S' (fun S2 => frC fr (id + 500000) S2 fun S3 => K .normal S3) Kp)) : Vc (wpC P fr rd en (.region id l.toArray draw) S K Kp) := by
  constructor
  unfold wpC
  simp only [vcRL, Later_eq] at h
  exact h.h

/-! ### Loops -/

def loopK {X : Type} (en : List Nat) (sl : X → List (Nat × AV)) (hp : X → List (Nat × AObj)) (μ : X → Nat) (n : Nat) (x : X) (K : AExit → St → Prop) : AExit → St → Prop
  | .normal, S' => NextC en sl hp μ n x S'
  | e, S' => K e S'

def WeakG (en : List Nat) (m : List (Nat × Nat)) (S : St) (sl : List (Nat × AV)) (hp : List (Nat × AObj)) : Prop := Chk (wkOK en m sl hp) ∧ wkSl S m sl ∧ wkHp S m hp

theorem vc_loop {y : Code} {X : Type} (n : Nat) (sl : X → List (Nat × AV)) (hp : X → List (Nat × AObj)) (μ : X → Nat) (x0 : X) (m : List (Nat × Nat)) (hn : Vc (Chk (S.n.beq n)))
    (h1 : Vc (Chk (wkOK en m (sl x0) (hp x0)))) (h2 : Vc (wkSl S m (sl x0))) (h3 : Vc (wkHp S m (hp x0))) (h : ∀ x, Vc (wpC P fr rd en y (mkSt n (sl x) (hp x)) (loopK en sl hp μ n x K) Kp)) : Vc (wpC P fr rd en (.loop y) S K Kp) := by
  have hn := Nat.eq_of_beq_eq_true hn.h.h
  subst hn
  constructor
  unfold wpC
  refine ⟨X, sl, hp, μ, x0, ⟨m, h1.h, h2.h, h3.h⟩, fun x => ?_⟩
  have e : loopK en sl hp μ S.n x K = fun e S' => match e with
      | .normal => NextC en sl hp μ S.n x S'
      | e => K e S' := by
    funext e S'
    cases e <;> rfl
  have := (h x).h
  rw [e] at this
  exact this

theorem vc_next {X : Type} {sl : X → List (Nat × AV)} {hp : X → List (Nat × AObj)} {μ : X → Nat} {n : Nat} {x : X} {S' : St} (x' : X) (m : List (Nat × Nat)) (hμ : μ x' < μ x)
    (hn : Vc (Chk (S'.n.beq n))) (h1 : Vc (Chk (wkOK en m (sl x') (hp x')))) (h2 : Vc (wkSl S' m (sl x'))) (h3 : Vc (wkHp S' m (hp x'))) : Vc (NextC en sl hp μ n x S') :=
  ⟨x', hμ, Nat.eq_of_beq_eq_true hn.h.h, m, h1.h, h2.h, h3.h⟩

def loopKI {X : Type} (en : List Nat) (sl : X → List (Nat × AV)) (hp : X → List (Nat × AObj)) (μ : X → Nat) (I : X → Prop) (n : Nat) (x : X) (K : AExit → St → Prop) : AExit → St → Prop
  | .normal, S' => ∃ x', I x' ∧ μ x' < μ x ∧ S'.n = n ∧ Weak en S' (sl x') (hp x')
  | e, S' => K e S'

/-- A loop of which something is known at each round's head. -/
theorem vc_loopI {y : Code} {X : Type} (n : Nat) (sl : X → List (Nat × AV)) (hp : X → List (Nat × AObj)) (μ : X → Nat) (I : X → Prop) (x0 : X) (m : List (Nat × Nat)) (hn : Vc (Chk (S.n.beq n)))
    (h1 : Vc (Chk (wkOK en m (sl x0) (hp x0)))) (h2 : Vc (wkSl S m (sl x0))) (h3 : Vc (wkHp S m (hp x0))) (h0 : I x0) (h : ∀ x, I x → Vc (wpC P fr rd en y (mkSt n (sl x) (hp x)) (loopKI en sl hp μ I n x K) Kp)) : Vc (wpC P fr rd en (.loop y) S K Kp) := by
  refine vc_loop (X := { x : X // I x }) n (fun x => sl x.val) (fun x => hp x.val) (fun x => μ x.val) ⟨x0, h0⟩ m hn h1 h2 h3 fun x => ?_
  have := h x.val x.property
  have e : loopKI en sl hp μ I n x.val K = loopK en (fun x : { x : X // I x } => sl x.val) (fun x => hp x.val) (fun x => μ x.val) n x K := by
    funext e S'
    cases e <;> try rfl
    refine propext ⟨fun ⟨x', k1, k2, k3, k4⟩ => ⟨⟨x', k1⟩, k2, k3, k4⟩, fun h => ?_⟩
    obtain ⟨x', k2, k3, k4⟩ := h.h
    exact ⟨x'.val, x'.property, k2, k3, k4⟩
  rw [e] at this
  exact this

theorem vc_nextI {X : Type} {sl : X → List (Nat × AV)} {hp : X → List (Nat × AObj)} {μ : X → Nat} {I : X → Prop} {n : Nat} {x : X} {S' : St} (x' : X) (m : List (Nat × Nat)) (hI : I x') (hμ : μ x' < μ x)
    (hn : Vc (Chk (S'.n.beq n))) (h1 : Vc (Chk (wkOK en m (sl x') (hp x')))) (h2 : Vc (wkSl S' m (sl x'))) (h3 : Vc (wkHp S' m (hp x'))) : Vc (∃ x', I x' ∧ μ x' < μ x ∧ S'.n = n ∧ Weak en S' (sl x') (hp x')) :=
  ⟨x', hI, hμ, Nat.eq_of_beq_eq_true hn.h.h, m, h1.h, h2.h, h3.h⟩

/-! ### Ranges over functions -/

def roundK (en : List Nat) (n : Nat) (sl : List (Nat × AV)) (hp : List (Nat × AObj)) (I : Prop) (K : AExit → St → Prop) : AExit → St → Prop
  | .normal, S' => EndC en n sl hp I S'
  | e, S' => K e (wsl n sl S')

def asgK (L : St → Prop) : AExit → St → Prop
  | .normal, S => L S
  | _, _ => False

theorem vc_range {g : Operand} {ts : List Tmp} {x y : Code} (nn : Nat) (f o : Nat) (dx : D) (n : Nat) (ys : Nat → List D) (sl : List (Nat × AV)) (hp : Nat → List (Nat × AObj)) (I : Nat → Prop) (m : List (Nat × Nat)) (hn : Vc (Chk (S.n.beq nn)))
    (hev : Vc (eqAV (S.ev g) (.fn (.func f) [.ptr o []]))) (ho : Vc (match S.hp o with
      | some y => eqObj y (.var (.d dx))
      | none => False)) (hcl : Vc (Chk (callable P f))) (hseq : SeqOK P f dx n ys) (hys : ∀ i, (ys i).length = ts.length ∧ (ys i).all D.scal = true) (hd : Vc (Chk (distB ts)))
    (h1 : Vc (Chk (wkOK en m sl (hp 0)))) (h2 : Vc (wkSl S m sl)) (h3 : Vc (wkHp S m (hp 0))) (hI : I 0)
    (hr : ∀ i, i < n → I i → Vc (fNs ((hp i).map (·.1)) fun en' => Later (wpC P fr true en' x (rndSt nn ts (ys i) sl (hp i)) (asgK fun S2 => Later (wpC P fr true en' y S2 (roundK en nn sl (hp (i + 1)) (I (i + 1)) K) (fun _ _ => False))) (fun _ _ => False))))
    (hend : I n → Vc (K .normal (mkSt nn sl (hp n)))) : Vc (wpC P fr false en (.rangeFunc g ts.toArray x y) S K Kp) := by
  have hn := Nat.eq_of_beq_eq_true hn.h.h
  subst hn
  constructor
  unfold wpC
  have ho' : S.hp o = some (.var (.d dx)) := by
    have h := ho.h
    split at h
    · rename_i y hy; rw [hy, eqObj_spec h]
    · exact h.elim
  refine ⟨f, o, dx, n, ys, sl, hp, I, eqAV_spec hev.h, ho', hcl.h.h, hseq, hys, hd.h.h, ⟨m, h1.h, h2.h, h3.h⟩, hI, fun i hi hIi => ?_, fun h => (hend h).h⟩
  have h := (hr i hi hIi).h
  simp only [fNs_eq, Later_eq] at h
  have e1 : roundK en S.n sl (hp (i + 1)) (I (i + 1)) K = fun e S' => match e with
      | .normal => EndC en S.n sl (hp (i + 1)) (I (i + 1)) S'
      | e => K e (wsl S.n sl S') := by
    funext e S'
    cases e <;> rfl
  have e2 : ∀ L : St → Prop, asgK L = fun e S2 => match e with
      | .normal => L S2
      | _ => False := by
    intro L
    funext e S'
    cases e <;> rfl
  rw [e1, e2] at h
  exact h

theorem vc_endc {n : Nat} {sl : List (Nat × AV)} {hp : List (Nat × AObj)} {I : Prop} {S' : St} (m : List (Nat × Nat)) (hI : I) (h1 : Vc (Chk (wkOK en m sl hp))) (h2 : Vc (wkSl (wsl n sl S') m sl)) (h3 : Vc (wkHp (wsl n sl S') m hp)) : Vc (EndC en n sl hp I S') :=
  ⟨hI, ⟨m, h1.h, h2.h, h3.h⟩⟩
end

theorem vc_wkSl0 {S : St} {m : List (Nat × Nat)} : Vc (wkSl S m []) := ⟨trivial⟩
theorem vc_wkSl {S : St} {m : List (Nat × Nat)} {t : Nat} {v : AV} {l : List (Nat × AV)} (h1 : Vc (eqAV (S.sl t) (v.ren m))) (h2 : Vc (wkSl S m l)) : Vc (wkSl S m ((t, v) :: l)) := ⟨h1.h, h2.h⟩
theorem vc_wkHp0 {S : St} {m : List (Nat × Nat)} : Vc (wkHp S m []) := ⟨trivial⟩
theorem vc_wkHp {S : St} {m : List (Nat × Nat)} {o : Nat} {x : AObj} {l : List (Nat × AObj)} (h1 : Vc (match S.hp (renN m o) with
    | some y => eqObj y (x.ren m)
    | none => False)) (h2 : Vc (wkHp S m l)) : Vc (wkHp S m ((o, x) :: l)) := ⟨h1.h, h2.h⟩
theorem vc_eqAVs0 : Vc (eqAVs [] []) := ⟨trivial⟩
theorem vc_eqAVs {x y : AV} {xs ys : List AV} (h1 : Vc (eqAV x y)) (h2 : Vc (eqAVs xs ys)) : Vc (eqAVs (x :: xs) (y :: ys)) := ⟨h1.h, h2.h⟩

/-! ### What a body hands back -/

def RetG (P : Program) (fn : Func) (pre : List (Nat × AObj)) (nw : List Nat) (rs : List AV) (ws : List (Nat × AObj)) (ms : List Bool) (m : List (Nat × Nat)) (kl : List Nat) (S : St) : Prop :=
  match aRes P S fn.results.toList with
  | some (s, xs) => Side s ∧ fAVs xs fun xs => match cvt S.hp ms xs with
    | some (s', ys, fz) => Side s' ∧ fNs fz fun fz => fAVs ys fun ys => fAVs (AV.rens m rs) fun rs' => fWs (finHp pre ws) fun ws' =>
        Later (eqAVs ys rs') ∧ Chk (finOK pre nw m rs ws) ∧ Later (wkHp (S.write (deads (fz ++ kl))) m ws')
    | none => False
  | none => False

theorem vc_retK {P : Program} {fn : Func} {pre : List (Nat × AObj)} {nw : List Nat} {rs : List AV} {ws : List (Nat × AObj)} (ms : List Bool) (m : List (Nat × Nat)) (kl : List Nat) {S : St} (h : Vc (RetG P fn pre nw rs ws ms m kl S)) : Vc (RetC P fn pre nw rs ws S) := by
  have h := h.h
  unfold RetG at h
  split at h
  · rename_i s xs h1
    rw [fAVs_eq] at h
    obtain ⟨hs, h⟩ := h
    split at h
    · rename_i s' ys fz h2
      rw [fNs_eq, Side_eq, fAVs_eq, fAVs_eq, fWs_eq, Later_eq, Later_eq] at h
      rw [Side_eq] at hs
      exact ⟨⟨ms, m, s, s', xs, ys, fz, kl, h1, hs, h2, h.1, h.2.1, h.2.2.1, h.2.2.2⟩⟩
    · exact h.elim
  · exact h.elim

theorem vc_ret {P : Program} {fn : Func} {pre : List (Nat × AObj)} {nw : List Nat} {rs : List AV} {ws : List (Nat × AObj)} (ms : List Bool) (m : List (Nat × Nat)) {S : St} (h : Vc (RetG P fn pre nw rs ws ms m [] S)) : Vc (RetC P fn pre nw rs ws S) := vc_retK ms m [] h

/-! ### Calls -/

def preG (hp : Nat → Option AObj) : List (Nat × AObj) → Prop
  | [] => True
  | p :: l => (match hp p.1 with
    | some y => eqObj y p.2
    | none => False) ∧ preG hp l

theorem vc_preG0 {hp : Nat → Option AObj} : Vc (preG hp []) := ⟨trivial⟩
theorem vc_preG {hp : Nat → Option AObj} {o : Nat} {x : AObj} {l : List (Nat × AObj)} (h1 : Vc (match hp o with
    | some y => eqObj y x
    | none => False)) (h2 : Vc (preG hp l)) : Vc (preG hp ((o, x) :: l)) := ⟨h1.h, h2.h⟩

theorem preG_ok {hp : Nat → Option AObj} : ∀ {l : List (Nat × AObj)}, preG hp l → preOK hp l
  | [], _ => trivial
  | p :: l, h => by
    refine ⟨?_, preG_ok h.2⟩
    have h1 := h.1
    split at h1
    · rename_i y hy; rw [hy, eqObj_spec h1]
    · exact h1.elim

def CallG (P : Program) (f : FuncId) (args : List AV) (S : St) (ms : List Bool) (args' : List AV) (pre : List (Nat × AObj)) (nw : List Nat) (r : AV) (ws : List (Nat × AObj)) (K : AV → List (Nat × AObj) → Foot → Prop) : Prop :=
  match cvt S.hp ms args with
  | some (s, ys, fz) => Side s ∧ fNs fz fun fz => fAVs ys fun ys => Later (eqAVs ys args') ∧ Later (preG S.hp pre) ∧ Chk (okNames S.hp pre fz nw ws) ∧ Chk (callable P f) ∧
      fAV r fun r => fWs (ws ++ deads fz) fun ws' => fFoot ⟨AV.namesL args ++ pre.map (·.1), fz ++ (ws.map (·.1)).filter (fun n => !nw.contains n), nw⟩ fun φ => K r ws' φ
  | none => False

theorem vc_call {P : Program} {f : FuncId} {args args' : List AV} {S : St} {pre : List (Nat × AObj)} {nw : List Nat} {r : AV} {ws : List (Nat × AObj)} {K : AV → List (Nat × AObj) → Foot → Prop} {Kp : Value → List (Nat × AObj) → Foot → Prop} (ms : List Bool)
    (hc : LocalCall P f args' pre nw r ws) (h : Vc (CallG P f args S ms args' pre nw r ws K)) : Vc (vcCall P f args S K Kp) := by
  have h := h.h
  unfold CallG at h
  split at h
  · rename_i s ys fz h1
    rw [fNs_eq, Side_eq, fAVs_eq, Later_eq, Later_eq] at h
    obtain ⟨hs, he, hp, hn, hcl, hk⟩ := h
    rw [Chk_eq] at hn hcl
    rw [fAV_eq, fWs_eq, fFoot_eq] at hk
    rw [eqAVs_spec he] at h1
    exact ⟨⟨.inl ⟨ms, args', fz, s, pre, nw, r, ws, h1, hs, preG_ok hp, hn, hcl, hc, hk⟩⟩⟩
  · exact h.elim

theorem cvt_plain (hp : Nat → Option AObj) : ∀ l : List AV, l.all AV.plain = true → ∃ s, cvt hp [] l = some (s, l, []) ∧ s
  | [], _ => ⟨True, rfl, trivial⟩
  | x :: l, h => by
    simp only [List.all_cons, Bool.and_eq_true] at h
    obtain ⟨s, h1, h2⟩ := cvt_plain hp l h.2
    exact ⟨s, by simp only [cvt, h1, h.1, cond_true], h2⟩

/-- A call of a function that is handed data and hands data back; its arguments found by unification. -/
theorem vc_pure {P : Program} {f : FuncId} {args : List AV} {S : St} {r : AV} {K : AV → List (Nat × AObj) → Foot → Prop} {Kp : Value → List (Nat × AObj) → Foot → Prop}
    (hc : LocalCall P f args [] [] r []) (hp : Vc (Chk (args.all AV.plain))) (hcl : Vc (Chk (callable P f))) (h : Vc (fAV r fun r => fNs (AV.namesL args) fun l => K r [] ⟨l, [], []⟩)) : Vc (vcCall P f args S K Kp) := by
  have h := h.h
  rw [fAV_eq, fNs_eq] at h
  obtain ⟨s, h1, h2⟩ := cvt_plain S.hp args hp.h.h
  exact ⟨⟨.inl ⟨[], args, [], s, [], [], r, [], h1, h2, trivial, rfl, hcl.h.h, hc, by simpa [deads] using h⟩⟩⟩

def CallU (P : Program) (f : FuncId) (args : List AV) (S : St) (pre : List (Nat × AObj)) (nw : List Nat) (r : AV) (ws : List (Nat × AObj)) (K : AV → List (Nat × AObj) → Foot → Prop) : Prop :=
  Later (preG S.hp pre) ∧ Chk (okNames S.hp pre [] nw ws) ∧ Chk (callable P f) ∧
      fAV r fun r => fWs ws fun ws' => fFoot ⟨AV.namesL args ++ pre.map (·.1), (ws.map (·.1)).filter (fun n => !nw.contains n), nw⟩ fun φ => K r ws' φ

/-- A call of which the arguments are found by unification. -/
theorem vc_callU {P : Program} {f : FuncId} {args : List AV} {S : St} {pre : List (Nat × AObj)} {nw : List Nat} {r : AV} {ws : List (Nat × AObj)} {K : AV → List (Nat × AObj) → Foot → Prop} {Kp : Value → List (Nat × AObj) → Foot → Prop}
    (hc : LocalCall P f args pre nw r ws) (hp : Vc (Chk (args.all AV.plain))) (h : Vc (CallU P f args S pre nw r ws K)) : Vc (vcCall P f args S K Kp) := by
  obtain ⟨h1, h2, h3, h4⟩ := h.h
  rw [Later_eq] at h1
  rw [Chk_eq] at h2 h3
  rw [fAV_eq, fWs_eq, fFoot_eq] at h4
  obtain ⟨s, e1, e2⟩ := cvt_plain S.hp args hp.h.h
  exact ⟨⟨.inl ⟨[], args, [], s, pre, nw, r, ws, e1, e2, preG_ok h1, h2, h3, hc, by simpa [deads] using h4⟩⟩⟩

/-- A call that panics. -/
def PanG (P : Program) (f : FuncId) (args : List AV) (S : St) (ms : List Bool) (args' : List AV) (pre : List (Nat × AObj)) (nw : List Nat) (pv : Value) (ws : List (Nat × AObj)) (Kp : Value → List (Nat × AObj) → Foot → Prop) : Prop :=
  match cvt S.hp ms args with
  | some (s, ys, fz) => Side s ∧ fNs fz fun fz => fAVs ys fun ys => Later (eqAVs ys args') ∧ Later (preG S.hp pre) ∧ Chk (okNames S.hp pre fz nw ws) ∧ Chk (callable P f) ∧
      fWs (ws ++ deads fz) fun ws' => fFoot ⟨AV.namesL args ++ pre.map (·.1), fz ++ (ws.map (·.1)).filter (fun n => !nw.contains n), nw⟩ fun φ => Kp pv ws' φ
  | none => False

theorem vc_pan {P : Program} {f : FuncId} {args args' : List AV} {S : St} {pre : List (Nat × AObj)} {nw : List Nat} {pv : Value} {ws : List (Nat × AObj)} {K : AV → List (Nat × AObj) → Foot → Prop} {Kp : Value → List (Nat × AObj) → Foot → Prop} (ms : List Bool)
    (hc : LocalPan P f args' pre nw pv ws) (h : Vc (PanG P f args S ms args' pre nw pv ws Kp)) : Vc (vcCall P f args S K Kp) := by
  have h := h.h
  unfold PanG at h
  split at h
  · rename_i s ys fz h1
    rw [fNs_eq, Side_eq, fAVs_eq, Later_eq, Later_eq] at h
    obtain ⟨hs, he, hp, hn, hcl, hk⟩ := h
    rw [Chk_eq] at hn hcl
    rw [fWs_eq, fFoot_eq] at hk
    rw [eqAVs_spec he] at h1
    exact ⟨⟨.inr ⟨ms, args', fz, s, pre, nw, pv, ws, h1, hs, preG_ok hp, hn, hcl, hc, hk⟩⟩⟩
  · exact h.elim

/-! ### Functions -/

def fnK (P : Program) (fn : Func) (pre : List (Nat × AObj)) (nw : List Nat) (rs : List AV) (ws : List (Nat × AObj)) : AExit → St → Prop
  | .normal, S' => RetC P fn pre nw rs ws S'
  | .ret, S' => RetC P fn pre nw rs ws S'
  | _, _ => False

theorem vc_fn {P : Program} (hm : P.follows .mixedOrders = true) {f : FuncId} {fn : Func} {c : Code} (hf : P.funcs[f]? = some fn) (hb : fn.body = some c) {n : Nat} (hn : fn.ntmps = n) (fr : List (Nat × List Nat)) {args : List AV} {pre : List (Nat × AObj)} {nw : List Nat}
    {rs : List AV} {ws : List (Nat × AObj)} (h1 : Vc (Chk (entOK n args pre))) (h2 : Vc (fNs (pre.map (·.1)) fun en => Later (wpC P fr false en c (mkSt n (enumA 0 args) pre) (fnK P fn pre nw rs ws) (fun _ _ => False)))) : LocalCall P f args pre nw (one rs) ws := by
  subst hn
  refine local_of_body hm hf hb (fr := fr) ⟨h1.h, ?_⟩
  have h2 := h2.h
  rw [fNs_eq, Later_eq] at h2
  have e : fnK P fn pre nw rs ws = fun e S' => match e with
    | .normal => RetC P fn pre nw rs ws S'
    | .ret => RetC P fn pre nw rs ws S'
    | _ => False := by
    funext e S'
    cases e <;> rfl
  rw [e] at h2
  exact h2

def panK (pre : List (Nat × AObj)) (nw : List Nat) (pv : Value) (ws : List (Nat × AObj)) : Value → St → Prop := fun v S' => Side (v = pv) ∧ PanC pre nw ws S'

theorem vc_panc {pre : List (Nat × AObj)} {nw : List Nat} {ws : List (Nat × AObj)} {S : St} (m : List (Nat × Nat)) (kl : List Nat) (h1 : Vc (Chk (finOK pre nw m [] ws))) (h2 : Vc (fWs (finHp pre ws) fun ws' => Later (wkHp (S.write (deads kl)) m ws'))) : Vc (PanC pre nw ws S) := by
  have h2 := h2.h
  rw [fWs_eq, Later_eq] at h2
  exact ⟨m, kl, h1.h, h2⟩

theorem vc_fnPan {P : Program} (hm : P.follows .mixedOrders = true) {f : FuncId} {fn : Func} {c : Code} (hf : P.funcs[f]? = some fn) (hb : fn.body = some c) {n : Nat} (hn : fn.ntmps = n) (fr : List (Nat × List Nat)) {args : List AV} {pre : List (Nat × AObj)} {nw : List Nat} {pv : Value} {ws : List (Nat × AObj)}
    (h1 : Vc (Chk (entOK n args pre))) (h2 : Vc (fNs (pre.map (·.1)) fun en => Later (wpC P fr false en c (mkSt n (enumA 0 args) pre) (fun _ _ => False) (panK pre nw pv ws)))) : LocalPan P f args pre nw pv ws := by
  subst hn
  refine localPan_of_body hm hf hb (fr := fr) ⟨h1.h, ?_⟩
  have h2 := h2.h
  simp only [fNs_eq, Later_eq] at h2
  exact h2

end Go.Sym
