/-
Regions: what is asked of the operations one behind the other ('vcOps') serves the order of the text, and whatever order the edges let.
-/
import Derived.Test.YthedcaopedbpdaaSymq
namespace Go.Sym

abbrev Foots := List (Nat × Foot)

structure bcase (b : Bool) (f : Bool → Prop) : Prop where
  t : b = true → f true
  f : b = false → f false
theorem bcase_eq (b : Bool) (f : Bool → Prop) : bcase b f = ((b = true → f true) ∧ (b = false → f false)) := propext ⟨fun h => ⟨h.t, h.f⟩, fun h => ⟨h.1, h.2⟩⟩

def nmOf (rid i : Nat) : Nat := (rid + 1) * 1000 + i * 4

def gdTmp (ops : List Oper) (j : Nat) : Option Tmp := (ops[j]?).bind (·.dst)

/-- Who must come before whom: a number's bits. -/
def befs : List Oper → List Nat → List Nat
  | [], acc => acc
  | o :: os, acc => befs os (acc ++ [o.after.toList.foldl (fun s e => bif Region.binds .any e then s ||| 2 ^ e.on ||| acc.getD e.on 0 else s) 0])

def befT (B : List Nat) (j i : Nat) : Bool := (B.getD j 0).testBit i
def bef (ops : List Oper) (j i : Nat) : Bool := befT (befs ops []) j i

def descMask (ops : List Oper) (i : Nat) : Nat := (List.range ops.length).foldl (fun s j => bif bef ops j i then s ||| 2 ^ j else s) 0

def disj (a b : List Nat) : Bool := a.all fun n => !b.contains n

def indep (ops : List Oper) (a b : Nat × Foot) : Bool :=
  (match ops[a.1]?, ops[b.1]? with
  | some x, some y => x.apart ops.toArray y
  | _, _ => false) && disj a.2.wr b.2.rd && disj a.2.wr b.2.wr && disj b.2.wr a.2.rd && disj a.2.nw b.2.nw && disj a.2.nw b.2.rd && disj a.2.nw b.2.wr && disj b.2.nw a.2.rd && disj b.2.nw a.2.wr

/-- Of each two operations one waits for the other one, or they do not touch one thing. The list: the latest first. -/
def okPairsT (B : List Nat) (ops : List Oper) : Foots → Bool
  | [] => true
  | b :: l => l.all (fun a => befT B b.1 a.1 || indep ops a b) && okPairsT B ops l
def okPairs (ops : List Oper) (l : Foots) : Bool := okPairsT (befs ops []) ops l

/-- A panic of the text's own, with a value that is told. -/
def panOf (S : St) : Op → Option Value
  | .panic x => match S.ev x with
    | .cst (.iface t v) => some (.iface t v)
    | _ => none
  | _ => none

section
variable (P : Program) (ops : List Oper) (rid : Nat) (chk : Foots → Prop)

structure vcCall (f : FuncId) (args : List AV) (S : St) (K : AV → List (Nat × AObj) → Foot → Prop) (Kp : Value → List (Nat × AObj) → Foot → Prop) : Prop where
  h : (∃ (ms : List Bool) (args' : List AV) (fz : List Nat) (s : Prop) (pre : List (Nat × AObj)) (nw : List Nat) (r : AV) (ws : List (Nat × AObj)),
    cvt S.hp ms args = some (s, args', fz) ∧ s ∧ preOK S.hp pre ∧ okNames S.hp pre fz nw ws = true ∧ callable P f = true ∧ LocalCall P f args' pre nw r ws ∧
      K r (ws ++ deads fz) ⟨AV.namesL args ++ pre.map (·.1), fz ++ (ws.map (·.1)).filter (fun n => !nw.contains n), nw⟩) ∨
  (∃ (ms : List Bool) (args' : List AV) (fz : List Nat) (s : Prop) (pre : List (Nat × AObj)) (nw : List Nat) (pv : Value) (ws : List (Nat × AObj)),
    cvt S.hp ms args = some (s, args', fz) ∧ s ∧ preOK S.hp pre ∧ okNames S.hp pre fz nw ws = true ∧ callable P f = true ∧ LocalPan P f args' pre nw pv ws ∧
      Kp pv (ws ++ deads fz) ⟨AV.namesL args ++ pre.map (·.1), fz ++ (ws.map (·.1)).filter (fun n => !nw.contains n), nw⟩)

def vcOp (i : Nat) (o : Oper) (S : St) (K : AV → List (Nat × AObj) → Foot → Prop) (Kp : Value → List (Nat × AObj) → Foot → Prop) : Prop :=
  match calleeOf S o.op with
  | some (f, args) => fN f fun f => fAVs args fun args => vcCall P f args S K Kp
  | none => match panOf S o.op with
  | some pv => Kp pv [] ⟨[], [], []⟩
  | none => match aOp P (nmOf rid i) o.op S.ev (rst S.hp (opNames S o.op)) with
    | some res => bif (S.hp (nmOf rid i)).isNone then Side res.side ∧ fAV res.r fun r => fWs res.ws fun ws => fFoot ⟨nmOf rid i :: opNames S o.op, (ws.map (·.1)).filter (fun n => !n.beq (nmOf rid i)), (ws.map (·.1)).filter (fun n => n.beq (nmOf rid i))⟩ fun φ => K r ws φ else False
    | none => False

def isDefer : Op → Bool
  | .defer _ => true
  | _ => false

def wrt (ops : List Oper) (t : Nat) : Bool := ops.any fun o => match o.dst with
  | some d => d.beq t
  | none => false

theorem wrt_of {ops : List Oper} {i : Nat} {o : Oper} (h : ops[i]? = some o) : ∀ t, o.dst = some t → wrt ops t = true := fun t ht => by
  refine List.any_eq_true.2 ⟨o, List.mem_of_getElem? h, ?_⟩
  rw [ht]; simp

/-- A frame of which the slots that a region writes are not told. -/
def St.blank (ops : List Oper) (S : St) : St := { S with sl := fun t => bif wrt ops t then .top else S.sl t }

/-- Does it leave what is owned alone? -/
def quietF (φ : Foot) : Bool := φ.wr.isEmpty && φ.nw.isEmpty

/-- Does an operation behind one that panics leave what is owned alone? -/
def quiet (q : Bool) (ws : List (Nat × AObj)) (φ : Foot) : Bool := !q || (ws.isEmpty && quietF φ)

/-- One operation; 'V': what is asked of the later ones ('q': one has panicked). -/
def stepOp (V : Bool → Nat → Nat → St → Foots → (St → Prop) → (Value → St → Prop) → Prop) (o : Oper) (q : Bool) (i m : Nat) (S : St) (acc : Foots) (K : St → Prop) (Kp : Value → St → Prop) : Prop :=
  fN (i + 1) fun i' =>
    bif m.testBit i then V q i' m S acc K Kp else
    match o.guard with
    | none => vcOp P rid i o S (fun r ws φ => bif quiet q ws φ then V q i' m (S.upd o.dst r ws) ((i, φ) :: acc) K Kp else False)
        (fun pv ws φ => bif q then False else Chk (acc.all fun p => bef ops i p.1 || quietF p.2) ∧ Kp pv ((S.upd none .top ws).blank ops) ∧ V true i' (m ||| descMask ops i) S ((i, φ) :: acc) (fun _ => True) (fun _ _ => False))
    | some (j, want) => match gdTmp ops j with
      | none => False
      | some t => fN t fun t => bif Nat.blt t S.n then match S.sl t with
          | .d (.bool b) => bcase b fun c =>
            bif c == want then vcOp P rid i o (S.put (some t) (.d (.bool c))) (fun r ws φ => bif quiet q ws φ then V q i' m ((S.put (some t) (.d (.bool c))).upd o.dst r ws) ((i, φ) :: acc) K Kp else False)
              (fun pv ws φ => bif q then False else Chk (acc.all fun p => bef ops i p.1 || quietF p.2) ∧ Kp pv (((S.put (some t) (.d (.bool c))).upd none .top ws).blank ops) ∧ V true i' (m ||| descMask ops i) (S.put (some t) (.d (.bool c))) ((i, φ) :: acc) (fun _ => True) (fun _ _ => False))
            else bif isDefer o.op then False else V q i' m ((S.put (some t) (.d (.bool c))).upd o.dst (.tup []) []) ((i, ⟨[], [], []⟩) :: acc) K Kp
          | .tup [] => bif isDefer o.op then False else V q i' m (S.upd o.dst (.tup []) []) ((i, ⟨[], [], []⟩) :: acc) K Kp
          | _ => False
        else False

def vcOps : List Oper → Bool → Nat → Nat → St → Foots → (St → Prop) → (Value → St → Prop) → Prop
  | [], _, _, _, S, acc, K, _ => chk acc ∧ K S
  | o :: rest, q, i, m, S, acc, K, Kp => stepOp P ops rid (fun q i m S acc K Kp => Later (vcOps rest q i m S acc K Kp)) o q i m S acc K Kp
end

/-! ### The trace -/

inductive Tr (P : Program) (ops : List Oper) : Bool → Option Nat → List Nat → St → Foots → St ⊕ (Value × St) → Prop
  | nil {q : Bool} {S : St} : Tr P ops q none [] S [] (.inl S)
  | step {q : Bool} {pi : Option Nat} {i : Nat} {o : Oper} {L : List Nat} {S : St} {φ : Foot} {r : AV} {ws : List (Nat × AObj)} {fs : Foots} {out : St ⊕ (Value × St)} : ops[i]? = some o → LStep P ops.toArray i S φ r ws → (q = true → ws = [] ∧ quietF φ = true) →
      (∀ i', pi = some i' → bef ops i' i = true ∨ quietF φ = true) → Tr P ops q pi L (S.upd o.dst r ws) fs out → Tr P ops q pi (i :: L) S ((i, φ) :: fs) out
  | pan {i : Nat} {L : List Nat} {S S' : St} {φ : Foot} {pv : Value} {ws : List (Nat × AObj)} {fs : Foots} : LPan P ops.toArray i S φ pv ws → Tr P ops true none (L.filter fun j => !(descMask ops i).testBit j) S fs (.inl S') → Tr P ops false (some i) (i :: L) S ((i, φ) :: fs) (.inr (pv, ((S.upd none .top ws).blank ops)))

theorem looks_guard {ops : List Oper} {o : Oper} {j : Nat} {want : Bool} {t : Tmp} (hg : o.guard = some (j, want)) (ht : gdTmp ops j = some t) : t ∈ o.looksAt ops.toArray := by
  unfold Oper.looksAt
  rw [hg]
  refine List.mem_append_right _ ?_
  have : (ops.toArray[j]?).bind (·.dst) = some t := by simpa [gdTmp] using ht
  show t ∈ ((ops.toArray[j]?).bind (·.dst)).toList
  rw [this]; simp

theorem wanted_guard {ops : List Oper} {o : Oper} {j : Nat} {want b : Bool} {t : Tmp} (hg : o.guard = some (j, want)) (ht : gdTmp ops j = some t) {S : St} {ρ : Nat → Option Nat} {X : Nat → Prop} {a : Act} {w : World} (hs : Sim S ρ X a w)
    (hn : Nat.blt t S.n = true) (hb : S.sl t = .d (.bool b)) : Region.wanted o (yielded ops.toArray a.tmps) = (b == want) := by
  have h1 : (ops.toArray[j]?).bind (·.dst) = some t := by simpa [gdTmp] using ht
  have hlt : t < a.tmps.size := by rw [hs.n]; simpa using hn
  have hv : a.tmps[t]? = some a.tmps[t] := Array.getElem?_eq_getElem hlt
  have hr := hs.slots t _ hv
  rw [hb] at hr
  have hbv := repA_bool hr
  simp only [Region.wanted, hg, yielded, h1, Option.bind_some, hv, hbv]
  cases b <;> cases want <;> rfl

theorem wanted_undef {ops : List Oper} {o : Oper} {j : Nat} {want : Bool} {t : Tmp} (hg : o.guard = some (j, want)) (ht : gdTmp ops j = some t) {S : St} {ρ : Nat → Option Nat} {X : Nat → Prop} {a : Act} {w : World} (hs : Sim S ρ X a w)
    (hn : Nat.blt t S.n = true) (hb : S.sl t = .tup []) : Region.wanted o (yielded ops.toArray a.tmps) = false := by
  have h1 : (ops.toArray[j]?).bind (·.dst) = some t := by simpa [gdTmp] using ht
  have hlt : t < a.tmps.size := by rw [hs.n]; simpa using hn
  have hv : a.tmps[t]? = some a.tmps[t] := Array.getElem?_eq_getElem hlt
  have hr := hs.slots t _ hv
  rw [hb] at hr
  obtain ⟨us, hu, _⟩ := hr
  simp only [Region.wanted, hg, yielded, h1, Option.bind_some, hv, hu]
  rfl

theorem wanted_none {ops : Array Oper} {o : Oper} (hg : o.guard = none) (a : Act) : Region.wanted o (yielded ops a.tmps) = true := by
  simp [Region.wanted, hg]

theorem calleeOf_congr {ops : Array Oper} {o : Oper} {φ : Foot} {S S' : St} (h : Agree ops o φ S S') : calleeOf S' o.op = calleeOf S o.op := by
  have hev := h.ev
  cases ho : o.op <;> rw [ho] at hev <;> simp only [calleeOf]
  rename_i c
  obtain ⟨callee, args, tys⟩ := c
  cases callee <;> simp only
  rename_i x
  rw [hev x (by simp [Op.operands, Call.operands])]
  have : args.toList.map S'.ev = args.toList.map S.ev := List.map_congr_left fun p hp => hev p (by simp [Op.operands, Call.operands]; right; simpa using hp)
  rw [this]

theorem opNames_congr {ops : Array Oper} {o : Oper} {φ : Foot} {S S' : St} (h : Agree ops o φ S S') : opNames S' o.op = opNames S o.op := by
  unfold opNames
  have : o.op.operands.toList.map S'.ev = o.op.operands.toList.map S.ev := List.map_congr_left fun p hp => h.ev p (by simpa using hp)
  rw [this]

theorem nodef_call {S : St} {op : Op} {p : FuncId × List AV} (h : calleeOf S op = some p) : ∀ c, op ≠ .defer c := fun c e => by
  subst e; simp [calleeOf] at h
theorem nodef_op {P : Program} {nm : Nat} {op : Op} {ev : Operand → AV} {hp : Nat → Option AObj} {res : Res} (h : aOp P nm op ev hp = some res) : ∀ c, op ≠ .defer c := fun c e => by
  subst e; simp [aOp] at h

/-- An operation of the region, asked of by 'vcOp', is a local step (or panics). -/
theorem vcOp_local {P : Program} {ops : List Oper} {rid i : Nat} {o : Oper} {S : St} {K : AV → List (Nat × AObj) → Foot → Prop} {Kp : Value → List (Nat × AObj) → Foot → Prop} (hi : ops[i]? = some o)
    (hw : ∀ (φ : Foot) S', Agree ops.toArray o φ S S' → ∀ ρ X a w, Sim S' ρ X a w → Region.wanted o (yielded ops.toArray a.tmps) = true) (h : vcOp P rid i o S K Kp) :
    (∃ φ r ws, LStep P ops.toArray i S φ r ws ∧ K r ws φ) ∨ (∃ φ pv ws, LPan P ops.toArray i S φ pv ws ∧ Kp pv ws φ) := by
  have hi' : ops.toArray[i]? = some o := by simpa using hi
  unfold vcOp at h
  split at h
  · rename_i f args hcal
    rw [fN_eq, fAVs_eq] at h
    have hnd := nodef_call hcal
    have hc : ∃ c x caps, o.op = .call c ∧ c.callee = .value x ∧ S.ev x = .fn (.func f) caps ∧ caps.all AV.single = true ∧ args = c.args.toList.map S.ev ++ caps := by
      unfold calleeOf at hcal
      split at hcal <;> try (cases hcal; done)
      rename_i c ho
      split at hcal <;> try (cases hcal; done)
      rename_i x hx
      split at hcal <;> try (cases hcal; done)
      rename_i g caps hev
      cases hb : caps.all AV.single <;> simp only [hb, cond_true, cond_false] at hcal <;> cases hcal
      exact ⟨c, x, caps, ho, hx, hev, hb, rfl⟩
    obtain ⟨c, x, caps, ho, hx, hev, hsg, hargs⟩ := hc
    have ops_x : x ∈ o.op.operands := by rw [ho]; simp [Op.operands, Call.operands, hx]
    have ops_a : ∀ y, y ∈ c.args.toList → y ∈ o.op.operands := fun y hy => by rw [ho]; simp [Op.operands, Call.operands, hx]; right; simpa using hy
    -- what both ways have in common
    have com : ∀ {ms : List Bool} {args' : List AV} {fz : List Nat} {s : Prop} {pre : List (Nat × AObj)} {nw : List Nat} {ws : List (Nat × AObj)} {φ : Foot}, φ = ⟨AV.namesL args ++ pre.map (·.1), fz ++ (ws.map (·.1)).filter (fun n => !nw.contains n), nw⟩ →
        cvt S.hp ms args = some (s, args', fz) → preOK S.hp pre → okNames S.hp pre fz nw ws = true → (∀ n, n ∈ nw → S.hp n = none) ∧ (∀ n, lkp (ws ++ deads fz) n ≠ none → n ∈ φ.wr ∨ n ∈ φ.nw) ∧
        ∀ S', Agree ops.toArray o φ S S' → S'.ev x = .fn (.func f) caps ∧ cvt S'.hp ms (c.args.toList.map S'.ev ++ caps) = some (s, args', fz) ∧ (∀ p, p ∈ pre → wr S'.hp (deads fz) p.1 = some p.2) ∧
          (∀ ρ X a w, Sim S' ρ X a w → ∀ n, n ∈ nw → wr S'.hp (deads fz) n = none) := by
      intro ms args' fz s pre nw ws φ hφ h1 h3 h4
      simp only [okNames, Bool.and_eq_true, List.all_eq_true, Bool.or_eq_true, Bool.not_eq_true', List.contains_eq_mem, decide_eq_true_eq, decide_eq_false_iff_not, Option.isNone_iff_eq_none] at h4
      obtain ⟨⟨n1, n2⟩, n3⟩ := h4
      refine ⟨n3, fun n hn => ?_, fun S' ha => ?_⟩
      · subst hφ
        cases hl : lkp (ws ++ deads fz) n with
        | none => exact absurd hl hn
        | some y =>
          have := lkp_mem hl
          rcases List.mem_append.1 this with hm | hm
          · have hm' : n ∈ ws.map (·.1) := List.mem_map.2 ⟨_, hm, rfl⟩
            by_cases hnw : n ∈ nw
            · exact .inr hnw
            · exact .inl (by simp only [List.mem_append, List.mem_filter]; exact .inr ⟨hm', by simpa using hnw⟩)
          · simp [deads] at hm
            obtain ⟨n', hm1, rfl, _⟩ := hm
            exact .inl (by simp only [List.mem_append]; exact .inl hm1)
      · have hev' : S'.ev x = .fn (.func f) caps := by rw [ha.ev x ops_x]; exact hev
        have hmap : c.args.toList.map S'.ev = c.args.toList.map S.ev := List.map_congr_left fun p hp => ha.ev p (ops_a p hp)
        have hrd : ∀ n, n ∈ AV.namesL args ∨ n ∈ pre.map (·.1) → S'.hp n = S.hp n := fun n hn => ha.rd n (by rw [hφ]; exact List.mem_append.2 hn)
        have hnwS : ∀ n, n ∈ nw → S'.hp n = none := fun n hn => ha.nw n (by rw [hφ]; exact hn)
        have hcv : cvt S'.hp ms (c.args.toList.map S'.ev ++ caps) = some (s, args', fz) := by
          rw [hmap, ← hargs, cvt_congr (hp := S.hp) (fun n hn => hrd n (.inl hn))]; exact h1
        have hfzd : ∀ n, n ∈ fz → n ∈ AV.namesL args := fun n hn => (cvt_names h1).2 hn
        refine ⟨hev', hcv, fun p hp => ?_, fun ρ X a w hs n hn => ?_⟩
        · have hnf : lkp (deads fz) p.1 = none := by
            cases hl : lkp (deads fz) p.1 with
            | none => rfl
            | some y => exact absurd (lkp_deads hl).2 (n2 p hp)
          simp only [wr, hnf]
          rw [hrd p.1 (.inr (List.mem_map.2 ⟨p, hp, rfl⟩))]
          exact preOK_spec h3 p hp
        · have hnf : lkp (deads fz) n = none := by
            cases hl : lkp (deads fz) n with
            | none => rfl
            | some y =>
              exfalso
              have hm := hfzd n (lkp_deads hl).2
              rw [hargs] at hm
              have hdom' := (evals_rep hs (c := c) hev' hsg).choose_spec.2.2.2 n (by rw [hmap]; exact hm)
              rw [hnwS n hn] at hdom'
              exact hdom' rfl
          simp only [wr, hnf]
          exact hnwS n hn
    rcases h.h with ⟨ms, args', fz, s, pre, nw, r, ws, h1, h2, h3, h4, h5, h6, h7⟩ | ⟨ms, args', fz, s, pre, nw, pv, ws, h1, h2, h3, h4, h5, h6, h7⟩
    · left
      obtain ⟨c1, c2, c3⟩ := com rfl h1 h3 h4
      refine ⟨_, r, _, ⟨o, hi', hnd, c2, c1, fun S' ha ρ X a w hs => ⟨fun _ => ?_, fun hf => ?_⟩⟩, h7⟩
      · obtain ⟨e1, e2, e3, e4⟩ := c3 S' ha
        refine does_call hs ho hx e1 hsg h5 e2 h2 fun vs hvs hdom => ?_
        refine (h6 _ e3 (e4 ρ X a w hs) ρ (less S'.hp ρ X fz) w vs (hs.kill fz).heap hvs hdom).mono fun e w' hq => ?_
        obtain ⟨v, rfl, ρ', X', q1, q2, q3, q4⟩ := hq
        exact ⟨ρ', X', hs.killCall q1 q2 q3 q4⟩
      · rw [hw _ S' ha ρ X a w hs] at hf; cases hf
    · right
      obtain ⟨c1, c2, c3⟩ := com rfl h1 h3 h4
      refine ⟨_, pv, _, ⟨o, hi', hnd, c1, fun S' ha ρ X a w hs => ⟨hw _ S' ha ρ X a w hs, ?_⟩⟩, h7⟩
      obtain ⟨e1, e2, e3, e4⟩ := c3 S' ha
      refine does_call hs ho hx e1 hsg h5 e2 h2 fun vs hvs hdom => ?_
      refine (h6 _ e3 (e4 ρ X a w hs) ρ (less S'.hp ρ X fz) w vs (hs.kill fz).heap hvs hdom).mono fun e w' hq => ?_
      obtain ⟨rfl, ρ', X', q1, q2⟩ := hq
      exact ⟨pv, rfl, rfl, ρ', X', hs.killCall (dst := none) (r := .top) (v := undef) q1 q2 trivial (fun _ h => by cases h)⟩
  · split at h
    · rename_i pv hpan
      right
      have hp : ∃ x t v, o.op = .panic x ∧ S.ev x = .cst (.iface t v) ∧ pv = .iface t v := by
        unfold panOf at hpan
        split at hpan <;> try (cases hpan; done)
        rename_i x ho
        split at hpan <;> try (cases hpan; done)
        rename_i t v hx
        cases hpan
        exact ⟨x, t, v, ho, hx, rfl⟩
      obtain ⟨x, t, v, ho, hx, rfl⟩ := hp
      refine ⟨_, _, _, ⟨o, hi', (fun c e => by rw [ho] at e; cases e), (fun n hn => by cases hn), fun S' ha ρ X a w hs => ⟨hw _ S' ha ρ X a w hs, ?_⟩⟩, h⟩
      have he := hs.ev x
      rw [ha.ev x (by rw [ho]; simp [Op.operands]), hx] at he
      obtain ⟨cs, h1, h2⟩ := he
      have hv : a.eval x = .iface t v := by
        cases h1 with
        | cst _ => exact h2
      have hrun : (execOp a.eval o).run P w = .halt (.panic (.iface t v)) w := by
        simp only [execOp, ho, hv, Instr.panic, goPanic]
        rfl
      unfold Does
      rw [hrun]
      obtain ⟨k1, k2⟩ := hs.put (dst := none) (r := .top) (v := undef) trivial (fun _ h => by cases h)
      exact ⟨rfl, ρ, X, k1, k2⟩
    split at h <;> try (exact h.elim)
    rename_i hcal hpan res hop
    cases hfr : (S.hp (nmOf rid i)).isNone <;> simp only [hfr, cond_true, cond_false] at h <;> try (exact h.elim)
    obtain ⟨hside, hK⟩ := h
    rw [Side_eq] at hside
    simp only [fAV_eq, fWs_eq, fFoot_eq] at hK
    refine .inl ⟨_, res.r, res.ws, ⟨o, hi', nodef_op hop, fun n hn => ?_, fun n hn => ?_, fun S' ha ρ X a w hs => ⟨fun _ => ?_, fun hf => ?_⟩⟩, hK⟩
    · cases hl : lkp res.ws n with
      | none => exact absurd hl hn
      | some y =>
        have hm : n ∈ res.ws.map (·.1) := List.mem_map.2 ⟨_, lkp_mem hl, rfl⟩
        cases hb : n.beq (nmOf rid i) with
        | true => exact .inr (List.mem_filter.2 ⟨hm, hb⟩)
        | false => exact .inl (List.mem_filter.2 ⟨hm, by simp [hb]⟩)
    · have := Nat.eq_of_beq_eq_true (List.mem_filter.1 hn).2
      subst this; simpa using hfr
    · have hop' : aOp P (nmOf rid i) o.op S'.ev (rst S'.hp (opNames S' o.op)) = some res := by
        rw [opNames_congr ha, aOp_congr (ev' := S.ev) (fun x hx => ha.ev x hx), rst_congr (hp' := S.hp) (fun n hn => ha.rd n (List.mem_cons_of_mem _ hn))]
        exact hop
      exact aOp_sound (fun n x => rst_le) hop' hside (by rw [ha.rd _ (List.mem_cons_self ..)]; simpa using hfr) ρ X a w hs
    · rw [hw _ S' ha ρ X a w hs] at hf; cases hf

theorem St.put_same {S : St} {t : Tmp} {x : AV} (h : S.sl t = x) : S.put (some t) x = S := by
  simp only [St.put]
  congr 1
  funext u
  cases hb : t.beq u with
  | true => have := Nat.eq_of_beq_eq_true hb; subst this; simp [h]
  | false => simp

theorem quiet_spec {q : Bool} {ws : List (Nat × AObj)} {φ : Foot} (h : quiet q ws φ = true) : q = true → ws = [] ∧ quietF φ = true := by
  intro hq; subst hq
  simpa [quiet] using h

theorem Tr.noPan {P : Program} {ops : List Oper} {pi : Option Nat} {L : List Nat} {S S' : St} {fs : Foots} (t : Tr P ops true pi L S fs (.inl S')) : pi = none := by
  generalize hq : true = q at t
  generalize ho : Sum.inl S' = out at t
  induction t with
  | nil => rfl
  | step _ _ _ _ _ ih => exact ih hq ho
  | pan _ _ => cases hq

theorem vc_tr {P : Program} {ops : List Oper} {rid : Nat} {chk : Foots → Prop} : ∀ (pend : List Oper) (q : Bool) (i m : Nat) (S : St) (acc : Foots) (K : St → Prop) (Kp : Value → St → Prop), (∀ k o, pend[k]? = some o → ops[i + k]? = some o) →
    vcOps P ops rid chk pend q i m S acc K Kp → ∃ pi fs out, Tr P ops q pi ((List.range' i pend.length).filter fun j => !m.testBit j) S fs out ∧ chk (fs.reverse ++ acc) ∧ (∀ p, p ∈ acc → ∀ i', pi = some i' → bef ops i' p.1 = true ∨ quietF p.2 = true) ∧ match out with
      | .inl S' => K S'
      | .inr p => Kp p.1 p.2
  | [], q, i, m, S, acc, K, Kp, _, h => ⟨none, [], .inl S, .nil, h.1, (fun _ _ _ h => by cases h), h.2⟩
  | o :: rest, q, i, m, S, acc, K, Kp, hp, h => by
    have hi : ops[i]? = some o := hp 0 o rfl
    have hrest : ∀ k o', rest[k]? = some o' → ops[i + 1 + k]? = some o' := fun k o' hk => by
      have := hp (k + 1) o' (by simpa using hk)
      rw [show i + 1 + k = i + (k + 1) by omega]; exact this
    have hr' : List.range' i (o :: rest).length = i :: List.range' (i + 1) rest.length := List.range'_succ
    rw [hr']
    simp only [vcOps, stepOp, fN_eq, Later_eq] at h
    cases hm : m.testBit i <;> simp only [hm, cond_true, cond_false] at h
    · have hL : ((i :: List.range' (i + 1) rest.length).filter fun j => !m.testBit j) = i :: ((List.range' (i + 1) rest.length).filter fun j => !m.testBit j) := by
        simp [hm]
      rw [hL]
      have fin : ∀ (S : St), (∀ (φ : Foot) S', Agree ops.toArray o φ S S' → ∀ ρ X a w, Sim S' ρ X a w → Region.wanted o (yielded ops.toArray a.tmps) = true) →
          vcOp P rid i o S (fun r ws φ => bif quiet q ws φ then vcOps P ops rid chk rest q (i + 1) m (S.upd o.dst r ws) ((i, φ) :: acc) K Kp else False)
            (fun pv ws φ => bif q then False else Chk (acc.all fun p => bef ops i p.1 || quietF p.2) ∧ Kp pv ((S.upd none .top ws).blank ops) ∧ vcOps P ops rid chk rest true (i + 1) (m ||| descMask ops i) S ((i, φ) :: acc) (fun _ => True) (fun _ _ => False)) →
          ∃ pi fs out, Tr P ops q pi (i :: ((List.range' (i + 1) rest.length).filter fun j => !m.testBit j)) S fs out ∧ chk (fs.reverse ++ acc) ∧ (∀ p, p ∈ acc → ∀ i', pi = some i' → bef ops i' p.1 = true ∨ quietF p.2 = true) ∧ match out with
            | .inl S' => K S'
            | .inr p => Kp p.1 p.2 := by
        intro S hw h
        rcases vcOp_local hi hw h with ⟨φ, r, ws, h1, h2⟩ | ⟨φ, pv, ws, h1, h2⟩
        · cases hq : quiet q ws φ <;> rw [hq] at h2
          · exact h2.elim
          · obtain ⟨pi, fs, out, t1, t2, t4, t3⟩ := vc_tr rest q (i + 1) m _ _ K Kp hrest h2
            exact ⟨pi, (i, φ) :: fs, out, .step hi h1 (quiet_spec hq) (t4 (i, φ) (by simp)) t1, by simpa using t2, fun p hp => t4 p (List.mem_cons_of_mem _ hp), t3⟩
        · cases q with
          | true => exact h2.elim
          | false =>
            obtain ⟨h0, h2, h3⟩ := h2
            rw [Chk_eq] at h0
            simp only [List.all_eq_true, Bool.or_eq_true] at h0
            obtain ⟨pi, fs, out, t1, t2, _, t3⟩ := vc_tr rest _ _ _ _ _ _ _ hrest h3
            cases out with
            | inr _ => exact t3.elim
            | inl S' =>
              have : pi = none := t1.noPan
              subst this
              refine ⟨some i, (i, φ) :: fs, .inr (pv, ((S.upd none .top ws).blank ops)), .pan h1 (S' := S') ?_, by simpa using t2, (fun p hp i' hi' => by cases hi'; exact h0 p hp), h2⟩
              rw [List.filter_filter]
              have : (fun j => (!(descMask ops i).testBit j) && !m.testBit j) = fun j => !(m ||| descMask ops i).testBit j := by
                funext j
                rw [Nat.testBit_or]
                cases m.testBit j <;> cases (descMask ops i).testBit j <;> rfl
              rw [this]; exact t1
      cases hg : o.guard with
      | none =>
        rw [hg] at h
        exact fin S (fun φ S' _ ρ X a w _ => wanted_none hg a) h
      | some p =>
        obtain ⟨j, want⟩ := p
        rw [hg] at h
        simp only at h
        split at h <;> try (exact h.elim)
        rename_i t ht
        cases hn : Nat.blt t S.n <;> simp only [hn, cond_true, cond_false] at h <;> try (exact h.elim)
        split at h <;> try (exact h.elim)
        rename_i b hb
        have key : ∀ c, b = c → (bif c == want then vcOp P rid i o (S.put (some t) (.d (.bool c))) (fun r ws φ => bif quiet q ws φ then vcOps P ops rid chk rest q (i + 1) m ((S.put (some t) (.d (.bool c))).upd o.dst r ws) ((i, φ) :: acc) K Kp else False)
              (fun pv ws φ => bif q then False else Chk (acc.all fun p => bef ops i p.1 || quietF p.2) ∧ Kp pv (((S.put (some t) (.d (.bool c))).upd none .top ws).blank ops) ∧ vcOps P ops rid chk rest true (i + 1) (m ||| descMask ops i) (S.put (some t) (.d (.bool c))) ((i, φ) :: acc) (fun _ => True) (fun _ _ => False))
            else bif isDefer o.op then False else vcOps P ops rid chk rest q (i + 1) m ((S.put (some t) (.d (.bool c))).upd o.dst (.tup []) []) ((i, ⟨[], [], []⟩) :: acc) K Kp) →
            ∃ pi fs out, Tr P ops q pi (i :: ((List.range' (i + 1) rest.length).filter fun j => !m.testBit j)) S fs out ∧ chk (fs.reverse ++ acc) ∧ (∀ p, p ∈ acc → ∀ i', pi = some i' → bef ops i' p.1 = true ∨ quietF p.2 = true) ∧ match out with
              | .inl S' => K S'
              | .inr p => Kp p.1 p.2 := by
          intro c hc h
          subst hc
          rw [St.put_same hb] at h
          have hwant : ∀ (φ : Foot) S', Agree ops.toArray o φ S S' → ∀ ρ X a w, Sim S' ρ X a w → Region.wanted o (yielded ops.toArray a.tmps) = (b == want) := fun φ S' ha ρ X a w hs =>
            wanted_guard hg ht hs (by rw [ha.n]; exact hn) (by rw [ha.sl t (looks_guard hg ht)]; exact hb)
          cases hcw : b == want <;> simp only [hcw, cond_true, cond_false] at h
          · cases hdf : isDefer o.op <;> simp only [hdf, cond_true, cond_false] at h <;> try (exact h.elim)
            obtain ⟨pi, fs, out, t1, t2, t4, t3⟩ := vc_tr rest q (i + 1) m _ _ K Kp hrest h
            refine ⟨pi, (i, ⟨[], [], []⟩) :: fs, out, .step hi ⟨o, by simpa using hi, (fun c e => by rw [e] at hdf; cases hdf), fun n hn => absurd rfl hn, (fun n hn => by cases hn), fun S' ha ρ X a w hs => ⟨fun hf => ?_, fun _ => ⟨rfl, rfl⟩⟩⟩ (fun _ => ⟨rfl, rfl⟩) (fun _ _ => .inr rfl) t1, by simpa using t2, fun p hp => t4 p (List.mem_cons_of_mem _ hp), t3⟩
            · rw [hwant _ S' ha ρ X a w hs, hcw] at hf; cases hf
          · exact fin S (fun φ S' ha ρ X a w hs => by rw [hwant φ S' ha ρ X a w hs, hcw]) h
        rw [bcase_eq] at h
        cases hbv : b with
        | true => exact key true hbv (h.1 hbv)
        | false => exact key false hbv (h.2 hbv)
        rename_i hb
        have hwant : ∀ (φ : Foot) S', Agree ops.toArray o φ S S' → ∀ ρ X a w, Sim S' ρ X a w → Region.wanted o (yielded ops.toArray a.tmps) = false := fun φ S' ha ρ X a w hs =>
          wanted_undef hg ht hs (by rw [ha.n]; exact hn) (by rw [ha.sl t (looks_guard hg ht)]; exact hb)
        cases hdf : isDefer o.op <;> simp only [hdf, cond_true, cond_false] at h <;> try (exact h.elim)
        obtain ⟨pi, fs, out, t1, t2, t4, t3⟩ := vc_tr rest q (i + 1) m _ _ K Kp hrest h
        refine ⟨pi, (i, ⟨[], [], []⟩) :: fs, out, .step hi ⟨o, by simpa using hi, (fun c e => by rw [e] at hdf; cases hdf), fun n hn => absurd rfl hn, (fun n hn => by cases hn), fun S' ha ρ X a w hs => ⟨fun hf => ?_, fun _ => ⟨rfl, rfl⟩⟩⟩ (fun _ => ⟨rfl, rfl⟩) (fun _ _ => .inr rfl) t1, by simpa using t2, fun p hp => t4 p (List.mem_cons_of_mem _ hp), t3⟩
        · rw [hwant _ S' ha ρ X a w hs] at hf; cases hf
    · have hL : ((i :: List.range' (i + 1) rest.length).filter fun j => !m.testBit j) = ((List.range' (i + 1) rest.length).filter fun j => !m.testBit j) := by
        simp [hm]
      rw [hL]
      exact vc_tr rest q (i + 1) m S acc K Kp hrest h

attribute [irreducible] vcOps

end Go.Sym
