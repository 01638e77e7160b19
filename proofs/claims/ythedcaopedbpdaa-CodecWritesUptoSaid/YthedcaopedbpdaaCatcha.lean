/-
What the deferred closure of codec.Read does.
-/
import Derived.Test.YthedcaopedbpdaaProg
import Derived.Test.YthedcaopedbpdaaSymt
import Derived.Tactics
import Derived.Tactics2
import Derived.Defers
import Derived.Recover
import Derived.Laws.Pointers
import Derived.TacticsInMore
import Derived.RegionIn
import Derived.LoopNIn
import Derived.RecoverIn
import Derived.KernelRfl
namespace Go.Proofs.Ythedcaopedbpdaa
open Go.Sym
set_option maxRecDepth 10000
set_option maxHeartbeats 1000000


/-- What is thrown where bytes are none such. -/
def fault : Value := .iface 63 (.agg #[])

theorem not_nil (w : World) : (binOp .eql 20 fault .nilIface).run Try.prog w = .ok (.bool false) w := by kernel_rfl
theorem guard_nil (w : World) : (eqGuard .eql 20 (.tmp 4) (.const .nilIface) fault .nilIface).run Try.prog w = .ok () w := by kernel_rfl
theorem is_nil (w : World) : (binOp .eql 20 .nilIface .nilIface).run Try.prog w = .ok (.bool true) w := by kernel_rfl
theorem is_fault (w : World) : (Instr.typeAssert fault 20 63 true).run Try.prog w = .ok (.tuple #[.agg #[], .bool true]) w := by kernel_rfl

theorem FR_round (ro : Option Nat) : (FR ro).round = ro := rfl
theorem FR_fn (ro : Option Nat) (f : FuncId) : (FR ro).fn f = True := rfl
theorem FR_depth (ro : Option Nat) : (FR ro).depth = none := rfl

theorem tmpsC (p : Addr) (v : Value) : (#[Value.pointer (some p)] ++ (Array.replicate 9 undef).setIfInBounds 3 v) = #[.pointer (some p), undef, undef, undef, v, undef, undef, undef, undef, undef] := rfl

theorem catch_idle (p : Addr) (w : World) :
    CallsDIn (FR none) 0 Try.prog 38 #[.pointer (some p)] .returning w fun e u' w' => e = .returned (.tuple #[]) ∧ u' = .returning ∧ w' = w := by
  refine callsDIn_of_wpSIn Try.func38 rfl trivial fun c₀ cs hu => ?_
  have h0 := is_nil w
  have q1 := FR_round none
  have q2 := FR_fn none
  have q3 := FR_depth none
  apply wpSIn_seq
  apply wpSIn_region
  simp [wpOpsSIn, go_sem, recoverD, hu, Exit.thenS]
  rw [tmpsC]
  refine wpSIn_of_wpIn rfl ?_
  gi_wp2
  cases c₀
  simp_all [bodyPostS, results]

theorem catch_pan (p : Addr) (w : World) (k : IntKind) (x : Int) (hc : (w.alloc (.cells #[] 63)).cell? p = some (.int k x)) (hz : (w.alloc (.cells #[] 63)).frozen? p = false) :
    CallsDIn (FR none) 0 Try.prog 38 #[.pointer (some p)] (.panicking [{ v := fault, recovered := false }]) w fun e u' w' =>
      e = .returned (.tuple #[]) ∧ u' = .panicking [{ v := fault, recovered := true }] ∧ w' = (w.alloc (.cells #[] 63)).setCell p (.int .i64 3) := by
  refine callsDIn_of_wpSIn Try.func38 rfl trivial fun c₀ cs hu => ?_
  have h0 := not_nil w
  have hg := guard_nil w
  have q1 := FR_round none
  have q2 := FR_fn none
  have q3 := FR_depth none
  have h1 := is_fault w
  apply wpSIn_seq
  apply wpSIn_region
  simp [wpOpsSIn, go_sem, recoverD, hu, Exit.thenS]
  rw [tmpsC]
  refine wpSIn_of_wpIn rfl ?_
  gi_wp2
  all_goals simp [bodyPostS, results]

end Go.Proofs.Ythedcaopedbpdaa
