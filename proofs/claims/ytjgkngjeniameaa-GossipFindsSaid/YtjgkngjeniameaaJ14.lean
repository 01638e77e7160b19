import Derived.Test.YtjgkngjeniameaaJ4
import Derived.Test.YtjgkngjeniameaaJ6
set_option linter.unusedSimpArgs false
set_option linter.unusedVariables false
namespace Go.Proofs.Ytjgkngjeniameaa
open Go.Sym
set_option maxRecDepth 10000
set_option maxHeartbeats 4000000
theorem seal_follow (seed : List UInt8) {g : Hd} (he : g.epoch < 64) (hk : g.key = pubH seed (g.epoch + 1)) (tree : List UInt8) : folE g (sealS seed g tree) = 0 := by
  unfold folE
  rw [decide_eq_false (show ¬ 64 ≤ g.epoch by omega), decide_eq_true (show (sealS seed g tree).root.epoch = g.epoch + 1 from rfl), decide_eq_true (show (sealS seed g tree).root.prev = g.root from rfl)]
  have hc : checkE g.key (rootB (sealS seed g tree).root) (sealS seed g tree).sig = 0 := by
    rw [hk]
    show checkE (shaB (textP (keyH seed (g.epoch + 1)))) (rootB (sealRt seed g tree)) (signP (keyH seed (g.epoch + 1)) (shaB (rootB (sealRt seed g tree)))) = 0
    unfold checkE
    rw [open_sign (keyH_length _ _), decide_eq_true (signP_length (keyH_length _ _) _), decide_eq_true rfl]; rfl
  rw [decide_eq_true hc]; rfl
theorem walk_one {g : Hd} {s : Sgn} (h : folE g s = 0) : walk g [s] = (folY s, 1, 0) := by
  simp only [walk, h, decide_true, cond_true]
theorem dig_at {ts : List (List UInt8)} {i : Nat} (hi : i < ts.length) : (ts.map digD).getD i .nilp = digD (ts.getD i []) := (map_at (f := digD) (d := []) hi).1
end Go.Proofs.Ytjgkngjeniameaa
