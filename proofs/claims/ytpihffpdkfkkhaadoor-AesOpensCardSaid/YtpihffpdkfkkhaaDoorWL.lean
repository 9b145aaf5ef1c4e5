/- What was lent, read. -/
import Derived.Test.YtpihffpdkfkkhaaDoorWQ
namespace Go.Proofs.YtpihffpdkfkkhaaDoor
set_option linter.all false
open Go
theorem lentF_take (s : List (BitVec 8)) (k : Nat) (hk : k ≤ 160) : (lentF s k).take s.length = s := by
  induction k with
  | zero =>
    have e : min s.length (s.length + 160) = s.length := by omega
    simp [lentF, over, e]
  | succ k ih =>
    rw [lentF, List.take_set_of_le (by omega), ih (by omega)]
theorem lentRd {w : World} {v : Value} {c : List (BitVec 8)} (h : Rd w v (c.length - 0) 1 ((((lentL c).drop 0).take (c.length - 0)).map U8)) : Rd w v c.length 1 (c.map U8) := by
  have e : ((lentL c).drop 0).take (c.length - 0) = c := lentF_take c 160 (by omega)
  rw [e] at h
  exact h
end Go.Proofs.YtpihffpdkfkkhaaDoor
