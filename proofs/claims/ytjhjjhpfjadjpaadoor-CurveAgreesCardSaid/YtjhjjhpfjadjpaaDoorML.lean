/- What was lent. -/
import Derived.Test.YtjhjjhpfjadjpaaDoorVR
namespace Go.Proofs.YtjhjjhpfjadjpaaDoor
set_option linter.all false
open Go
def lentF (s : List (BitVec 8)) : Nat → List (BitVec 8)
  | 0 => over (List.replicate (s.length + 160) 0#8) 0 (s.take (min s.length (s.length + 160)))
  | k + 1 => (lentF s k).set (s.length + k) (BitVec.ofNat 8 ((s.length + k) % 251) ^^^ 165#8)
def lentL (s : List (BitVec 8)) : List (BitVec 8) := lentF s 160
theorem length_lentF (s : List (BitVec 8)) (k : Nat) : (lentF s k).length = s.length + 160 := by
  induction k with
  | zero => simp [lentF, over]
  | succ k ih => simp [lentF, ih]
theorem length_lentL (s : List (BitVec 8)) : (lentL s).length = s.length + 160 := length_lentF s 160
theorem lentF_take (s : List (BitVec 8)) (k : Nat) (hk : k ≤ 160) : (lentF s k).take s.length = s := by
  induction k with
  | zero =>
    have e : min s.length (s.length + 160) = s.length := by omega
    simp [lentF, over, e]
  | succ k ih =>
    rw [lentF, List.take_set_of_le (by omega), ih (by omega)]
theorem lentRd {w : World} {v : Value} {c : List (BitVec 8)} (h : Rd w v (c.length - 0) 1 ((((lentL c).drop 0).take (c.length - 0)).map U8)) : Rd w v c.length 1 (c.map U8) := by
  have e : ((lentL c).drop 0).take (c.length - 0) = c := lentF_take c 160 (by omega)
  rw [e] at h
  exact h
end Go.Proofs.YtjhjjhpfjadjpaaDoor
