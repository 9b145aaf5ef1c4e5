/- What the reference's Make computes: a key's words, in plain Lean. -/
import Derived.Test.YtpihffpdkfkkhaaDoorMC
namespace Go.Proofs.YtpihffpdkfkkhaaDoor
set_option linter.all false
open Go
def rconR : Nat → BitVec 8
  | 0 => 1#8
  | k + 1 => prL (rconR k) 2#8
/-- bytes exclusive or others, one by one -/
def xorA (p t : List (BitVec 8)) : Nat → List (BitVec 8)
  | 0 => []
  | k + 1 => xorA p t k ++ [p.getD k 0#8 ^^^ t.getD k 0#8]
theorem length_xorA (p t : List (BitVec 8)) (k : Nat) : (xorA p t k).length = k := by
  induction k with
  | zero => rfl
  | succ k ih => simp [xorA, ih]
def turnW (t : List (BitVec 8)) : List (BitVec 8) := [t.getD 1 0#8, t.getD 2 0#8, t.getD 3 0#8, t.getD 0 0#8]
/-- what word i takes from the one ahead -/
def mT (bx : List (BitVec 8)) (nk i : Nat) (t : List (BitVec 8)) : List (BitVec 8) :=
  if i % nk = 0 then (eachR (turnW t) bx 4).set 0 ((eachR (turnW t) bx 4).getD 0 0#8 ^^^ rconR (i / nk - 1))
  else if nk = 8 ∧ i % 8 = 4 then eachR t bx 4 else t
def mW (key bx : List (BitVec 8)) (nk : Nat) (ws : List (List (BitVec 8))) (i : Nat) : List (BitVec 8) :=
  if i < nk then (key.drop (4 * i)).take (4 * i + 4 - 4 * i) else xorA (ws.getD (i - nk) []) (mT bx nk i (ws.getD (i - 1) [])) 4
def mS (key bx : List (BitVec 8)) (nk : Nat) : Nat → List (List (BitVec 8))
  | 0 => []
  | i + 1 => mS key bx nk i ++ [mW key bx nk (mS key bx nk i) i]
theorem length_mT {bx : List (BitVec 8)} {nk i : Nat} {t : List (BitVec 8)} (h : t.length = 4) : (mT bx nk i t).length = 4 := by
  unfold mT
  split
  · simp [length_eachR]
  · split
    · exact length_eachR _ _ _
    · exact h
theorem length_mS (key bx : List (BitVec 8)) (nk i : Nat) : (mS key bx nk i).length = i := by
  induction i with
  | zero => rfl
  | succ i ih => simp [mS, ih]
theorem length_mW {key bx : List (BitVec 8)} {nk i : Nat} {ws : List (List (BitVec 8))} (h : key.length = 4 * nk) : (mW key bx nk ws i).length = 4 := by
  unfold mW
  split
  · simp; omega
  · exact length_xorA _ _ _
theorem mS_four {key bx : List (BitVec 8)} {nk : Nat} (h : key.length = 4 * nk) (i : Nat) : ∀ x ∈ mS key bx nk i, x.length = 4 := by
  induction i with
  | zero => intro x hx; cases hx
  | succ i ih =>
    intro x hx
    rw [mS, List.mem_append, List.mem_singleton] at hx
    rcases hx with hx | rfl
    · exact ih x hx
    · exact length_mW h
theorem mS_getD4 {key bx : List (BitVec 8)} {nk : Nat} (h : key.length = 4 * nk) {i k : Nat} (hk : k < i) : ((mS key bx nk i).getD k []).length = 4 := by
  have hl : k < (mS key bx nk i).length := by rw [length_mS]; exact hk
  have : (mS key bx nk i).getD k [] = (mS key bx nk i)[k] := by simp [hl]
  rw [this]
  exact mS_four h i _ (List.getElem_mem hl)
end Go.Proofs.YtpihffpdkfkkhaaDoor
