/- What the functions of package aes that reckon in the field of 2^128 compute, in plain Lean. -/
import Derived.Test.YtpihffpdkfkkhaaDoorVL
namespace Go.Proofs.YtpihffpdkfkkhaaDoor
set_option linter.all false
open Go
abbrev El := BitVec 64 × BitVec 64
abbrev elV (e : El) : Value := .agg #[U64 e.1, U64 e.2]
def elPlus (a b : El) : El := (a.1 ^^^ b.1, a.2 ^^^ b.2)
def elNext (e : El) : El := ((e.1 >>> 1) ^^^ ((-(e.2 &&& 1#64)) &&& 16212958658533785600#64), (e.1 <<< 63) ||| (e.2 >>> 1))
/-- a round of times, by the upper word of the first -/
def ts1 (s : El × El × El) : El × El × El := ((s.1.1 <<< 1, s.1.2), elNext s.2.1, if s.1.1 >>> 63 = 1#64 then elPlus s.2.2 s.2.1 else s.2.2)
def ts2 (s : El × El × El) : El × El × El := ((s.1.1, s.1.2 <<< 1), elNext s.2.1, if s.1.2 >>> 63 = 1#64 then elPlus s.2.2 s.2.1 else s.2.2)
def tl1 (s : El × El × El) : Nat → El × El × El
  | 0 => s
  | k + 1 => ts1 (tl1 s k)
def tl2 (s : El × El × El) : Nat → El × El × El
  | 0 => s
  | k + 1 => ts2 (tl2 s k)
def elTimes (a b : El) : El := (tl2 (tl1 (a, b, (0#64, 0#64)) 64) 64).2.2
def elBytes (e : El) : Nat → List (BitVec 8)
  | 0 => List.replicate 16 0#8
  | k + 1 => ((elBytes e k).set k ((e.1 >>> (56 - 8 * k)).setWidth 8)).set (8 + k) ((e.2 >>> (56 - 8 * k)).setWidth 8)
theorem length_elBytes (e : El) (k : Nat) : (elBytes e k).length = 16 := by
  induction k with
  | zero => rfl
  | succ k ih => simp [elBytes, ih]
def elRead (l : List (BitVec 8)) : Nat → El
  | 0 => (0#64, 0#64)
  | k + 1 => if k < 8 then (((elRead l k).1 <<< 8) ||| (l.getD k 0#8).setWidth 64, (elRead l k).2) else ((elRead l k).1, ((elRead l k).2 <<< 8) ||| (l.getD k 0#8).setWidth 64)
theorem elRead_lo {l : List (BitVec 8)} {k : Nat} (h : k < 8) : elRead l (k + 1) = (((elRead l k).1 <<< 8) ||| (((l.drop 0).take (16 - 0)).getD k 0#8).setWidth 64, (elRead l k).2) := by
  have e : ((l.drop 0).take (16 - 0)).getD k 0#8 = l.getD k 0#8 := by
    simp only [List.getD_eq_getElem?_getD, List.drop_zero, Nat.sub_zero, List.getElem?_take]; rw [if_pos (by omega)]
  rw [e, elRead, if_pos h]
theorem elRead_hi {l : List (BitVec 8)} {k : Nat} (h : 8 ≤ k) (h2 : k < 16) : elRead l (k + 1) = ((elRead l k).1, ((elRead l k).2 <<< 8) ||| (((l.drop 0).take (16 - 0)).getD k 0#8).setWidth 64) := by
  have e : ((l.drop 0).take (16 - 0)).getD k 0#8 = l.getD k 0#8 := by
    simp only [List.getD_eq_getElem?_getD, List.drop_zero, Nat.sub_zero, List.getElem?_take]; rw [if_pos (by omega)]
  rw [e, elRead, if_neg (by omega)]
/-! ### the reference's functions -/
def padL (s : List (BitVec 8)) : List (BitVec 8) := s ++ List.replicate ((16 - s.length % 16) % 16) 0#8
def highV (v : BitVec 64) : Nat → BitVec 64
  | 0 => v
  | k + 1 => highV v k >>> 8
def highL (v : BitVec 64) : Nat → List (BitVec 8)
  | 0 => []
  | k + 1 => [(highV v k).setWidth 8] ++ highL v k
theorem length_highL (v : BitVec 64) (k : Nat) : (highL v k).length = k := by
  induction k with
  | zero => rfl
  | succ k ih => simp [highL, ih]
def xorL (a b : List (BitVec 8)) : Nat → List (BitVec 8)
  | 0 => a
  | k + 1 => (xorL a b k).set k ((xorL a b k).getD k 0#8 ^^^ b.getD k 0#8)
theorem length_xorL (a b : List (BitVec 8)) (k : Nat) : (xorL a b k).length = a.length := by
  induction k with
  | zero => rfl
  | succ k ih => simp [xorL, ih]
def bitL (s : List (BitVec 8)) (n : Nat) : BitVec 8 := (s.getD (n / 8) 0#8 >>> (7 - n % 8)) &&& 1#8
def shL (v : List (BitVec 8)) : Nat → List (BitVec 8)
  | 0 => v
  | j + 1 => (shL v j).set (15 - j) (((shL v j).getD (15 - j) 0#8 >>> 1) ||| ((shL v j).getD (15 - j - 1) 0#8 <<< 7))
theorem length_shL (v : List (BitVec 8)) (k : Nat) : (shL v k).length = v.length := by
  induction k with
  | zero => rfl
  | succ k ih => simp [shL, ih]
def rHalf (v : List (BitVec 8)) : List (BitVec 8) := (shL v 15).set 0 ((shL v 15).getD 0 0#8 >>> 1)
def rStep (v : List (BitVec 8)) : List (BitVec 8) := if v.getD 15 0#8 &&& 1#8 = 1#8 then (rHalf v).set 0 ((rHalf v).getD 0 0#8 ^^^ 225#8) else rHalf v
def rV (b : List (BitVec 8)) : Nat → List (BitVec 8)
  | 0 => b
  | k + 1 => rStep (rV b k)
theorem length_rStep (v : List (BitVec 8)) : (rStep v).length = v.length := by
  unfold rStep; split <;> simp [rHalf, length_shL]
theorem length_rV (b : List (BitVec 8)) (k : Nat) : (rV b k).length = b.length := by
  induction k with
  | zero => rfl
  | succ k ih => simp [rV, length_rStep, ih]
def rA (a b : List (BitVec 8)) : Nat → List (BitVec 8)
  | 0 => List.replicate 16 0#8
  | k + 1 => if bitL a k = 1#8 then xorL (rA a b k) (rV b k) 16 else rA a b k
theorem length_rA (a b : List (BitVec 8)) (k : Nat) : (rA a b k).length = 16 := by
  induction k with
  | zero => rfl
  | succ k ih => unfold rA; split <;> simp [length_xorL, ih]
def rTimes (a b : List (BitVec 8)) : List (BitVec 8) := rA a b 128
def rText (a c : List (BitVec 8)) : List (BitVec 8) := ((padL a ++ padL c) ++ highL (BitVec.ofNat 64 a.length * 8#64) 8) ++ highL (BitVec.ofNat 64 c.length * 8#64) 8
def rG (h t : List (BitVec 8)) : Nat → List (BitVec 8)
  | 0 => List.replicate 16 0#8
  | k + 1 => rTimes (xorL (rG h t k) ((t.drop (16 * k)).take (16 * k + 16 - 16 * k)) 16) h
theorem length_rG (h t : List (BitVec 8)) (k : Nat) : (rG h t k).length = 16 := by
  cases k with
  | zero => rfl
  | succ k => exact length_rA _ _ _
theorem length_rText (a c : List (BitVec 8)) : ∃ m, (rText a c).length = 16 * m ∧ m ≤ a.length + c.length + 3 := by
  refine ⟨(a.length + (16 - a.length % 16) % 16 + (c.length + (16 - c.length % 16) % 16) + 16) / 16, ?_⟩
  simp [rText, padL, length_highL]
  omega
/-! ### the program's sum -/
def gAcc (h : El) (part : List (BitVec 8)) (e : El) : Nat → El
  | 0 => e
  | j + 1 => elTimes (elPlus (gAcc h part e j) (elRead (over (List.replicate 16 0#8) 0 ((part.drop (16 * j)).take (min (part.length - 16 * j) 16))) 16)) h
def cutV (v : Value) (n : Nat) : Nat → Value
  | 0 => v
  | j + 1 => vsub (cutV v n j) (min (n - 16 * j) 16) (n - 16 * j) 1
theorem cutRd {w : World} {v : Value} {n : Nat} {l : List (BitVec 8)} (h : Rd w v n 1 (l.map U8)) : ∀ j, Rd w (cutV v n j) (n - 16 * j) 1 ((l.drop (16 * j)).map U8)
  | 0 => by simpa [cutV] using h
  | j + 1 => by
    have hl : l.length = n := by have := h.len; simpa using this
    have h1 := (cutRd h j).part8 (lo := min (n - 16 * j) 16) (hi := n - 16 * j) (by omega) (Nat.le_refl _)
    have e1 : n - 16 * j - min (n - 16 * j) 16 = n - 16 * (j + 1) := by omega
    have e2 : ((l.drop (16 * j)).drop (min (n - 16 * j) 16)).take (n - 16 * j - min (n - 16 * j) 16) = l.drop (16 * (j + 1)) := by
      rw [List.drop_drop, e1, List.take_of_length_le (by simp; omega)]
      by_cases hc : 16 ≤ n - 16 * j
      · rw [Nat.min_eq_right hc]; rfl
      · rw [List.drop_eq_nil_of_le (by omega), List.drop_eq_nil_of_le (by omega)]
    rw [e1] at h1
    rw [e1] at e2
    rw [e2] at h1
    exact h1
def gPart (h : El) (part : List (BitVec 8)) (e : El) : El := gAcc h part e ((part.length + 15) / 16)
def gParts (h : El) (ps : List (List (BitVec 8))) (e : El) : Nat → El
  | 0 => e
  | k + 1 => gPart h (ps.getD k []) (gParts h ps e k)
def gLens (ps : List (List (BitVec 8))) : Nat → List (BitVec 64)
  | 0 => [0#64, 0#64]
  | k + 1 => (gLens ps k).set k (8#64 * BitVec.ofNat 64 (ps.getD k []).length)
theorem length_gLens (ps : List (List (BitVec 8))) (k : Nat) : (gLens ps k).length = 2 := by
  induction k with
  | zero => rfl
  | succ k ih => simp [gLens, ih]
def gSum (h : El) (ps : List (List (BitVec 8))) : El := elTimes (elPlus (gParts h ps (0#64, 0#64) 2) ((gLens ps 2).getD 0 0#64, (gLens ps 2).getD 1 0#64)) h
/-! ### what the package gives out -/
def tOk (a b : List (BitVec 8)) : Bool := decide (a.length = 16) && decide (b.length = 16)
def tMul (a b : List (BitVec 8)) : List (BitVec 8) := elBytes (elTimes (elRead a 16) (elRead b 16)) 8
def tOut (a b : List (BitVec 8)) : List (BitVec 8) := if tOk a b then tMul a b else []
def tErr (a b : List (BitVec 8)) : Nat := if tOk a b then 0 else 2
def gOut (h a c : List (BitVec 8)) : List (BitVec 8) := if h.length = 16 then elBytes (gSum (elRead h 16) [a, c]) 8 else []
def gErr (h : List (BitVec 8)) : Nat := if h.length = 16 then 0 else 2
def lentF (s : List (BitVec 8)) : Nat → List (BitVec 8)
  | 0 => over (List.replicate (s.length + 160) 0#8) 0 (s.take (min s.length (s.length + 160)))
  | k + 1 => (lentF s k).set (s.length + k) (BitVec.ofNat 8 ((s.length + k) % 251) ^^^ 165#8)
def lentL (s : List (BitVec 8)) : List (BitVec 8) := lentF s 160
theorem length_lentF (s : List (BitVec 8)) (k : Nat) : (lentF s k).length = s.length + 160 := by
  induction k with
  | zero => simp [lentF, over]
  | succ k ih => simp [lentF, ih]
theorem length_lentL (s : List (BitVec 8)) : (lentL s).length = s.length + 160 := length_lentF s 160
def blockL (a : List (BitVec 8)) : List (BitVec 8) := over (List.replicate 16 0#8) 0 (a.take (min a.length 16))
theorem length_blockL (a : List (BitVec 8)) : (blockL a).length = 16 := by simp [blockL, over]; omega
def plusL (a b : List (BitVec 8)) : Nat → List (BitVec 8)
  | 0 => List.replicate 16 0#8
  | k + 1 => (plusL a b k).set k (a.getD k 0#8 ^^^ b.getD k 0#8)
theorem length_plusL (a b : List (BitVec 8)) (k : Nat) : (plusL a b k).length = 16 := by
  induction k with
  | zero => rfl
  | succ k ih => simp [plusL, ih]
end Go.Proofs.YtpihffpdkfkkhaaDoor
