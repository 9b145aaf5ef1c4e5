/- What sealing computes, in plain Lean. -/
import Derived.Test.YtpihffpdkfkkhaaDoorMD
namespace Go.Proofs.YtpihffpdkfkkhaaDoor
set_option linter.all false
open Go
def ctrL (nonce : List (BitVec 8)) (i : BitVec 32) : Nat → List (BitVec 8)
  | 0 => over (List.replicate 16 0#8) 0 (nonce.take (min 12 16))
  | k + 1 => (ctrL nonce i k).set (12 + k) ((i >>> (24 - 8 * k)).setWidth 8)
theorem length_ctrL (nonce : List (BitVec 8)) (i : BitVec 32) (k : Nat) (h : nonce.length = 12) : (ctrL nonce i k).length = 16 := by
  induction k with
  | zero => simp [ctrL, over, h]
  | succ k ih => simp [ctrL, ih]
/-- an encrypted counter block -/
def seaE (flat : List (BitVec 8)) (n : Nat) (nonce : List (BitVec 8)) (c : BitVec 32) : List (BitVec 8) := encS flat n (ctrL nonce c 4) (n - 1)
def xorB (out b : List (BitVec 8)) (i : Nat) : Nat → List (BitVec 8)
  | 0 => out
  | j + 1 => (xorB out b i j).set (i + j) ((xorB out b i j).getD (i + j) 0#8 ^^^ b.getD j 0#8)
theorem length_xorB (out b : List (BitVec 8)) (i j : Nat) : (xorB out b i j).length = out.length := by
  induction j with
  | zero => rfl
  | succ j ih => simp [xorB, ih]
def turnL (flat : List (BitVec 8)) (n : Nat) (nonce text : List (BitVec 8)) : Nat → List (BitVec 8)
  | 0 => text
  | i + 1 => if i % 16 = 0 then xorB (turnL flat n nonce text i) (seaE flat n nonce (BitVec.ofNat 32 (i / 16) + 2#32)) i (min (i + 16) text.length - i) else turnL flat n nonce text i
theorem length_turnL (flat : List (BitVec 8)) (n : Nat) (nonce text : List (BitVec 8)) (i : Nat) : (turnL flat n nonce text i).length = text.length := by
  induction i with
  | zero => rfl
  | succ i ih =>
    rw [turnL]
    split
    · rw [length_xorB, ih]
    · exact ih
def tagL (flat : List (BitVec 8)) (n : Nat) (nonce a c : List (BitVec 8)) : List (BitVec 8) :=
  addL (seaE flat n nonce 1#32) (elBytes (gSum (elRead (encS flat n (List.replicate 16 0#8) (n - 1)) 16) [a, c]) 8) 16
theorem length_seaE (flat : List (BitVec 8)) (n : Nat) (nonce : List (BitVec 8)) (c : BitVec 32) (h : nonce.length = 12) : (seaE flat n nonce c).length = 16 := by
  rw [seaE, length_encS, length_ctrL _ _ _ h]
theorem length_tagL (flat : List (BitVec 8)) (n : Nat) (nonce a c : List (BitVec 8)) (h : nonce.length = 12) : (tagL flat n nonce a c).length = 16 := by
  rw [tagL, length_addL, length_seaE _ _ _ _ h]
/-! ### what the package gives out -/
def sOk (key nonce : List (BitVec 8)) : Bool := (decide (key.length = 16) || decide (key.length = 32)) && decide (nonce.length = 12)
def flatOf (key : List (BitVec 8)) : List (BitVec 8) := (kS key (key.length / 4) (3 * (key.length / 4) + 28)).1
def sealOut (key nonce a t : List (BitVec 8)) : List (BitVec 8) :=
  turnL (flatOf key) (key.length / 4 + 7) nonce t t.length ++ tagL (flatOf key) (key.length / 4 + 7) nonce a (turnL (flatOf key) (key.length / 4 + 7) nonce t t.length)
def sErr (key nonce : List (BitVec 8)) : Int := if sOk key nonce then 0 else 2
def sOut (key nonce a t : List (BitVec 8)) : List (BitVec 8) := if sOk key nonce then sealOut key nonce a t else []
/-- does it open? -/
def opens (key nonce a s : List (BitVec 8)) : Bool := decide (16 ≤ s.length) && decide (tagL (flatOf key) (key.length / 4 + 7) nonce a (s.take (s.length - 16)) = s.drop (s.length - 16))
def oErr (key nonce a s : List (BitVec 8)) : Int := if sOk key nonce then (if opens key nonce a s then 0 else 4) else 2
def oOut (key nonce a s : List (BitVec 8)) : List (BitVec 8) :=
  if sOk key nonce then (if opens key nonce a s then turnL (flatOf key) (key.length / 4 + 7) nonce (s.take (s.length - 16)) (s.take (s.length - 16)).length else []) else []
/-! ### the reference's -/
def cutR (text : List (BitVec 8)) (i : Nat) : List (BitVec 8) := (text.drop (16 * i)).take (min (16 * i + 16) text.length - 16 * i)
theorem length_cutR (text : List (BitVec 8)) (i : Nat) : (cutR text i).length = min (16 * i + 16) text.length - 16 * i := by
  simp [cutR]; omega
def strR (E : Nat → List (BitVec 8)) (text : List (BitVec 8)) : Nat → List (BitVec 8)
  | 0 => []
  | i + 1 => strR E text i ++ xorL (cutR text i) (E i) (cutR text i).length
theorem length_strR (E : Nat → List (BitVec 8)) (text : List (BitVec 8)) (i : Nat) (h : 16 * i ≤ text.length + 15) : (strR E text i).length = min (16 * i) text.length := by
  induction i with
  | zero => simp [strR]
  | succ i ih =>
    rw [strR, List.length_append, ih (by omega), length_xorL, length_cutR]
    omega
def refE (ws : List (List (BitVec 8))) (bx : List (BitVec 8)) (R : Nat) (nonce : List (BitVec 8)) (i : Nat) : List (BitVec 8) := encQ (nonce ++ highL ((BitVec.ofNat 32 (i + 2)).setWidth 64) 4) ws bx R R
def refH (ws : List (List (BitVec 8))) (bx : List (BitVec 8)) (R : Nat) (a c : List (BitVec 8)) : List (BitVec 8) := rG (encQ (List.replicate 16 0#8) ws bx R R) (rText a c) ((rText a c).length / 16)
def refTag (ws : List (List (BitVec 8))) (bx : List (BitVec 8)) (R : Nat) (nonce a c : List (BitVec 8)) : List (BitVec 8) := xorL (refH ws bx R a c) (encQ (nonce ++ highL 1#64 4) ws bx R R) (refH ws bx R a c).length
theorem length_refTag (ws : List (List (BitVec 8))) (bx : List (BitVec 8)) (R : Nat) (nonce a c : List (BitVec 8)) : (refTag ws bx R nonce a c).length = 16 := by rw [refTag, length_xorL, refH, length_rG]
theorem length_refE (ws : List (List (BitVec 8))) (bx : List (BitVec 8)) (R : Nat) (nonce : List (BitVec 8)) (i : Nat) (h : nonce.length = 12) : (refE ws bx R nonce i).length = 16 := length_encQ _ (by simp [length_highL, h]) _ _ _ _
def refStr (ws : List (List (BitVec 8))) (bx : List (BitVec 8)) (R : Nat) (nonce text : List (BitVec 8)) : List (BitVec 8) := strR (refE ws bx R nonce) text ((text.length + 15) / 16)
theorem length_refStr (ws : List (List (BitVec 8))) (bx : List (BitVec 8)) (R : Nat) (nonce text : List (BitVec 8)) : (refStr ws bx R nonce text).length = text.length := by
  rw [refStr, length_strR _ _ _ (by omega)]; omega
def refSeal (ws : List (List (BitVec 8))) (bx : List (BitVec 8)) (R : Nat) (nonce a text : List (BitVec 8)) : List (BitVec 8) := refStr ws bx R nonce text ++ refTag ws bx R nonce a (refStr ws bx R nonce text)
end Go.Proofs.YtpihffpdkfkkhaaDoor
