/- The reference's hashes: what its functions compute, in plain Lean. -/
import Derived.Test.YtjhjjhpfjadjpaaDoorMK
namespace Go.Proofs.YtjhjjhpfjadjpaaDoor
set_option linter.all false
open Go
def numV (v : BitVec 64) : Nat → BitVec 64
  | 0 => v
  | i + 1 => numV v i >>> 8
/-- a number in n bytes, the highest first -/
def numW (v : BitVec 64) : Nat → List (BitVec 8)
  | 0 => []
  | i + 1 => [(numV v i).setWidth 8] ++ numW v i
@[simp] theorem length_numW (v : BitVec 64) (n : Nat) : (numW v n).length = n := by
  induction n with
  | zero => rfl
  | succ n ih => simp [numW, ih]
def padW (s : List (BitVec 8)) (b n : Nat) : List (BitVec 8) := (s ++ zpad (zcount s.length n b)) ++ numW (BitVec.ofNat 64 s.length * 8#64) n
def trR : Nat → BitVec 64 → Nat → BitVec 64
  | 32, x, n => (rorW (x.setWidth 32) n).setWidth 64
  | _, x, n => rorW x n
def sumR (W : Nat) (x : BitVec 64) (b : Tri) : BitVec 64 := trR W x b.1 ^^^ trR W x b.2.1 ^^^ trR W x b.2.2
def shfR (W : Nat) (x : BitVec 64) (b : Tri) : BitVec 64 := trR W x b.1 ^^^ trR W x b.2.1 ^^^ (x >>> b.2.2)
/-- what goes with the words of a width: the mask, the shift of the constants, how many bytes, the turns -/
def maskR : Nat → BitVec 64 | 32 => 4294967295#64 | _ => 18446744073709551615#64
def upR : Nat → Nat | 32 => 32 | _ => 0
def nbR : Nat → Nat | 32 => 4 | _ => 8
@[simp] theorem nbR32 : nbR 32 = 4 := rfl
@[simp] theorem nbR64 : nbR 64 = 8 := rfl
def b0R : Nat → Tri | 32 => (2, 13, 22) | _ => (28, 34, 39)
def b1R : Nat → Tri | 32 => (6, 11, 25) | _ => (14, 18, 41)
def b2R : Nat → Tri | 32 => (7, 18, 3) | _ => (1, 8, 7)
def b3R : Nat → Tri | 32 => (17, 19, 10) | _ => (19, 61, 6)
section
variable (W : Nat) (K H : List (BitVec 64)) (p : List (BitVec 8))
def initR : Nat → List (BitVec 64)
  | 0 => List.replicate 8 0#64
  | i + 1 => (initR i).set i (H.getD i 0#64 >>> upR W)
@[simp] theorem length_initR (i : Nat) : (initR W H i).length = 8 := by
  induction i with
  | zero => rfl
  | succ i ih => simp [initR, ih]
def accR (l : List (BitVec 64)) (base t : Nat) : Nat → List (BitVec 64)
  | 0 => l
  | i + 1 => (accR l base t i).set t ((accR l base t i).getD t 0#64 <<< 8 ||| (p.getD (base + t * nbR W + i) 0#8).setWidth 64)
@[simp] theorem length_accR (l : List (BitVec 64)) (base t i : Nat) : (accR W p l base t i).length = l.length := by
  induction i with
  | zero => rfl
  | succ i ih => simp [accR, ih]
def f16R (base : Nat) : Nat → List (BitVec 64)
  | 0 => List.replicate K.length 0#64
  | t + 1 => accR W p (f16R base t) base t (nbR W)
@[simp] theorem length_f16R (base t : Nat) : (f16R W K p base t).length = K.length := by
  induction t with
  | zero => simp [f16R]
  | succ t ih => rw [f16R, length_accR, ih]
def schR (base : Nat) : Nat → List (BitVec 64)
  | 0 => f16R W K p base 16
  | t + 1 => (schR base t).set (16 + t) ((shfR W ((schR base t).getD (16 + t - 2) 0#64) (b3R W) + (schR base t).getD (16 + t - 7) 0#64 + shfR W ((schR base t).getD (16 + t - 15) 0#64) (b2R W) + (schR base t).getD (16 + t - 16) 0#64) &&& maskR W)
@[simp] theorem length_schR (base t : Nat) : (schR W K p base t).length = K.length := by
  induction t with
  | zero => exact length_f16R _ _ _ _ _
  | succ t ih => simp [schR, ih]
def t1R (x : List (BitVec 64)) (k w : BitVec 64) : BitVec 64 :=
  x.getD 7 0#64 + sumR W (x.getD 4 0#64) (b1R W) + (x.getD 4 0#64 &&& x.getD 5 0#64 ^^^ (maskR W ^^^ x.getD 4 0#64) &&& x.getD 6 0#64) + k >>> upR W + w
def t2R (x : List (BitVec 64)) : BitVec 64 :=
  sumR W (x.getD 0 0#64) (b0R W) + (x.getD 0 0#64 &&& x.getD 1 0#64 ^^^ x.getD 0 0#64 &&& x.getD 2 0#64 ^^^ x.getD 1 0#64 &&& x.getD 2 0#64)
def stpR (x : List (BitVec 64)) (k w : BitVec 64) : List (BitVec 64) :=
  [(t1R W x k w + t2R W x) &&& maskR W, x.getD 0 0#64, x.getD 1 0#64, x.getD 2 0#64, (x.getD 3 0#64 + t1R W x k w) &&& maskR W, x.getD 4 0#64, x.getD 5 0#64, x.getD 6 0#64]
def rndR (w st : List (BitVec 64)) : Nat → List (BitVec 64)
  | 0 => st
  | t + 1 => stpR W (rndR w st t) (K.getD t 0#64) (w.getD t 0#64)
@[simp] theorem length_rndR (w st : List (BitVec 64)) (t : Nat) (h : st.length = 8) : (rndR W K w st t).length = 8 := by
  cases t with
  | zero => exact h
  | succ t => rfl
def addR (x st : List (BitVec 64)) : Nat → List (BitVec 64)
  | 0 => st
  | i + 1 => (addR x st i).set i (((addR x st i).getD i 0#64 + x.getD i 0#64) &&& maskR W)
@[simp] theorem length_addR (x st : List (BitVec 64)) (i : Nat) : (addR W x st i).length = st.length := by
  induction i with
  | zero => rfl
  | succ i ih => simp [addR, ih]
def blkR (st : List (BitVec 64)) (base : Nat) : List (BitVec 64) := addR W (rndR W K (schR W K p base (K.length - 16)) st K.length) st 8
def feedR : Nat → List (BitVec 64)
  | 0 => initR W H 8
  | i + 1 => blkR W K p (feedR i) (16 * nbR W * i)
@[simp] theorem length_feedR (i : Nat) : (feedR W K H p i).length = 8 := by
  induction i with
  | zero => exact length_initR _ _ _
  | succ i ih => rw [feedR, blkR, length_addR, ih]
def outR (st : List (BitVec 64)) : Nat → List (BitVec 8)
  | 0 => []
  | i + 1 => outR st i ++ numW (st.getD i 0#64) (nbR W)
@[simp] theorem length_outR (st : List (BitVec 64)) (i : Nat) : (outR W st i).length = i * nbR W := by
  induction i with
  | zero => simp [outR]
  | succ i ih => rw [outR, List.length_append, ih, length_numW, Nat.succ_mul]
end
/-- the reference's hash, with these constants -/
def withR (W : Nat) (n : Nat) (K H : List (BitVec 64)) (p : List (BitVec 8)) : List (BitVec 8) := (outR W (feedR W K H p (p.length / (16 * nbR W))) 8).take n
theorem length_padW (s : List (BitVec 8)) (b n : Nat) : (padW s b n).length = s.length + 1 + zcount s.length n b + n := by
  simp [padW, length_zpad, length_numW]; omega
theorem padW64 (s : List (BitVec 8)) : (padW s 64 8).length % 64 = 0 := by
  rw [length_padW, zcount]; omega
theorem padW128 (s : List (BitVec 8)) : (padW s 128 16).length % 128 = 0 := by
  rw [length_padW, zcount]; omega
end Go.Proofs.YtjhjjhpfjadjpaaDoor
