/- What the program's hashes compute, in plain Lean: by the width of their words. -/
import Derived.Test.YtjhjjhpfjadjpaaDoorVR
namespace Go.Proofs.YtjhjjhpfjadjpaaDoor
set_option linter.all false
open Go
abbrev Tri := Nat × Nat × Nat
def rorW {n : Nat} (x : BitVec n) (k : Nat) : BitVec n := (x >>> k) ||| (x <<< (n - k))
def sum3W {n : Nat} (x : BitVec n) (b : Tri) : BitVec n := rorW x b.1 ^^^ rorW x b.2.1 ^^^ rorW x b.2.2
def shf3W {n : Nat} (x : BitVec n) (b : Tri) : BitVec n := rorW x b.1 ^^^ rorW x b.2.1 ^^^ (x >>> b.2.2)
structure Fam (n : Nat) where
  k : List (BitVec n)
  big0 : Tri
  big1 : Tri
  small0 : Tri
  small1 : Tri
def cutB (b : List (BitVec 8)) (t sz : Nat) : List (BitVec 8) := (b.drop (t * sz)).take ((t + 1) * sz - t * sz)
/-- a word of a block, byte by byte -/
def accW (n : Nat) (l : List (BitVec n)) (q : List (BitVec 8)) (t : Nat) : Nat → List (BitVec n)
  | 0 => l
  | i + 1 => (accW n l q t i).set t (((accW n l q t i).getD t 0#n <<< 8) ||| (q.getD i 0#8).setWidth n)
@[simp] theorem length_accW (n : Nat) (l : List (BitVec n)) (q : List (BitVec 8)) (t i : Nat) : (accW n l q t i).length = l.length := by
  induction i with
  | zero => rfl
  | succ i ih => simp [accW, ih]
def first16 (n : Nat) (b : List (BitVec 8)) (m : Nat) : Nat → List (BitVec n)
  | 0 => List.replicate m 0#n
  | t + 1 => accW n (first16 n b m t) (cutB b t (n / 8)) t (n / 8)
@[simp] theorem length_first16 (n : Nat) (b : List (BitVec 8)) (m t : Nat) : (first16 n b m t).length = m := by
  induction t with
  | zero => simp [first16]
  | succ t ih => rw [first16, length_accW, ih]
def schedW {n : Nat} (F : Fam n) (b : List (BitVec 8)) : Nat → List (BitVec n)
  | 0 => first16 n b F.k.length 16
  | t + 1 => (schedW F b t).set (16 + t) (shf3W ((schedW F b t).getD (16 + t - 2) 0#n) F.small1 + (schedW F b t).getD (16 + t - 7) 0#n + shf3W ((schedW F b t).getD (16 + t - 15) 0#n) F.small0 + (schedW F b t).getD (16 + t - 16) 0#n)
@[simp] theorem length_schedW {n : Nat} (F : Fam n) (b : List (BitVec 8)) (t : Nat) : (schedW F b t).length = F.k.length := by
  induction t with
  | zero => exact length_first16 _ _ _ _
  | succ t ih => simp [schedW, ih]
def t1W {n : Nat} (F : Fam n) (s : List (BitVec n)) (k w : BitVec n) : BitVec n :=
  s.getD 7 0#n + sum3W (s.getD 4 0#n) F.big1 + ((s.getD 4 0#n &&& s.getD 5 0#n) ||| (~~~ (s.getD 4 0#n) &&& s.getD 6 0#n)) + k + w
def t2W {n : Nat} (F : Fam n) (s : List (BitVec n)) : BitVec n :=
  sum3W (s.getD 0 0#n) F.big0 + (((s.getD 0 0#n &&& s.getD 1 0#n) ||| (s.getD 0 0#n &&& s.getD 2 0#n)) ||| (s.getD 1 0#n &&& s.getD 2 0#n))
def shiftS {n : Nat} (s : List (BitVec n)) : List (BitVec n) := over s 1 (((s.drop 0).take 7).take (min 7 7))
def stepW {n : Nat} (F : Fam n) (s : List (BitVec n)) (k w : BitVec n) : List (BitVec n) :=
  ((shiftS s).set 4 ((shiftS s).getD 4 0#n + t1W F s k w)).set 0 (t1W F s k w + t2W F s)
def roundW {n : Nat} (F : Fam n) (W s : List (BitVec n)) : Nat → List (BitVec n)
  | 0 => s
  | t + 1 => stepW F (roundW F W s t) (F.k.getD t 0#n) (W.getD t 0#n)
theorem length_stepW {n : Nat} (F : Fam n) (s : List (BitVec n)) (k w : BitVec n) (h : s.length = 8) : (stepW F s k w).length = 8 := by
  simp [stepW, shiftS, over, h]
theorem length_shiftS {n : Nat} (s : List (BitVec n)) (h : s.length = 8) : (shiftS s).length = 8 := by
  simp [shiftS, over, h]
theorem length_roundW {n : Nat} (F : Fam n) (W s : List (BitVec n)) (t : Nat) (h : s.length = 8) : (roundW F W s t).length = 8 := by
  induction t with
  | zero => exact h
  | succ t ih => exact length_stepW _ _ _ _ ih
def addH {n : Nat} (h s : List (BitVec n)) : Nat → List (BitVec n)
  | 0 => h
  | i + 1 => (addH h s i).set i ((addH h s i).getD i 0#n + s.getD i 0#n)
@[simp] theorem length_addH {n : Nat} (h s : List (BitVec n)) (i : Nat) : (addH h s i).length = h.length := by
  induction i with
  | zero => rfl
  | succ i ih => simp [addH, ih]
/-- a block, fed into a state -/
def blockW {n : Nat} (F : Fam n) (h : List (BitVec n)) (b : List (BitVec 8)) : List (BitVec n) :=
  addH h (roundW F (schedW F b (F.k.length - 16)) h F.k.length) 8
theorem length_blockW {n : Nat} (F : Fam n) (h : List (BitVec n)) (b : List (BitVec 8)) : (blockW F h b).length = h.length := length_addH _ _ _
end Go.Proofs.YtjhjjhpfjadjpaaDoor
