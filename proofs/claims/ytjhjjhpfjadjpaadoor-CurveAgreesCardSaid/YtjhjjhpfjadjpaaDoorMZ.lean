/- Models of package mont, word by word, and what they are as numbers. Models of package mont: the product of Montgomery, as a number. Models of package mont: elements, as numbers modulo a prime. -/
import Derived.Test.YtjhjjhpfjadjpaaDoorVW
import Derived.Test.YtjhjjhpfjadjpaaDoorNC
import Derived.Lib.Mul64
namespace Go.Proofs.YtjhjjhpfjadjpaaDoor
set_option linter.all false
open Go

/-! ### words and numbers -/
/-- the number of some words, the lowest first -/
def nw : List (BitVec 64) → Nat
  | [] => 0
  | x :: r => x.toNat + 18446744073709551616 * nw r
/-- k words of a number -/
def w64 : Nat → Nat → List (BitVec 64)
  | 0, _ => []
  | k + 1, n => BitVec.ofNat 64 n :: w64 k (n / 18446744073709551616)
@[simp] theorem length_w64 : ∀ k n, (w64 k n).length = k
  | 0, _ => rfl
  | k + 1, n => by simp [w64, length_w64 k]
theorem w64_nw : ∀ l : List (BitVec 64), w64 l.length (nw l) = l
  | [] => rfl
  | x :: r => by
    have h1 : (x.toNat + 18446744073709551616 * nw r) / 18446744073709551616 = nw r := by have := x.isLt; omega
    have h2 : BitVec.ofNat 64 (x.toNat + 18446744073709551616 * nw r) = x := by
      apply BitVec.eq_of_toNat_eq; rw [BitVec.toNat_ofNat]; have := x.isLt; omega
    rw [List.length_cons, nw, w64, h1, h2, w64_nw r]
theorem nw_lt : ∀ l : List (BitVec 64), nw l < 18446744073709551616 ^ l.length
  | [] => by decide
  | x :: r => by
    have := nw_lt r; have := x.isLt
    rw [nw, List.length_cons, Nat.pow_succ]; omega
theorem nw_w64 : ∀ k n, nw (w64 k n) = n % 18446744073709551616 ^ k
  | 0, n => by rw [w64, nw, Nat.pow_zero, Nat.mod_one]
  | k + 1, n => by
    have h := Nat.mod_mul (x := n) (a := 18446744073709551616) (b := 18446744073709551616 ^ k)
    rw [← Nat.pow_succ'] at h
    rw [w64, nw, nw_w64 k, h, BitVec.toNat_ofNat]
theorem nw_w64_lt {k n : Nat} (h : n < 18446744073709551616 ^ k) : nw (w64 k n) = n := by rw [nw_w64, Nat.mod_eq_of_lt h]
abbrev R256 : Nat := 115792089237316195423570985008687907853269984665640564039457584007913129639936
theorem nw4 {n : Nat} (h : n < R256) : nw (w64 4 n) = n := nw_w64_lt h
theorem list4 {α : Type} {l : List α} (h : l.length = 4) : ∃ a b c d, l = [a, b, c, d] := by
  match l, h with
  | [a, b, c, d], _ => exact ⟨a, b, c, d, rfl⟩
theorem list6 {α : Type} {l : List α} (h : l.length = 6) : ∃ a b c d e f, l = [a, b, c, d, e, f] := by
  match l, h with
  | [a, b, c, d, e, f], _ => exact ⟨a, b, c, d, e, f, rfl⟩
theorem w64_of {l : List (BitVec 64)} {k n : Nat} (hl : l.length = k) (h : nw l = n) : l = w64 k n := by
  subst hl; subst h; exact (w64_nw l).symm
/-! ### sums, differences -/
theorem adc_law (x y c : BitVec 64) (hc : c.toNat ≤ 1) : (adcS x y c).toNat + 18446744073709551616 * (adcC x y c).toNat = x.toNat + y.toNat + c.toNat := by
  rw [adcS, adcC, BitVec.toNat_add, BitVec.toNat_add, BitVec.toNat_ofNat]
  have := x.isLt; have := y.isLt; omega
theorem sbb_law (x y c : BitVec 64) (hc : c.toNat ≤ 1) : (sbbS x y c).toNat + y.toNat + c.toNat = x.toNat + 18446744073709551616 * (sbbC x y c).toNat := by
  rw [sbbS, sbbC, BitVec.toNat_sub, BitVec.toNat_sub, BitVec.toNat_ofNat]
  have := x.isLt; have := y.isLt
  split <;> omega
def plusC (a b : List (BitVec 64)) : Nat → BitVec 64
  | 0 => 0#64
  | k + 1 => adcC (a.getD k 0#64) (b.getD k 0#64) (plusC a b k)
def plusS (a b : List (BitVec 64)) : Nat → List (BitVec 64)
  | 0 => List.replicate 4 0#64
  | k + 1 => (plusS a b k).set k (adcS (a.getD k 0#64) (b.getD k 0#64) (plusC a b k))
def minC (a b : List (BitVec 64)) : Nat → BitVec 64
  | 0 => 0#64
  | k + 1 => sbbC (a.getD k 0#64) (b.getD k 0#64) (minC a b k)
def minS (a b : List (BitVec 64)) : Nat → List (BitVec 64)
  | 0 => List.replicate 4 0#64
  | k + 1 => (minS a b k).set k (sbbS (a.getD k 0#64) (b.getD k 0#64) (minC a b k))
@[simp] theorem length_plusS (a b : List (BitVec 64)) : ∀ k, (plusS a b k).length = 4
  | 0 => rfl
  | k + 1 => by rw [plusS, List.length_set, length_plusS a b k]
@[simp] theorem length_minS (a b : List (BitVec 64)) : ∀ k, (minS a b k).length = 4
  | 0 => rfl
  | k + 1 => by rw [minS, List.length_set, length_minS a b k]
theorem plusC_le (a b : List (BitVec 64)) : ∀ k, (plusC a b k).toNat ≤ 1
  | 0 => by show (0#64).toNat ≤ 1; decide
  | k + 1 => adcC_le _ _ _ (plusC_le a b k)
theorem minC_le (a b : List (BitVec 64)) : ∀ k, (minC a b k).toNat ≤ 1
  | 0 => by show (0#64).toNat ≤ 1; decide
  | k + 1 => sbbC_le _ _ _
theorem plus_law {a b : List (BitVec 64)} (ha : a.length = 4) (hb : b.length = 4) : nw (plusS a b 4) + R256 * (plusC a b 4).toNat = nw a + nw b := by
  obtain ⟨a0, a1, a2, a3, rfl⟩ := list4 ha
  obtain ⟨b0, b1, b2, b3, rfl⟩ := list4 hb
  have h0 := adc_law a0 b0 0#64 (by decide)
  have k1 := adcC_le a0 b0 0#64 (by decide)
  have h1 := adc_law a1 b1 (adcC a0 b0 0#64) k1
  have k2 := adcC_le a1 b1 _ k1
  have h2 := adc_law a2 b2 _ k2
  have k3 := adcC_le a2 b2 _ k2
  have h3 := adc_law a3 b3 _ k3
  show nw [adcS a0 b0 0#64, adcS a1 b1 (adcC a0 b0 0#64), adcS a2 b2 (adcC a1 b1 (adcC a0 b0 0#64)), adcS a3 b3 (adcC a2 b2 (adcC a1 b1 (adcC a0 b0 0#64)))] + R256 * (adcC a3 b3 (adcC a2 b2 (adcC a1 b1 (adcC a0 b0 0#64)))).toNat = _
  simp only [nw]
  generalize adcC a3 b3 (adcC a2 b2 (adcC a1 b1 (adcC a0 b0 0#64))) = c4 at *
  generalize adcC a2 b2 (adcC a1 b1 (adcC a0 b0 0#64)) = c3 at *
  generalize adcC a1 b1 (adcC a0 b0 0#64) = c2 at *
  generalize adcC a0 b0 0#64 = c1 at *
  have hz : (0#64).toNat = 0 := rfl
  simp only [R256]
  omega
theorem min_law {a b : List (BitVec 64)} (ha : a.length = 4) (hb : b.length = 4) : nw (minS a b 4) + nw b = nw a + R256 * (minC a b 4).toNat := by
  obtain ⟨a0, a1, a2, a3, rfl⟩ := list4 ha
  obtain ⟨b0, b1, b2, b3, rfl⟩ := list4 hb
  have h0 := sbb_law a0 b0 0#64 (by decide)
  have k1 := sbbC_le a0 b0 0#64
  have h1 := sbb_law a1 b1 (sbbC a0 b0 0#64) k1
  have k2 := sbbC_le a1 b1 (sbbC a0 b0 0#64)
  have h2 := sbb_law a2 b2 _ k2
  have k3 := sbbC_le a2 b2 (sbbC a1 b1 (sbbC a0 b0 0#64))
  have h3 := sbb_law a3 b3 _ k3
  show nw [sbbS a0 b0 0#64, sbbS a1 b1 (sbbC a0 b0 0#64), sbbS a2 b2 (sbbC a1 b1 (sbbC a0 b0 0#64)), sbbS a3 b3 (sbbC a2 b2 (sbbC a1 b1 (sbbC a0 b0 0#64)))] + _ = _ + R256 * (sbbC a3 b3 (sbbC a2 b2 (sbbC a1 b1 (sbbC a0 b0 0#64)))).toNat
  simp only [nw]
  generalize sbbC a3 b3 (sbbC a2 b2 (sbbC a1 b1 (sbbC a0 b0 0#64))) = c4 at *
  generalize sbbC a2 b2 (sbbC a1 b1 (sbbC a0 b0 0#64)) = c3 at *
  generalize sbbC a1 b1 (sbbC a0 b0 0#64) = c2 at *
  generalize sbbC a0 b0 0#64 = c1 at *
  have hz : (0#64).toNat = 0 := rfl
  simp only [R256]
  omega
/-- the borrow tells what is less -/
theorem minC_eq {a b : List (BitVec 64)} (ha : a.length = 4) (hb : b.length = 4) : minC a b 4 = if nw a < nw b then 1#64 else 0#64 := by
  have h := min_law ha hb
  have h1 := minC_le a b 4
  have h2 := nw_lt (minS a b 4); rw [length_minS] at h2
  have h3 := nw_lt b; rw [hb] at h3
  simp only [R256] at *
  apply BitVec.eq_of_toNat_eq
  split
  · show _ = 1; omega
  · show _ = 0; omega
theorem plusC_eq {a b : List (BitVec 64)} (ha : a.length = 4) (hb : b.length = 4) : plusC a b 4 = if R256 ≤ nw a + nw b then 1#64 else 0#64 := by
  have h := plus_law ha hb
  have h1 := plusC_le a b 4
  have h2 := nw_lt (plusS a b 4); rw [length_plusS] at h2
  simp only [R256] at *
  apply BitVec.eq_of_toNat_eq
  split
  · show _ = 1; omega
  · show _ = 0; omega
/-! ### products -/
/-- the high word of a product, as math/bits makes it of halves -/
def mulH (x y : BitVec 64) : BitVec 64 :=
  let t := (x >>> 32) * (y &&& 4294967295#64) + ((x &&& 4294967295#64) * (y &&& 4294967295#64)) >>> 32
  (x >>> 32) * (y >>> 32) + t >>> 32 + ((t &&& 4294967295#64) + (x &&& 4294967295#64) * (y >>> 32)) >>> 32
theorem and32 (x : BitVec 64) : (x &&& 4294967295#64).toNat = x.toNat % 4294967296 := by
  rw [BitVec.toNat_and]; exact Nat.and_two_pow_sub_one_eq_mod x.toNat 32
theorem shr32 (x : BitVec 64) : (x >>> 32).toNat = x.toNat / 4294967296 := by
  rw [BitVec.toNat_ushiftRight, Nat.shiftRight_eq_div_pow]
theorem mulH_eq (x y : BitVec 64) : (mulH x y).toNat = x.toNat * y.toNat / 18446744073709551616 := by
  obtain ⟨h1, h2, h3, h4⟩ := Go.Lib.mul64_hi x.toNat y.toNat x.isLt y.isLt
  have hx := x.isLt; have hy := y.isLt
  have b1 : x.toNat % 4294967296 * (y.toNat % 4294967296) ≤ 18446744065119617025 := Go.Lib.half_mul_le (by omega) (by omega)
  have b2 : x.toNat / 4294967296 * (y.toNat % 4294967296) ≤ 18446744065119617025 := Go.Lib.half_mul_le (by omega) (by omega)
  have b3 : x.toNat % 4294967296 * (y.toNat / 4294967296) ≤ 18446744065119617025 := Go.Lib.half_mul_le (by omega) (by omega)
  have b4 : x.toNat / 4294967296 * (y.toNat / 4294967296) ≤ 18446744065119617025 := Go.Lib.half_mul_le (by omega) (by omega)
  simp only [mulH, BitVec.toNat_add, BitVec.toNat_mul, shr32, and32]
  generalize x.toNat % 4294967296 * (y.toNat % 4294967296) = p1 at *
  generalize x.toNat / 4294967296 * (y.toNat % 4294967296) = p2 at *
  generalize x.toNat % 4294967296 * (y.toNat / 4294967296) = p3 at *
  generalize x.toNat / 4294967296 * (y.toNat / 4294967296) = p4 at *
  omega
theorem mul_law (x y : BitVec 64) : (x * y).toNat + 18446744073709551616 * (mulH x y).toNat = x.toNat * y.toNat := by
  rw [BitVec.toNat_mul, mulH_eq]; omega
end Go.Proofs.YtjhjjhpfjadjpaaDoor

namespace Go.Proofs.YtjhjjhpfjadjpaaDoor
set_option linter.all false
open Go
/-- line: words of t, and a carry -/
def ln (t n : List (BitVec 64)) (x : BitVec 64) : Nat → List (BitVec 64) × BitVec 64
  | 0 => (t, 0#64)
  | k + 1 => ((ln t n x k).1.set k (adcS ((ln t n x k).1.getD k 0#64) (adcS (x * n.getD k 0#64) (ln t n x k).2 0#64) 0#64),
      mulH x (n.getD k 0#64) + adcC (x * n.getD k 0#64) (ln t n x k).2 0#64 + adcC ((ln t n x k).1.getD k 0#64) (adcS (x * n.getD k 0#64) (ln t n x k).2 0#64) 0#64)
@[simp] theorem length_ln (t n : List (BitVec 64)) (x : BitVec 64) : ∀ k, (ln t n x k).1.length = t.length
  | 0 => rfl
  | k + 1 => by rw [ln, List.length_set, length_ln t n x k]
theorem ln_step (t x y c : BitVec 64) : (adcS t (adcS (x * y) c 0#64) 0#64).toNat + 18446744073709551616 * (mulH x y + adcC (x * y) c 0#64 + adcC t (adcS (x * y) c 0#64) 0#64).toNat = t.toNat + x.toNat * y.toNat + c.toNat := by
  have h1 := adc_law (x * y) c 0#64 (by decide)
  have h2 := adc_law t (adcS (x * y) c 0#64) 0#64 (by decide)
  have h3 := mul_law x y
  have k1 := adcC_le (x * y) c 0#64 (by decide)
  have k2 := adcC_le t (adcS (x * y) c 0#64) 0#64 (by decide)
  have hz : (0#64).toNat = 0 := rfl
  have b1 := (adcS t (adcS (x * y) c 0#64) 0#64).isLt
  have b2 := (adcS (x * y) c 0#64).isLt
  have b3 := t.isLt; have b4 := c.isLt; have b5 := (x * y).isLt; have b6 := (mulH x y).isLt
  have hm : x.toNat * y.toNat ≤ 18446744073709551615 * 18446744073709551615 := Nat.mul_le_mul (by have := x.isLt; omega) (by have := y.isLt; omega)
  rw [BitVec.toNat_add, BitVec.toNat_add]
  generalize x.toNat * y.toNat = q at *
  omega
theorem mul4 (x a b c d W : Nat) : x * (a + W * (b + W * (c + W * (d + W * 0)))) = x * a + W * (x * b + W * (x * c + W * (x * d))) := by
  simp only [Nat.mul_add, Nat.mul_zero, Nat.mul_left_comm W]
  simp [Nat.mul_left_comm]
/-- line, as numbers -/
theorem ln_law {t n : List (BitVec 64)} (x : BitVec 64) (ht : t.length = 6) (hn : n.length = 4) :
    ∃ s0 s1 s2 s3, (ln t n x 4).1 = [s0, s1, s2, s3, t.getD 4 0#64, t.getD 5 0#64] ∧ nw [s0, s1, s2, s3] + R256 * (ln t n x 4).2.toNat = nw (t.take 4) + x.toNat * nw n := by
  obtain ⟨t0, t1, t2, t3, t4, t5, rfl⟩ := list6 ht
  obtain ⟨n0, n1, n2, n3, rfl⟩ := list4 hn
  refine ⟨_, _, _, _, rfl, ?_⟩
  have e0 := ln_step t0 x n0 0#64
  have e1 := ln_step t1 x n1 (ln [t0, t1, t2, t3, t4, t5] [n0, n1, n2, n3] x 1).2
  have e2 := ln_step t2 x n2 (ln [t0, t1, t2, t3, t4, t5] [n0, n1, n2, n3] x 2).2
  have e3 := ln_step t3 x n3 (ln [t0, t1, t2, t3, t4, t5] [n0, n1, n2, n3] x 3).2
  change _ + 18446744073709551616 * (ln [t0, t1, t2, t3, t4, t5] [n0, n1, n2, n3] x 1).2.toNat = _ at e0
  change _ + 18446744073709551616 * (ln [t0, t1, t2, t3, t4, t5] [n0, n1, n2, n3] x 2).2.toNat = _ at e1
  change _ + 18446744073709551616 * (ln [t0, t1, t2, t3, t4, t5] [n0, n1, n2, n3] x 3).2.toNat = _ at e2
  change _ + 18446744073709551616 * (ln [t0, t1, t2, t3, t4, t5] [n0, n1, n2, n3] x 4).2.toNat = _ at e3
  show nw [adcS t0 (adcS (x * n0) 0#64 0#64) 0#64, adcS t1 (adcS (x * n1) (ln [t0, t1, t2, t3, t4, t5] [n0, n1, n2, n3] x 1).2 0#64) 0#64, adcS t2 (adcS (x * n2) (ln [t0, t1, t2, t3, t4, t5] [n0, n1, n2, n3] x 2).2 0#64) 0#64,
    adcS t3 (adcS (x * n3) (ln [t0, t1, t2, t3, t4, t5] [n0, n1, n2, n3] x 3).2 0#64) 0#64] + _ = nw [t0, t1, t2, t3] + _
  simp only [nw, mul4, R256]
  have hz : (0#64).toNat = 0 := rfl
  generalize (ln [t0, t1, t2, t3, t4, t5] [n0, n1, n2, n3] x 1).2 = c1 at *
  generalize (ln [t0, t1, t2, t3, t4, t5] [n0, n1, n2, n3] x 2).2 = c2 at *
  generalize (ln [t0, t1, t2, t3, t4, t5] [n0, n1, n2, n3] x 3).2 = c3 at *
  generalize (ln [t0, t1, t2, t3, t4, t5] [n0, n1, n2, n3] x 4).2 = c4 at *
  omega
/-- t behind the first line -/
def mulA (t b : List (BitVec 64)) (x : BitVec 64) : List (BitVec 64) :=
  ((ln t b x 4).1.set 4 (adcS (t.getD 4 0#64) (ln t b x 4).2 0#64)).set 5 (adcC (t.getD 4 0#64) (ln t b x 4).2 0#64)
/-- t behind the second -/
def mulB (t mm : List (BitVec 64)) (x : BitVec 64) : List (BitVec 64) :=
  ((ln t mm x 4).1.set 4 (adcS (t.getD 4 0#64) (ln t mm x 4).2 0#64)).set 5 (t.getD 5 0#64 + adcC (t.getD 4 0#64) (ln t mm x 4).2 0#64)
/-- t a word down -/
def mulD (t : List (BitVec 64)) : List (BitVec 64) := (over t 0 ((t.drop 1).take 5)).set 5 0#64
def mulStep (mm : List (BitVec 64)) (neg : BitVec 64) (b t : List (BitVec 64)) (x : BitVec 64) : List (BitVec 64) :=
  mulD (mulB (mulA t b x) mm ((mulA t b x).getD 0 0#64 * neg))
def mulT (mm : List (BitVec 64)) (neg : BitVec 64) (a b : List (BitVec 64)) : Nat → List (BitVec 64)
  | 0 => List.replicate 6 0#64
  | i + 1 => mulStep mm neg b (mulT mm neg a b i) (a.getD i 0#64)
@[simp] theorem length_mulA (t b : List (BitVec 64)) (x : BitVec 64) : (mulA t b x).length = t.length := by simp [mulA]
@[simp] theorem length_mulB (t b : List (BitVec 64)) (x : BitVec 64) : (mulB t b x).length = t.length := by simp [mulB]
theorem length_mulD {t : List (BitVec 64)} (h : t.length = 6) : (mulD t).length = 6 := by
  obtain ⟨t0, t1, t2, t3, t4, t5, rfl⟩ := list6 h; rfl
theorem length_mulT (mm : List (BitVec 64)) (neg : BitVec 64) (a b : List (BitVec 64)) : ∀ i, (mulT mm neg a b i).length = 6
  | 0 => rfl
  | i + 1 => by rw [mulT, mulStep]; exact length_mulD (by rw [length_mulB, length_mulA]; exact length_mulT mm neg a b i)
theorem mulA_law {t b : List (BitVec 64)} (x : BitVec 64) (ht : t.length = 6) (hb : b.length = 4) (h5 : t.getD 5 0#64 = 0#64) : nw (mulA t b x) = nw t + x.toNat * nw b := by
  obtain ⟨s0, s1, s2, s3, e1, e2⟩ := ln_law x ht hb
  have h1 := adc_law (t.getD 4 0#64) (ln t b x 4).2 0#64 (by decide)
  have hz : (0#64).toNat = 0 := rfl
  rw [mulA, e1]
  generalize (ln t b x 4).2 = c at *
  obtain ⟨t0, t1, t2, t3, t4, t5, rfl⟩ := list6 ht
  change t5 = 0#64 at h5
  subst h5
  change (adcS t4 c 0#64).toNat + 18446744073709551616 * (adcC t4 c 0#64).toNat = t4.toNat + _ + _ at h1
  change _ = nw [t0, t1, t2, t3] + _ at e2
  show nw [s0, s1, s2, s3, adcS t4 c 0#64, adcC t4 c 0#64] = _
  generalize x.toNat * nw b = q at *
  simp only [nw, R256] at *
  omega
theorem mulB_law {t mm : List (BitVec 64)} {x : BitVec 64} (ht : t.length = 6) (hm : mm.length = 4) (hlt : nw t + x.toNat * nw mm < R256 * 340282366920938463463374607431768211456) : nw (mulB t mm x) = nw t + x.toNat * nw mm := by
  obtain ⟨s0, s1, s2, s3, e1, e2⟩ := ln_law x ht hm
  have h1 := adc_law (t.getD 4 0#64) (ln t mm x 4).2 0#64 (by decide)
  have hz : (0#64).toNat = 0 := rfl
  rw [mulB, e1]
  generalize (ln t mm x 4).2 = c at *
  obtain ⟨t0, t1, t2, t3, t4, t5, rfl⟩ := list6 ht
  change (adcS t4 c 0#64).toNat + 18446744073709551616 * (adcC t4 c 0#64).toNat = t4.toNat + _ + _ at h1
  change _ = nw [t0, t1, t2, t3] + _ at e2
  show nw [s0, s1, s2, s3, adcS t4 c 0#64, t5 + adcC t4 c 0#64] = _
  generalize x.toNat * nw mm = q at *
  have k1 := adcC_le t4 c 0#64 (by decide)
  have b5 := t5.isLt
  simp only [nw, R256, BitVec.toNat_add] at *
  omega
theorem mulD_law {t : List (BitVec 64)} (ht : t.length = 6) (h0 : nw t % 18446744073709551616 = 0) : nw t = 18446744073709551616 * nw (mulD t) ∧ (mulD t).getD 5 0#64 = 0#64 := by
  obtain ⟨t0, t1, t2, t3, t4, t5, rfl⟩ := list6 ht
  refine ⟨?_, rfl⟩
  show _ = 18446744073709551616 * nw [t1, t2, t3, t4, t5, 0#64]
  have hz : (0#64).toNat = 0 := rfl
  have b0 := t0.isLt
  simp only [nw] at *
  omega
/-- what makes a modulus good: odd, with its words' opposite -/
theorem low_zero {n W a c q : Nat} (h : n % W = a % W) (hq : q % W = 0) (hc : c % W = 0) (e : n + a * c = n + a * c) : True := trivial
theorem getD0 {t : List (BitVec 64)} (h : t ≠ []) : (t.getD 0 0#64).toNat = nw t % 18446744073709551616 := by
  cases t with
  | nil => exact absurd rfl h
  | cons a r => simp only [nw, List.getD_cons_zero]; have := a.isLt; omega
theorem line2_zero {T M neg : Nat} (hneg : (neg * M + 1) % 18446744073709551616 = 0) : (T + (T % 18446744073709551616 * neg % 18446744073709551616) * M) % 18446744073709551616 = 0 := by
  have e1 : (T + (T % 18446744073709551616 * neg % 18446744073709551616) * M) % 18446744073709551616 = (T + T * neg * M) % 18446744073709551616 := by
    rw [Nat.add_mod, Nat.mod_mul_mod, ← Nat.add_mod]
    rw [Nat.add_mod, Nat.mul_assoc, Nat.mod_mul_mod, ← Nat.add_mod, Nat.mul_assoc]
  have e2 : T + T * neg * M = T * (neg * M + 1) := by rw [Nat.mul_add, Nat.mul_one, Nat.mul_assoc, Nat.add_comm]
  rw [e1, e2, Nat.mul_mod, hneg, Nat.mul_zero, Nat.zero_mod]
theorem mulStep_law {mm b t : List (BitVec 64)} {neg x : BitVec 64} (hm : mm.length = 4) (hb : b.length = 4) (ht : t.length = 6) (h5 : t.getD 5 0#64 = 0#64) (hlt : nw t < nw b + nw mm)
    (hneg : (neg.toNat * nw mm + 1) % 18446744073709551616 = 0) :
    ∃ q, q < 18446744073709551616 ∧ 18446744073709551616 * nw (mulStep mm neg b t x) = nw t + x.toNat * nw b + q * nw mm ∧ (mulStep mm neg b t x).getD 5 0#64 = 0#64 ∧ nw (mulStep mm neg b t x) < nw b + nw mm := by
  have hA := mulA_law x ht hb h5
  have lA : (mulA t b x).length = 6 := by rw [length_mulA]; exact ht
  have hq : ((mulA t b x).getD 0 0#64 * neg).toNat = nw (mulA t b x) % 18446744073709551616 * neg.toNat % 18446744073709551616 := by
    rw [BitVec.toNat_mul, getD0 (by intro e; rw [e] at lA; cases lA)]
  have bb := nw_lt b; rw [hb] at bb
  have bm := nw_lt mm; rw [hm] at bm
  have bx : x.toNat * nw b ≤ 18446744073709551615 * nw b := Nat.mul_le_mul_right _ (by have := x.isLt; omega)
  have bq : ((mulA t b x).getD 0 0#64 * neg).toNat * nw mm ≤ 18446744073709551615 * nw mm := Nat.mul_le_mul_right _ (by have := ((mulA t b x).getD 0 0#64 * neg).isLt; omega)
  have hB := mulB_law (x := (mulA t b x).getD 0 0#64 * neg) lA hm (by simp only [R256]; omega)
  have lB : (mulB (mulA t b x) mm ((mulA t b x).getD 0 0#64 * neg)).length = 6 := by rw [length_mulB]; exact lA
  have h0 : nw (mulB (mulA t b x) mm ((mulA t b x).getD 0 0#64 * neg)) % 18446744073709551616 = 0 := by rw [hB, hq]; exact line2_zero hneg
  obtain ⟨d1, d2⟩ := mulD_law lB h0
  refine ⟨((mulA t b x).getD 0 0#64 * neg).toNat, BitVec.isLt _, ?_, d2, ?_⟩
  · rw [mulStep, ← d1, hB, hA]
  · rw [mulStep]; omega
theorem mulT_law {mm a b : List (BitVec 64)} {neg : BitVec 64} (hm : mm.length = 4) (ha : a.length = 4) (hb : b.length = 4) (h0 : 0 < nw mm) (hneg : (neg.toNat * nw mm + 1) % 18446744073709551616 = 0) :
    ∃ Q, R256 * nw (mulT mm neg a b 4) = nw a * nw b + Q * nw mm ∧ nw (mulT mm neg a b 4) < nw b + nw mm ∧ (mulT mm neg a b 4).getD 5 0#64 = 0#64 := by
  have z0 : nw (mulT mm neg a b 0) = 0 := rfl
  obtain ⟨q0, b0, e0, f0, g0⟩ := mulStep_law (x := a.getD 0 0#64) hm hb (length_mulT mm neg a b 0) rfl (by rw [z0]; omega) hneg
  obtain ⟨q1, b1, e1, f1, g1⟩ := mulStep_law (x := a.getD 1 0#64) hm hb (length_mulT mm neg a b 1) f0 g0 hneg
  obtain ⟨q2, b2, e2, f2, g2⟩ := mulStep_law (x := a.getD 2 0#64) hm hb (length_mulT mm neg a b 2) f1 g1 hneg
  obtain ⟨q3, b3, e3, f3, g3⟩ := mulStep_law (x := a.getD 3 0#64) hm hb (length_mulT mm neg a b 3) f2 g2 hneg
  change _ = nw (mulT mm neg a b 1) + _ + _ at e1
  change _ = nw (mulT mm neg a b 2) + _ + _ at e2
  change _ = nw (mulT mm neg a b 3) + _ + _ at e3
  change _ * nw (mulT mm neg a b 4) = _ at e3
  change _ * nw (mulT mm neg a b 3) = _ at e2
  change _ * nw (mulT mm neg a b 2) = _ at e1
  change _ * nw (mulT mm neg a b 1) = _ at e0
  refine ⟨q0 + 18446744073709551616 * (q1 + 18446744073709551616 * (q2 + 18446744073709551616 * (q3 + 18446744073709551616 * 0))), ?_, g3, f3⟩
  obtain ⟨a0, a1, a2, a3, rfl⟩ := list4 ha
  simp only [List.getD_cons_zero, List.getD_cons_succ] at e0 e1 e2 e3
  rw [z0] at e0
  simp only [nw, R256]
  rw [Nat.mul_comm (_ + _) (nw b), Nat.mul_comm (_ + _) (nw mm), mul4, mul4]
  rw [Nat.mul_comm _ (nw b), Nat.mul_comm _ (nw mm)] at e0 e1 e2 e3
  generalize nw b * a0.toNat = p0 at *
  generalize nw b * a1.toNat = p1 at *
  generalize nw b * a2.toNat = p2 at *
  generalize nw b * a3.toNat = p3 at *
  generalize nw mm * q0 = r0 at *
  generalize nw mm * q1 = r1 at *
  generalize nw mm * q2 = r2 at *
  generalize nw mm * q3 = r3 at *
  omega
/-- THE PRODUCT of package mont -/
def mulW (mm : List (BitVec 64)) (neg : BitVec 64) (a b : List (BitVec 64)) : List (BitVec 64) :=
  if (mulT mm neg a b 4).getD 4 0#64 = 0#64 ∧ minC ((mulT mm neg a b 4).take 4) mm 4 = 1#64 then (mulT mm neg a b 4).take 4 else minS ((mulT mm neg a b 4).take 4) mm 4
theorem length_mulW (mm : List (BitVec 64)) (neg : BitVec 64) (a b : List (BitVec 64)) : (mulW mm neg a b).length = 4 := by
  rw [mulW]; split
  · rw [List.length_take, length_mulT]; rfl
  · exact length_minS _ _ _
theorem mulW_law {mm a b : List (BitVec 64)} {neg : BitVec 64} (hm : mm.length = 4) (ha : a.length = 4) (hb : b.length = 4) (hlt : nw b < nw mm) (hneg : (neg.toNat * nw mm + 1) % 18446744073709551616 = 0) :
    nw (mulW mm neg a b) < nw mm ∧ R256 * nw (mulW mm neg a b) % nw mm = nw a * nw b % nw mm := by
  obtain ⟨Q, e, l, f⟩ := mulT_law (a := a) hm ha hb (by omega) hneg
  have hl4 : ((mulT mm neg a b 4).take 4).length = 4 := by rw [List.length_take, length_mulT]; rfl
  have hc := minC_eq hl4 hm
  have hs := min_law hl4 hm
  have bm := nw_lt mm; rw [hm] at bm
  have bs := nw_lt ((mulT mm neg a b 4).take 4); rw [hl4] at bs
  have bd := nw_lt (minS ((mulT mm neg a b 4).take 4) mm 4); rw [length_minS] at bd
  have hsum : nw (mulT mm neg a b 4) = nw ((mulT mm neg a b 4).take 4) + R256 * ((mulT mm neg a b 4).getD 4 0#64).toNat := by
    obtain ⟨t0, t1, t2, t3, t4, t5, ht⟩ := list6 (length_mulT mm neg a b 4)
    rw [ht] at f ⊢
    change t5 = 0#64 at f
    subst f
    show nw [t0, t1, t2, t3, t4, 0#64] = nw [t0, t1, t2, t3] + R256 * t4.toNat
    have hz : (0#64).toNat = 0 := rfl
    simp only [nw, R256]; omega
  have key : (nw (mulT mm neg a b 4) < nw mm ∧ nw (mulW mm neg a b) = nw (mulT mm neg a b 4)) ∨ (nw mm ≤ nw (mulT mm neg a b 4) ∧ nw (mulW mm neg a b) + nw mm = nw (mulT mm neg a b 4)) := by
    rw [mulW]
    by_cases h4 : (mulT mm neg a b 4).getD 4 0#64 = 0#64
    · rw [h4] at hsum
      by_cases hlt2 : nw ((mulT mm neg a b 4).take 4) < nw mm
      · rw [if_pos hlt2] at hc
        rw [if_pos ⟨h4, hc⟩]
        left; have hz : (0#64).toNat = 0 := rfl
        rw [hz] at hsum
        omega
      · rw [if_neg hlt2] at hc
        rw [if_neg (fun h => by rw [hc] at h; exact absurd h.2 (by decide))]
        right; have hz : (0#64).toNat = 0 := rfl
        rw [hc, hz] at hs
        rw [hz] at hsum
        omega
    · rw [if_neg (fun h => h4 h.1)]
      have h4' : ((mulT mm neg a b 4).getD 4 0#64).toNat ≠ 0 := fun h => h4 (BitVec.eq_of_toNat_eq h)
      right
      have hcl := minC_le ((mulT mm neg a b 4).take 4) mm 4
      simp only [R256] at *
      omega
  have hA : nw (mulT mm neg a b 4) % nw mm = nw (mulW mm neg a b) % nw mm := by
    rcases key with ⟨_, h⟩ | ⟨_, h⟩
    · rw [h]
    · rw [← h, Nat.add_mod_right]
  refine ⟨by omega, ?_⟩
  rw [Nat.mul_mod, ← hA, ← Nat.mul_mod, e, Nat.add_mul_mod_self_right]
end Go.Proofs.YtjhjjhpfjadjpaaDoor

namespace Go.Proofs.YtjhjjhpfjadjpaaDoor
set_option linter.all false
open Go
/-- the opposite of a word, as package mont keeps it -/
def negM (m : Nat) : BitVec 64 := if m = pP then 9708812670373448219#64 else 15183074304973897243#64
structure Good (m : Nat) : Prop where
  lt : m < 57896044618658097711785492504343953926634992332820282019728792003956564819968
  ge : 26959946667150639794667015087019630673637144422540572481103610249216 ≤ m
  neg : ((negM m).toNat * m + 1) % 18446744073709551616 = 0
  inv : ∃ r, R256 * r % m = 1
theorem goodP : Good pP := ⟨by decide +kernel, by decide +kernel, by decide +kernel, ⟨R256 ^ (pP - 2) % pP, by
  rw [Nat.mul_mod_mod, ← Nat.pow_succ', show (pP - 2).succ = pP - 1 by decide +kernel]
  exact genP.fermat (by decide +kernel)⟩⟩
theorem goodL : Good pL := ⟨by decide +kernel, by decide +kernel, by decide +kernel, ⟨R256 ^ (pL - 2) % pL, by
  rw [Nat.mul_mod_mod, ← Nat.pow_succ', show (pL - 2).succ = pL - 1 by decide +kernel]
  exact genL.fermat (by decide +kernel)⟩⟩
/-- the thirteen words of a modulus -/
def modW (m : Nat) : List (BitVec 64) := w64 4 m ++ (negM m :: (w64 4 (R256 % m) ++ w64 4 (R256 * R256 % m)))
@[simp] theorem length_modW (m : Nat) : (modW m).length = 13 := by simp [modW]
theorem modW_m (m : Nat) : ((modW m).drop 0).take 4 = w64 4 m := rfl
theorem modW_one (m : Nat) : ((modW m).drop 5).take 4 = w64 4 (R256 % m) := rfl
theorem modW_sq (m : Nat) : ((modW m).drop 9).take 4 = w64 4 (R256 * R256 % m) := rfl
theorem modW_neg (m : Nat) : (modW m).getD 4 0#64 = negM m := rfl
section
variable {m : Nat} [NeZero m]
/-- an element -/
def El (x : Fin m) : List (BitVec 64) := w64 4 (R256 * x.val % m)
@[simp] theorem length_El (x : Fin m) : (El x).length = 4 := length_w64 4 _
theorem Good.pos (h : Good m) : 0 < m := by have := h.ge; omega
theorem Good.r256 (h : Good m) : m < R256 := by have := h.lt; simp only [R256]; omega
theorem mod_lt' (h : Good m) (n : Nat) : n % m < R256 := Nat.lt_trans (Nat.mod_lt _ h.pos) h.r256
theorem nw_El (h : Good m) (x : Fin m) : nw (El x) = R256 * x.val % m := nw4 (mod_lt' h _)
theorem nw_El_lt (h : Good m) (x : Fin m) : nw (El x) < m := by rw [nw_El h]; exact Nat.mod_lt _ h.pos
theorem cancel (h : Good m) {X Y : Nat} (hX : X < m) (hY : Y < m) (e : R256 * X % m = R256 * Y % m) : X = Y := by
  obtain ⟨r, hr⟩ := h.inv
  have k : ∀ Z, Z < m → (r * (R256 * Z % m)) % m = Z := fun Z hZ => by
    rw [Nat.mul_mod_mod, ← Nat.mul_assoc, Nat.mul_comm r, ← Nat.mod_mul_mod, hr, Nat.one_mul, Nat.mod_eq_of_lt hZ]
  rw [← k X hX, ← k Y hY, e]
theorem El_of (h : Good m) {l : List (BitVec 64)} (hl : l.length = 4) {x : Fin m} (hlt : nw l < m) (e : R256 * nw l % m = R256 * (R256 * x.val) % m) : l = El x := by
  refine w64_of hl (cancel h hlt (Nat.mod_lt _ h.pos) ?_)
  rw [e, Nat.mul_mod_mod]
theorem nw_m (h : Good m) : nw (w64 4 m) = m := nw4 h.r256
theorem mulW_w (h : Good m) {a b : List (BitVec 64)} (ha : a.length = 4) (hb : b.length = 4) (hlt : nw b < m) : nw (mulW (w64 4 m) (negM m) a b) < m ∧ R256 * nw (mulW (w64 4 m) (negM m) a b) % m = nw a * nw b % m := by
  have := mulW_law (mm := w64 4 m) (neg := negM m) (length_w64 4 m) ha hb (by rw [nw_m h]; exact hlt) (by rw [nw_m h]; exact h.neg)
  rwa [nw_m h] at this
theorem mulW_El (h : Good m) (x y : Fin m) : mulW (w64 4 m) (negM m) (El x) (El y) = El (x * y) := by
  obtain ⟨h1, h2⟩ := mulW_w h (length_El x) (length_El y) (nw_El_lt h y)
  refine El_of h (length_mulW _ _ _ _) h1 ?_
  rw [h2, nw_El h, nw_El h, ← Nat.mul_mod, Fin.val_mul, ← Nat.mul_assoc R256 R256, Nat.mul_mod_mod, Nat.mul_mul_mul_comm]
theorem mulW_to (h : Good m) {n : Nat} (hn : n < m) : mulW (w64 4 m) (negM m) (w64 4 n) (w64 4 (R256 * R256 % m)) = El (Fin.ofNat m n) := by
  have e1 : nw (w64 4 n) = n := nw4 (Nat.lt_trans hn h.r256)
  have e2 : nw (w64 4 (R256 * R256 % m)) = R256 * R256 % m := nw4 (mod_lt' h _)
  obtain ⟨h1, h2⟩ := mulW_w h (length_w64 4 n) (length_w64 4 (R256 * R256 % m)) (by rw [e2]; exact Nat.mod_lt _ h.pos)
  refine El_of h (length_mulW _ _ _ _) h1 ?_
  rw [h2, e1, e2, Nat.mul_mod_mod]
  show _ = R256 * (R256 * (n % m)) % m
  rw [Nat.mod_eq_of_lt hn, ← Nat.mul_assoc, Nat.mul_comm, Nat.mul_comm n]
theorem mulW_from (h : Good m) (x : Fin m) : mulW (w64 4 m) (negM m) (El x) (w64 4 1) = w64 4 x.val := by
  have e2 : nw (w64 4 1) = 1 := by decide
  obtain ⟨h1, h2⟩ := mulW_w h (length_El x) (length_w64 4 1) (by rw [e2]; have := h.ge; omega)
  refine w64_of (length_mulW _ _ _ _) (cancel h h1 x.isLt ?_)
  rw [h2, nw_El h, e2, Nat.mul_one, Nat.mod_mod]
theorem El_one (h : Good m) : w64 4 (R256 % m) = El (1 : Fin m) := by
  rw [El, val1, Nat.mul_mod_mod, Nat.mul_one]
theorem El_zero : El (0 : Fin m) = w64 4 0 := by rw [El, val0, Nat.mul_zero, Nat.zero_mod]
theorem El_inj (h : Good m) {x y : Fin m} : El x = El y ↔ x = y := by
  refine ⟨fun e => ?_, fun e => by rw [e]⟩
  have e := congrArg nw e
  rw [nw_El h, nw_El h] at e
  exact Fin.ext (cancel h x.isLt y.isLt e)
/-- sums of elements -/
def addW (mm a b : List (BitVec 64)) : List (BitVec 64) := if plusC a b 4 = 0#64 ∧ minC (plusS a b 4) mm 4 = 1#64 then plusS a b 4 else minS (plusS a b 4) mm 4
def subW (mm a b : List (BitVec 64)) : List (BitVec 64) := if minC a b 4 = 1#64 then plusS (minS a b 4) mm 4 else minS a b 4
theorem addW_law (h : Good m) {a b : List (BitVec 64)} (ha : a.length = 4) (hb : b.length = 4) (la : nw a < m) (lb : nw b < m) : addW (w64 4 m) a b = w64 4 ((nw a + nw b) % m) := by
  have hm := nw_m h; have h2 := h.lt
  have c1 := plusC_eq ha hb
  have s1 := plus_law ha hb
  have c2 := minC_eq (length_plusS a b 4) (length_w64 4 m)
  have s2 := min_law (length_plusS a b 4) (length_w64 4 m)
  rw [if_neg (by simp only [R256]; omega)] at c1
  have hz : (0#64).toNat = 0 := rfl
  rw [c1, hz] at s1
  rw [hm] at c2 s2
  rw [addW]
  by_cases hlt : nw (plusS a b 4) < m
  · rw [if_pos hlt] at c2
    rw [if_pos ⟨c1, c2⟩]
    exact w64_of (length_plusS _ _ _) (by rw [Nat.mod_eq_of_lt (by omega)]; omega)
  · rw [if_neg hlt] at c2
    rw [if_neg (fun e => by rw [c2] at e; exact absurd e.2 (by decide))]
    rw [c2, hz] at s2
    refine w64_of (length_minS _ _ _) ?_
    rw [Nat.mod_eq_sub_mod (by omega), Nat.mod_eq_of_lt (by omega)]; omega
theorem subW_law (h : Good m) {a b : List (BitVec 64)} (ha : a.length = 4) (hb : b.length = 4) (la : nw a < m) (lb : nw b < m) : subW (w64 4 m) a b = w64 4 ((m - nw b + nw a) % m) := by
  have hm := nw_m h; have h2 := h.lt
  have c1 := minC_eq ha hb
  have s1 := min_law ha hb
  have c2 := plusC_eq (length_minS a b 4) (length_w64 4 m)
  have s2 := plus_law (length_minS a b 4) (length_w64 4 m)
  have bd := nw_lt (minS a b 4); rw [length_minS] at bd
  have bs := nw_lt (plusS (minS a b 4) (w64 4 m) 4); rw [length_plusS] at bs
  have kc := plusC_le (minS a b 4) (w64 4 m) 4
  rw [hm] at s2
  have hz : (0#64).toNat = 0 := rfl
  have ho : (1#64).toNat = 1 := rfl
  rw [subW]
  by_cases hlt : nw a < nw b
  · rw [if_pos hlt] at c1
    rw [if_pos c1]
    rw [c1, ho] at s1
    refine w64_of (length_plusS _ _ _) ?_
    rw [Nat.mod_eq_of_lt (by omega)]
    simp only [R256] at *
    omega
  · rw [if_neg hlt] at c1
    rw [if_neg (fun e => by rw [c1] at e; exact absurd e (by decide))]
    rw [c1, hz] at s1
    refine w64_of (length_minS _ _ _) ?_
    rw [show m - nw b + nw a = (nw a - nw b) + m by omega, Nat.add_mod_right, Nat.mod_eq_of_lt (by omega)]
    omega
theorem addW_El (h : Good m) (x y : Fin m) : addW (w64 4 m) (El x) (El y) = El (x + y) := by
  rw [addW_law h (length_El x) (length_El y) (nw_El_lt h x) (nw_El_lt h y), nw_El h, nw_El h, El, Fin.val_add, Nat.mul_mod_mod, Nat.mul_add, ← Nat.add_mod]
theorem subW_El (h : Good m) (x y : Fin m) : subW (w64 4 m) (El x) (El y) = El (x - y) := by
  rw [subW_law h (length_El x) (length_El y) (nw_El_lt h x) (nw_El_lt h y), nw_El h, nw_El h, El, Fin.val_sub, Nat.mul_mod_mod, Nat.mul_add, Nat.mul_sub]
  congr 1
  have hy := y.isLt
  have e1 : R256 * y.val ≤ R256 * m := Nat.mul_le_mul_left _ (Nat.le_of_lt hy)
  rw [Nat.add_mod_mod]
  have e4 : R256 * y.val < R256 * m := Nat.mul_lt_mul_of_pos_left hy (by decide)
  have key : (m - R256 * y.val % m + R256 * x.val) % m = (R256 * m - R256 * y.val + R256 * x.val) % m := by
    have d1 := Nat.div_add_mod (R256 * y.val) m
    have d2 := Nat.mod_lt (R256 * y.val) h.pos
    generalize R256 * x.val = X at *
    generalize R256 * y.val = Y at *
    generalize hq : Y / m = q at *
    generalize hr : Y % m = r at *
    have hq2 : q < R256 := by
      rw [← hq]
      apply Nat.div_lt_of_lt_mul
      rw [Nat.mul_comm]
      omega
    obtain ⟨k, hk⟩ : ∃ k, R256 = q + 1 + k := ⟨R256 - (q + 1), by omega⟩
    have e3 : R256 * m - Y + X = m - r + X + m * k := by
      rw [hk, Nat.add_mul, Nat.add_mul, Nat.one_mul, ← d1, Nat.mul_comm q m, Nat.mul_comm k m]
      omega
    rw [e3, Nat.add_mul_mod_self_left]
  exact key
end
end Go.Proofs.YtjhjjhpfjadjpaaDoor
