/- Numbers in words of 32 bits: what the reference's field reckons with. Numbers in words of 32 bits: products, divisions, halves. Numbers in words of 32 bits: what is left by a division, bit by bit; bytes. The reference's inverse: what its rounds keep. The reference's product: its rounds, and that they are the ladder's. -/
import Derived.Test.YtjhjjhpfjadjpaaDoorMV
namespace Go.Proofs.YtjhjjhpfjadjpaaDoor
set_option linter.all false
open Go
abbrev W32 : Nat := 4294967296
/-- k words of a number, the lowest first -/
def n32 : Nat → Nat → List (BitVec 32)
  | 0, _ => []
  | k + 1, n => BitVec.ofNat 32 n :: n32 k (n / W32)
@[simp] theorem length_n32 : ∀ k n, (n32 k n).length = k
  | 0, _ => rfl
  | k + 1, n => by simp [n32, length_n32 k]
theorem getD_n32' : ∀ (k n i : Nat), i < k → (n32 k n).getD i 0#32 = BitVec.ofNat 32 (n / W32 ^ i)
  | 0, _, _, h => by omega
  | k + 1, n, 0, _ => by simp [n32]
  | k + 1, n, i + 1, h => by
    rw [n32, List.getD_cons_succ, getD_n32' k _ i (by omega), Nat.div_div_eq_div_mul, ← Nat.pow_succ']
theorem getD_n32 {k n : Nat} (hn : n < W32 ^ k) (i : Nat) : (n32 k n).getD i 0#32 = BitVec.ofNat 32 (n / W32 ^ i) := by
  by_cases h : i < k
  · exact getD_n32' k n i h
  · rw [Nat.div_eq_of_lt (Nat.lt_of_lt_of_le hn (Nat.pow_le_pow_right (by decide) (by omega)))]
    simp [List.getD, h]
theorem toNat_n32 {k n : Nat} (i : Nat) (h : i < k) : ((n32 k n).getD i 0#32).toNat = n / W32 ^ i % W32 := by
  rw [getD_n32' k n i h, BitVec.toNat_ofNat]
theorem n32_ext {l : List (BitVec 32)} {k n : Nat} (hl : l.length = k) (h : ∀ i, i < k → (l.getD i 0#32).toNat = n / W32 ^ i % W32) : l = n32 k n := by
  refine ext_getD (by rw [hl, length_n32]) fun i hi => ?_
  apply BitVec.eq_of_toNat_eq
  rw [toNat_n32 i (by omega)]
  exact h i (by omega)
theorem n32_mod (k n : Nat) : n32 k (n % W32 ^ k) = n32 k n := by
  refine n32_ext (length_n32 _ _) fun i hi => ?_
  rw [toNat_n32 i hi]
  obtain ⟨r, rfl⟩ : ∃ r, k = i + 1 + r := ⟨k - (i + 1), by omega⟩
  rw [Nat.pow_add, Nat.pow_succ, Nat.mul_assoc, Nat.mod_mul_right_div_self, Nat.mod_mul_right_mod]
/-- the words below i are X's, the others are Y's -/
def mixW (k X Y i : Nat) : List (BitVec 32) := (n32 k X).take i ++ (n32 k Y).drop i
@[simp] theorem length_mixW {k X Y i : Nat} (h : i ≤ k) : (mixW k X Y i).length = k := by simp [mixW]; omega
theorem getD_mixW {k X Y i : Nat} (hi : i ≤ k) (j : Nat) (hj : j < k) : (mixW k X Y i).getD j 0#32 = if j < i then BitVec.ofNat 32 (X / W32 ^ j) else BitVec.ofNat 32 (Y / W32 ^ j) := by
  rw [mixW]
  by_cases h : j < i
  · rw [if_pos h, ← getD_n32' k X j hj]
    simp only [List.getD, List.getElem?_append, List.length_take, length_n32]
    rw [if_pos (by omega), List.getElem?_take, if_pos h]
  · rw [if_neg h, ← getD_n32' k Y j hj]
    simp only [List.getD, List.getElem?_append, List.length_take, length_n32, List.getElem?_drop]
    rw [if_neg (by omega), show i + (j - min i k) = j by omega]
theorem mixW_zero (k X Y : Nat) : mixW k X Y 0 = n32 k Y := by simp [mixW]
theorem mixW_all (k X Y : Nat) : mixW k X Y k = n32 k X := by simp [mixW, List.take_of_length_le]
theorem mixW_set {k X Y i : Nat} (hi : i < k) : (mixW k X Y i).set i (BitVec.ofNat 32 (X / W32 ^ i)) = mixW k X Y (i + 1) := by
  refine ext_getD (by rw [List.length_set, length_mixW (by omega), length_mixW (by omega)]) fun j hj => ?_
  rw [List.length_set, length_mixW (by omega)] at hj
  rw [getD_set _ _ _ _ _ (by rw [length_mixW (by omega)]; exact hi), getD_mixW (by omega) j hj, getD_mixW (by omega) j hj]
  by_cases e : i = j
  · subst e; rw [if_pos rfl, if_pos (by omega)]
  · rw [if_neg e]
    by_cases h : j < i
    · rw [if_pos h, if_pos (by omega)]
    · rw [if_neg h, if_neg (by omega)]
theorem n32_zero (k : Nat) : List.replicate k 0#32 = n32 k 0 := by
  refine n32_ext (by simp) fun i hi => ?_
  simp [List.getD, hi]
/-! ### sums -/
def cAdd (A B i : Nat) : Nat := (A % W32 ^ i + B % W32 ^ i) / W32 ^ i
theorem Wpos (i : Nat) : 0 < W32 ^ i := Nat.pow_pos (by decide)
theorem cAdd_le (A B i : Nat) : cAdd A B i ≤ 1 := by
  have h1 := Nat.mod_lt A (Wpos i); have h2 := Nat.mod_lt B (Wpos i)
  rw [cAdd]
  have : (A % W32 ^ i + B % W32 ^ i) / W32 ^ i < 2 := Nat.div_lt_of_lt_mul (by omega)
  omega
theorem add_div (A B i : Nat) : (A + B) / W32 ^ i = A / W32 ^ i + B / W32 ^ i + cAdd A B i := by
  have e : A + B = W32 ^ i * (A / W32 ^ i + B / W32 ^ i) + (A % W32 ^ i + B % W32 ^ i) := by
    have h1 := Nat.div_add_mod A (W32 ^ i); have h2 := Nat.div_add_mod B (W32 ^ i)
    rw [Nat.mul_add]; omega
  conv => lhs; rw [e, Nat.mul_add_div (Wpos i)]
  rfl
theorem modS (A i : Nat) : A % W32 ^ (i + 1) = A % W32 ^ i + W32 ^ i * (A / W32 ^ i % W32) := by
  rw [Nat.pow_succ, Nat.mod_mul]
theorem cAdd_next (A B i : Nat) : cAdd A B (i + 1) = (cAdd A B i + A / W32 ^ i % W32 + B / W32 ^ i % W32) / W32 := by
  rw [cAdd, modS, modS, Nat.pow_succ, ← Nat.div_div_eq_div_mul]
  congr 1
  rw [show A % W32 ^ i + W32 ^ i * (A / W32 ^ i % W32) + (B % W32 ^ i + W32 ^ i * (B / W32 ^ i % W32)) = W32 ^ i * (A / W32 ^ i % W32 + B / W32 ^ i % W32) + (A % W32 ^ i + B % W32 ^ i) by rw [Nat.mul_add]; omega, Nat.mul_add_div (Wpos i)]
  show _ + cAdd A B i = _
  omega
theorem ofNat32_toNat (n : Nat) : (BitVec.ofNat 32 n).toNat = n % W32 := by rw [BitVec.toNat_ofNat]
theorem add64_32 {c a b : Nat} (hc : c ≤ 1) : (BitVec.ofNat 64 c + (BitVec.ofNat 32 a).setWidth 64 + (BitVec.ofNat 32 b).setWidth 64 : BitVec 64) = BitVec.ofNat 64 (c + a % W32 + b % W32) := by
  apply BitVec.eq_of_toNat_eq
  simp only [BitVec.toNat_add, BitVec.toNat_setWidth, BitVec.toNat_ofNat]
  simp only [W32]; omega
theorem low32 (n : Nat) (h : n < 18446744073709551616) : (BitVec.ofNat 64 n).setWidth 32 = BitVec.ofNat 32 n := by
  apply BitVec.eq_of_toNat_eq
  simp only [BitVec.toNat_setWidth, BitVec.toNat_ofNat]; omega
theorem high32 (n : Nat) (h : n < 18446744073709551616) : (BitVec.ofNat 64 n) >>> 32 = BitVec.ofNat 64 (n / W32) := by
  apply BitVec.eq_of_toNat_eq
  rw [BitVec.toNat_ushiftRight, BitVec.toNat_ofNat, BitVec.toNat_ofNat, Nat.shiftRight_eq_div_pow]
  simp only [W32]; omega
theorem ofNat32_congr {a b : Nat} (h : a % W32 = b % W32) : BitVec.ofNat 32 a = BitVec.ofNat 32 b := by
  apply BitVec.eq_of_toNat_eq; rw [ofNat32_toNat, ofNat32_toNat]; exact h
theorem plus_word (A B i : Nat) : BitVec.ofNat 32 (cAdd A B i + A / W32 ^ i % W32 + B / W32 ^ i % W32) = BitVec.ofNat 32 ((A + B) / W32 ^ i) := by
  refine ofNat32_congr ?_
  rw [add_div]; simp only [W32]; omega
/-! ### differences -/
def cSub (A B i : Nat) : Int := ((A % W32 ^ i : Nat) - (B % W32 ^ i : Nat) : Int) / (W32 ^ i : Nat)
theorem cSub_ge (A B i : Nat) : -1 ≤ cSub A B i ∧ cSub A B i ≤ 0 := by
  have h1 := Nat.mod_lt A (Wpos i); have h2 := Nat.mod_lt B (Wpos i)
  have hp := Wpos i
  rw [cSub]
  generalize A % W32 ^ i = a at *
  generalize B % W32 ^ i = b at *
  generalize W32 ^ i = w at *
  constructor
  · apply Int.le_ediv_of_mul_le (by omega); omega
  · have : ((a : Int) - b) / w < 1 := Int.ediv_lt_of_lt_mul (by omega) (by omega)
    omega
theorem sub_div (A B i : Nat) (h : B ≤ A) : (((A - B) / W32 ^ i : Nat) : Int) = (A / W32 ^ i : Nat) - (B / W32 ^ i : Nat) + cSub A B i := by
  have h1 := Nat.div_add_mod A (W32 ^ i); have h2 := Nat.div_add_mod B (W32 ^ i)
  have hp := Wpos i
  rw [cSub, Int.natCast_ediv, Int.ofNat_sub h]
  have e : ((A : Int) - B) = ((A % W32 ^ i : Nat) - (B % W32 ^ i : Nat) : Int) + ((A / W32 ^ i : Nat) - (B / W32 ^ i : Nat) : Int) * (W32 ^ i : Nat) := by
    have e1 : (A : Int) = (W32 ^ i : Nat) * (A / W32 ^ i : Nat) + (A % W32 ^ i : Nat) := by rw [← Int.natCast_mul, ← Int.natCast_add, h1]
    have e2 : (B : Int) = (W32 ^ i : Nat) * (B / W32 ^ i : Nat) + (B % W32 ^ i : Nat) := by rw [← Int.natCast_mul, ← Int.natCast_add, h2]
    rw [Int.sub_mul, Int.mul_comm (A / W32 ^ i : Nat) _, Int.mul_comm (B / W32 ^ i : Nat) _]
    omega
  rw [e, Int.add_mul_ediv_right _ _ (by omega)]
  omega
theorem cSub_next (A B i : Nat) : cSub A B (i + 1) = (cSub A B i + (A / W32 ^ i % W32 : Nat) - (B / W32 ^ i % W32 : Nat)) / 4294967296 := by
  have hp := Wpos i
  rw [cSub, modS, modS, Nat.pow_succ, Int.natCast_mul, ← Int.ediv_ediv_of_nonneg (by omega)]
  show _ / (4294967296 : Int) = _
  congr 1
  have e : ((A % W32 ^ i + W32 ^ i * (A / W32 ^ i % W32) : Nat) - (B % W32 ^ i + W32 ^ i * (B / W32 ^ i % W32) : Nat) : Int) = ((A % W32 ^ i : Nat) - (B % W32 ^ i : Nat) : Int) + ((A / W32 ^ i % W32 : Nat) - (B / W32 ^ i % W32 : Nat) : Int) * (W32 ^ i : Nat) := by
    rw [Int.sub_mul, Int.natCast_add, Int.natCast_add, Int.natCast_mul, Int.natCast_mul, Int.mul_comm (A / W32 ^ i % W32 : Nat) _, Int.mul_comm (B / W32 ^ i % W32 : Nat) _]
    omega
  rw [e, Int.add_mul_ediv_right _ _ (by omega)]
  show cSub A B i + _ = _
  omega
theorem minus_word (A B i : Nat) (h : B ≤ A) : BitVec.ofInt 32 (cSub A B i + (A / W32 ^ i % W32 : Nat) - (B / W32 ^ i % W32 : Nat)) = BitVec.ofNat 32 ((A - B) / W32 ^ i) := by
  apply BitVec.eq_of_toNat_eq
  have := sub_div A B i h
  rw [BitVec.toNat_ofInt, ofNat32_toNat]
  generalize (A - B) / W32 ^ i = d at *
  generalize A / W32 ^ i = a at *
  generalize B / W32 ^ i = b at *
  simp only [W32] at *
  omega
end Go.Proofs.YtjhjjhpfjadjpaaDoor

namespace Go.Proofs.YtjhjjhpfjadjpaaDoor
set_option linter.all false
open Go
theorem add_bound (A B i : Nat) : cAdd A B i + A / W32 ^ i % W32 + B / W32 ^ i % W32 < 18446744073709551616 := by
  have := cAdd_le A B i
  have h1 := Nat.mod_lt (A / W32 ^ i) (show 0 < W32 by decide)
  have h2 := Nat.mod_lt (B / W32 ^ i) (show 0 < W32 by decide)
  simp only [W32] at *; omega
theorem mixW_congr {k X X' Y i : Nat} (hi : i ≤ k) (h : X % W32 ^ i = X' % W32 ^ i) : mixW k X Y i = mixW k X' Y i := by
  refine ext_getD (by simp [hi]) fun j hj => ?_
  rw [length_mixW hi] at hj
  rw [getD_mixW hi j hj, getD_mixW hi j hj]
  by_cases hji : j < i
  · rw [if_pos hji, if_pos hji]
    refine ofNat32_congr ?_
    obtain ⟨r, rfl⟩ : ∃ r, i = j + 1 + r := ⟨i - (j + 1), by omega⟩
    have e : ∀ Z, Z / W32 ^ j % W32 = Z % W32 ^ (j + 1 + r) / W32 ^ j % W32 := fun Z => by
      rw [Nat.pow_add, Nat.pow_succ, Nat.mul_assoc, Nat.mod_mul_right_div_self, Nat.mod_mul_right_mod]
    rw [e X, e X', h]
  · rw [if_neg hji, if_neg hji]
theorem mixW_high {k X Y i : Nat} (hi : i ≤ k) (hX : X < W32 ^ i) (hY : Y < W32 ^ i) : mixW k X Y i = n32 k X := by
  refine ext_getD (by simp [hi]) fun j hj => ?_
  rw [length_mixW hi] at hj
  rw [getD_mixW hi j hj, getD_n32' k X j hj]
  by_cases hji : j < i
  · rw [if_pos hji]
  · rw [if_neg hji]
    have hle : W32 ^ i ≤ W32 ^ j := Nat.pow_le_pow_right (by decide) (by omega)
    rw [Nat.div_eq_of_lt (Nat.lt_of_lt_of_le hY hle), Nat.div_eq_of_lt (Nat.lt_of_lt_of_le hX hle)]
/-! ### products -/
def mT (A B i : Nat) : Nat := A % W32 ^ i * B
def mV (A B i j : Nat) : Nat := mT A B i + W32 ^ i * (A / W32 ^ i % W32) * (B % W32 ^ j)
def mC (A B i j : Nat) : Nat := mV A B i j / W32 ^ (i + j) - mT A B i / W32 ^ (i + j)
theorem mT_full {A B i : Nat} (h : A < W32 ^ i) : mT A B i = A * B := by rw [mT, Nat.mod_eq_of_lt h]
theorem mV_zero (A B i : Nat) : mV A B i 0 = mT A B i := by simp [mV, Nat.mod_one]
theorem mV_next (A B i j : Nat) : mV A B i (j + 1) = mV A B i j + W32 ^ (i + j) * ((A / W32 ^ i % W32) * (B / W32 ^ j % W32)) := by
  rw [mV, mV, modS, Nat.mul_add, Nat.add_assoc]
  congr 2
  rw [Nat.pow_add]
  simp only [Nat.mul_assoc, Nat.mul_left_comm]
theorem mV_div (A B i j : Nat) : mV A B i j / W32 ^ (i + j) = mC A B i j + mT A B i / W32 ^ (i + j) := by
  have : mT A B i / W32 ^ (i + j) ≤ mV A B i j / W32 ^ (i + j) := Nat.div_le_div_right (by rw [mV]; omega)
  rw [mC]; omega
theorem mC_zero (A B i : Nat) : mC A B i 0 = 0 := by rw [mC, mV_zero, Nat.sub_self]
def mS (A B i j : Nat) : Nat := mC A B i j + (A / W32 ^ i % W32) * (B / W32 ^ j % W32) + mT A B i / W32 ^ (i + j) % W32
theorem mV_word (A B i j : Nat) : mV A B i (j + 1) / W32 ^ (i + j) = mC A B i j + mT A B i / W32 ^ (i + j) + (A / W32 ^ i % W32) * (B / W32 ^ j % W32) := by
  rw [mV_next, Nat.add_mul_div_left _ _ (Wpos _), mV_div]
theorem mS_word (A B i j : Nat) : BitVec.ofNat 32 (mS A B i j) = BitVec.ofNat 32 (mV A B i (j + 1) / W32 ^ (i + j)) := by
  refine ofNat32_congr ?_
  rw [mV_word, mS]
  generalize (A / W32 ^ i % W32) * (B / W32 ^ j % W32) = p
  simp only [W32]; omega
theorem mC_next (A B i j : Nat) : mC A B i (j + 1) = mS A B i j / W32 := by
  have h1 : mV A B i (j + 1) / W32 ^ (i + (j + 1)) = (mC A B i j + mT A B i / W32 ^ (i + j) + (A / W32 ^ i % W32) * (B / W32 ^ j % W32)) / W32 := by
    rw [show i + (j + 1) = i + j + 1 by omega, Nat.pow_succ, ← Nat.div_div_eq_div_mul, mV_word]
  have h2 : mT A B i / W32 ^ (i + (j + 1)) = mT A B i / W32 ^ (i + j) / W32 := by
    rw [show i + (j + 1) = i + j + 1 by omega, Nat.pow_succ, ← Nat.div_div_eq_div_mul]
  rw [mC, h1, h2, mS]
  generalize (A / W32 ^ i % W32) * (B / W32 ^ j % W32) = p
  generalize mT A B i / W32 ^ (i + j) = t
  generalize mC A B i j = c
  simp only [W32]; omega
theorem mC_lt (A B i : Nat) : ∀ j, mC A B i j < W32
  | 0 => by rw [mC_zero]; decide
  | j + 1 => by
    have ih := mC_lt A B i j
    rw [mC_next, mS]
    have h1 : A / W32 ^ i % W32 ≤ 4294967295 := Nat.le_of_lt_succ (Nat.mod_lt _ (by decide))
    have h2 : B / W32 ^ j % W32 ≤ 4294967295 := Nat.le_of_lt_succ (Nat.mod_lt _ (by decide))
    have h3 : (A / W32 ^ i % W32) * (B / W32 ^ j % W32) ≤ 4294967295 * 4294967295 := Nat.mul_le_mul h1 h2
    have h4 := Nat.mod_lt (mT A B i / W32 ^ (i + j)) (show 0 < W32 by decide)
    generalize (A / W32 ^ i % W32) * (B / W32 ^ j % W32) = p at *
    simp only [W32] at *
    omega
theorem mS_lt (A B i j : Nat) : mS A B i j < 18446744073709551616 := by
  have ih := mC_lt A B i j
  rw [mS]
  have h1 : A / W32 ^ i % W32 ≤ 4294967295 := Nat.le_of_lt_succ (Nat.mod_lt _ (by decide))
  have h2 : B / W32 ^ j % W32 ≤ 4294967295 := Nat.le_of_lt_succ (Nat.mod_lt _ (by decide))
  have h3 : (A / W32 ^ i % W32) * (B / W32 ^ j % W32) ≤ 4294967295 * 4294967295 := Nat.mul_le_mul h1 h2
  have h4 := Nat.mod_lt (mT A B i / W32 ^ (i + j)) (show 0 < W32 by decide)
  generalize (A / W32 ^ i % W32) * (B / W32 ^ j % W32) = p at *
  simp only [W32] at *
  omega
/-- the inner loop's sum, in words of 64 bits -/
theorem mS_64 (A B i j : Nat) : (BitVec.ofNat 64 (mC A B i j) + (BitVec.ofNat 32 (A / W32 ^ i)).setWidth 64 * (BitVec.ofNat 32 (B / W32 ^ j)).setWidth 64 + (BitVec.ofNat 32 (mT A B i / W32 ^ (i + j))).setWidth 64 : BitVec 64) = BitVec.ofNat 64 (mS A B i j) := by
  apply BitVec.eq_of_toNat_eq
  have h := mS_lt A B i j
  have e1 : ∀ n : Nat, n % 2 ^ 32 % 2 ^ 64 = n % W32 := fun n => by simp only [W32]; omega
  simp only [BitVec.toNat_add, BitVec.toNat_mul, BitVec.toNat_setWidth, BitVec.toNat_ofNat, e1]
  rw [mS] at h ⊢
  generalize (A / W32 ^ i % W32) * (B / W32 ^ j % W32) = p at *
  omega
theorem mix_mul {n A B i j : Nat} (h : i + j < n) : (mixW n (mV A B i j) (mT A B i) (i + j)).set (i + j) (BitVec.ofNat 32 (mS A B i j)) = mixW n (mV A B i (j + 1)) (mT A B i) (i + (j + 1)) := by
  rw [mS_word, mixW_congr (X' := mV A B i (j + 1)) (by omega) (by rw [mV_next, Nat.add_mul_mod_self_left]), mixW_set h]
  rfl
theorem mT_lt {A B lb : Nat} (hB : B < W32 ^ lb) (i : Nat) : mT A B i < W32 ^ (i + lb) := by
  rw [mT, Nat.pow_add]
  have h1 := Nat.mod_lt A (Wpos i)
  calc A % W32 ^ i * B ≤ A % W32 ^ i * W32 ^ lb := Nat.mul_le_mul_left _ (Nat.le_of_lt hB)
    _ < W32 ^ i * W32 ^ lb := Nat.mul_lt_mul_of_pos_right h1 (Wpos lb)
theorem mV_all {A B lb : Nat} (hB : B < W32 ^ lb) (i : Nat) : mV A B i lb = mT A B (i + 1) := by
  rw [mV, Nat.mod_eq_of_lt hB, mT, mT, modS, Nat.add_mul]
theorem mix_end {n A B lb i : Nat} (hB : B < W32 ^ lb) (h : i + lb < n) : (mixW n (mV A B i lb) (mT A B i) (i + lb)).set (i + lb) (BitVec.ofNat 32 (mC A B i lb)) = n32 n (mT A B (i + 1)) := by
  have e : mC A B i lb = mV A B i lb / W32 ^ (i + lb) := by
    rw [mC, Nat.div_eq_of_lt (mT_lt hB i), Nat.sub_zero]
  rw [e, mixW_set h, mV_all hB]
  have h1 := mT_lt (A := A) hB (i + 1)
  have h2 := mT_lt (A := A) hB i
  refine mixW_high h (by rw [show i + lb + 1 = i + 1 + lb by omega]; exact h1) (Nat.lt_of_lt_of_le h2 (Nat.pow_le_pow_right (by decide) (by omega)))
theorem mix_start (n A B i : Nat) : n32 n (mT A B i) = mixW n (mV A B i 0) (mT A B i) (i + 0) := by
  refine ext_getD (by by_cases h : i + 0 ≤ n <;> simp [mixW] <;> omega) fun j hj => ?_
  rw [length_n32] at hj
  rw [mV_zero]
  by_cases h : i ≤ n
  · rw [getD_mixW (i := i + 0) h j hj, getD_n32' n _ j hj]; split <;> rfl
  · rw [mixW, Nat.add_zero, List.take_of_length_le (by simp; omega), List.drop_of_length_le (by simp; omega), List.append_nil]
/-! ### comparing -/
theorem top_step (A j : Nat) : A / W32 ^ j = W32 * (A / W32 ^ (j + 1)) + A / W32 ^ j % W32 := by
  rw [Nat.pow_succ, ← Nat.div_div_eq_div_mul]; exact (Nat.div_add_mod _ _).symm
theorem less_word {A B j : Nat} (h : A / W32 ^ (j + 1) = B / W32 ^ (j + 1)) (hne : ¬ BitVec.ofNat 32 (A / W32 ^ j) = BitVec.ofNat 32 (B / W32 ^ j)) : decide ((BitVec.ofNat 32 (A / W32 ^ j)).toNat < (BitVec.ofNat 32 (B / W32 ^ j)).toNat) = decide (A < B) := by
  rw [ofNat32_toNat, ofNat32_toNat]
  have hne : A / W32 ^ j % W32 ≠ B / W32 ^ j % W32 := fun e => hne (ofNat32_congr e)
  have ha := top_step A j; have hb := top_step B j
  rw [h] at ha
  congr 1
  rw [eq_iff_iff]
  constructor
  · intro hlt
    have : A / W32 ^ j < B / W32 ^ j := by rw [ha, hb]; omega
    exact Nat.lt_of_not_le fun hle => absurd (Nat.div_le_div_right (c := W32 ^ j) hle) (by omega)
  · intro hlt
    have h1 := Nat.div_le_div_right (c := W32 ^ j) (Nat.le_of_lt hlt)
    omega
theorem same_word {A B j : Nat} (h : A / W32 ^ (j + 1) = B / W32 ^ (j + 1)) (he : BitVec.ofNat 32 (A / W32 ^ j) = BitVec.ofNat 32 (B / W32 ^ j)) : A / W32 ^ j = B / W32 ^ j := by
  have he := congrArg BitVec.toNat he
  rw [ofNat32_toNat, ofNat32_toNat] at he
  rw [top_step A j, top_step B j, h, he]
theorem word_zero {A i : Nat} (h : A % W32 ^ i = 0) (he : BitVec.ofNat 32 (A / W32 ^ i) = 0#32) : A % W32 ^ (i + 1) = 0 := by
  have he := congrArg BitVec.toNat he
  rw [ofNat32_toNat] at he
  change _ = 0 at he
  rw [modS, h, he]; rfl
theorem word_ne {A i : Nat} (he : ¬ BitVec.ofNat 32 (A / W32 ^ i) = 0#32) : A ≠ 0 := by
  rintro rfl
  exact he (by rw [Nat.zero_div])
/-! ### halves -/
theorem half_word (A i : Nat) : (BitVec.ofNat 32 (A / W32 ^ i)) >>> 1 ||| (BitVec.ofNat 32 (A / W32 ^ (i + 1))) <<< 31 = BitVec.ofNat 32 (A / 2 / W32 ^ i) := by
  apply BitVec.eq_of_toNat_eq
  rw [BitVec.toNat_or, BitVec.toNat_ushiftRight, BitVec.toNat_shiftLeft, Nat.shiftRight_eq_div_pow, Nat.shiftLeft_eq, ofNat32_toNat, ofNat32_toNat, ofNat32_toNat, show A / W32 ^ (i + 1) = A / W32 ^ i / W32 by rw [Nat.pow_succ, ← Nat.div_div_eq_div_mul], show A / 2 / W32 ^ i = A / W32 ^ i / 2 by rw [Nat.div_div_eq_div_mul, Nat.mul_comm, ← Nat.div_div_eq_div_mul]]
  generalize A / W32 ^ i = q
  have e : q / W32 % W32 * 2 ^ 31 % 2 ^ 32 = 2 ^ 31 * (q / W32 % 2) := by simp only [W32]; omega
  have hlt : q % W32 / 2 ^ 1 < 2 ^ 31 := by simp only [W32]; omega
  rw [e, Nat.or_comm, ← Nat.two_pow_add_eq_or_of_lt hlt]
  simp only [W32]; omega
theorem quarter_word (A i : Nat) : (BitVec.ofNat 32 (A / W32 ^ i)) >>> 2 ||| (BitVec.ofNat 32 (A / W32 ^ (i + 1))) <<< 30 = BitVec.ofNat 32 (A / 4 / W32 ^ i) := by
  apply BitVec.eq_of_toNat_eq
  rw [BitVec.toNat_or, BitVec.toNat_ushiftRight, BitVec.toNat_shiftLeft, Nat.shiftRight_eq_div_pow, Nat.shiftLeft_eq, ofNat32_toNat, ofNat32_toNat, ofNat32_toNat, show A / W32 ^ (i + 1) = A / W32 ^ i / W32 by rw [Nat.pow_succ, ← Nat.div_div_eq_div_mul], show A / 4 / W32 ^ i = A / W32 ^ i / 4 by rw [Nat.div_div_eq_div_mul, Nat.mul_comm, ← Nat.div_div_eq_div_mul]]
  generalize A / W32 ^ i = q
  have e : q / W32 % W32 * 2 ^ 30 % 2 ^ 32 = 2 ^ 30 * (q / W32 % 4) := by simp only [W32]; omega
  have hlt : q % W32 / 2 ^ 2 < 2 ^ 30 := by simp only [W32]; omega
  rw [e, Nat.or_comm, ← Nat.two_pow_add_eq_or_of_lt hlt]
  simp only [W32]; omega
end Go.Proofs.YtjhjjhpfjadjpaaDoor

namespace Go.Proofs.YtjhjjhpfjadjpaaDoor
set_option linter.all false
open Go
/-- words moved up by one -/
def shD (l : List (BitVec 32)) : Nat → List (BitVec 32)
  | 0 => l
  | t + 1 => (shD l t).set (8 - t) ((shD l t).getD (8 - t - 1) 0#32)
@[simp] theorem length_shD (l : List (BitVec 32)) : ∀ t, (shD l t).length = l.length
  | 0 => rfl
  | t + 1 => by rw [shD, List.length_set, length_shD l t]
theorem n32_div {A n : Nat} : A / W32 ^ (n + 1) = A / W32 ^ n / W32 := by rw [Nat.pow_succ, ← Nat.div_div_eq_div_mul]
theorem sh_set {A n : Nat} : (shD (n32 9 (A / W32 ^ (n + 1))) 8).set 0 (BitVec.ofNat 32 (A / W32 ^ n)) = n32 9 (A / W32 ^ n) := by
  have e : n32 9 (A / W32 ^ n) = BitVec.ofNat 32 (A / W32 ^ n) :: n32 8 (A / W32 ^ (n + 1)) := by rw [n32_div]; rfl
  have e2 : ∀ R, (shD (n32 9 R) 8).set 0 (BitVec.ofNat 32 (A / W32 ^ n)) = BitVec.ofNat 32 (A / W32 ^ n) :: n32 8 R := fun R => rfl
  rw [e2, e]
theorem n32_take8 (X : Nat) : (n32 9 X).take 8 = n32 8 X := rfl
theorem W32_pow (i : Nat) : W32 ^ i = 2 ^ (32 * i) := by rw [Nat.pow_mul]
theorem bit32 (A i : Nat) : (BitVec.ofNat 32 (A / W32 ^ (i / 32)) >>> (i % 32)) &&& 1#32 = BitVec.ofNat 32 (A / 2 ^ i % 2) := by
  apply BitVec.eq_of_toNat_eq
  rw [BitVec.toNat_and, show (1#32).toNat = 2 ^ 1 - 1 from rfl, Nat.and_two_pow_sub_one_eq_mod, BitVec.toNat_ushiftRight, ofNat32_toNat, ofNat32_toNat, Nat.shiftRight_eq_div_pow, W32_pow]
  have e1 : A / 2 ^ (32 * (i / 32)) % W32 / 2 ^ (i % 32) % 2 = A / 2 ^ (32 * (i / 32)) / 2 ^ (i % 32) % 2 := by
    have : W32 = 2 ^ (i % 32) * 2 ^ (32 - i % 32) := by rw [← Nat.pow_add]; rw [show i % 32 + (32 - i % 32) = 32 by omega]
    rw [this, Nat.mod_mul_right_div_self]
    have h2 : (2 : Nat) ∣ 2 ^ (32 - i % 32) := ⟨2 ^ (32 - i % 32 - 1), by rw [← Nat.pow_succ']; congr 1; omega⟩
    exact Nat.mod_mod_of_dvd _ h2
  have e2 : A / 2 ^ (32 * (i / 32)) / 2 ^ (i % 32) = A / 2 ^ i := by
    rw [Nat.div_div_eq_div_mul, ← Nat.pow_add, show 32 * (i / 32) + i % 32 = i by omega]
  rw [show (2:Nat) ^ 1 = 2 from rfl, e1, e2]
  simp only [W32]; omega
/-! ### a number doubled, and a bit -/
def cDb (R c t : Nat) : Nat := (2 * (R % W32 ^ t) + c) / W32 ^ t
theorem cDb_le {R c : Nat} (hc : c ≤ 1) (t : Nat) : cDb R c t ≤ 1 := by
  have h1 := Nat.mod_lt R (Wpos t)
  have : (2 * (R % W32 ^ t) + c) / W32 ^ t < 2 := Nat.div_lt_of_lt_mul (by omega)
  rw [cDb]; omega
theorem dbl_div (R c t : Nat) : (2 * R + c) / W32 ^ t = 2 * (R / W32 ^ t) + cDb R c t := by
  have h := Nat.div_add_mod R (W32 ^ t)
  have e : 2 * R + c = W32 ^ t * (2 * (R / W32 ^ t)) + (2 * (R % W32 ^ t) + c) := by
    rw [Nat.mul_left_comm]; omega
  conv => lhs; rw [e, Nat.mul_add_div (Wpos t)]
  rfl
theorem cDb_next {R c : Nat} (hc : c ≤ 1) (t : Nat) : cDb R c (t + 1) = (R / W32 ^ t % W32) / 2147483648 := by
  have hl := cDb_le (R := R) hc t
  have e : cDb R c (t + 1) = (2 * (R / W32 ^ t % W32) + cDb R c t) / W32 := by
    rw [cDb, modS, Nat.pow_succ, ← Nat.div_div_eq_div_mul]
    congr 1
    rw [show 2 * (R % W32 ^ t + W32 ^ t * (R / W32 ^ t % W32)) + c = W32 ^ t * (2 * (R / W32 ^ t % W32)) + (2 * (R % W32 ^ t) + c) by rw [Nat.mul_add, Nat.mul_left_comm 2]; omega, Nat.mul_add_div (Wpos t)]
    rfl
  rw [e]
  simp only [W32]; omega
theorem dbl_next {R c : Nat} (hc : c ≤ 1) (t : Nat) : BitVec.ofNat 32 (R / W32 ^ t) >>> 31 = BitVec.ofNat 32 (cDb R c (t + 1)) := by
  apply BitVec.eq_of_toNat_eq
  rw [BitVec.toNat_ushiftRight, ofNat32_toNat, ofNat32_toNat, Nat.shiftRight_eq_div_pow, cDb_next hc]
  simp only [W32]; omega
theorem dbl_word {R c : Nat} (hc : c ≤ 1) (t : Nat) : BitVec.ofNat 32 (R / W32 ^ t) <<< 1 ||| BitVec.ofNat 32 (cDb R c t) = BitVec.ofNat 32 ((2 * R + c) / W32 ^ t) := by
  have hl := cDb_le (R := R) hc t
  apply BitVec.eq_of_toNat_eq
  rw [BitVec.toNat_or, BitVec.toNat_shiftLeft, ofNat32_toNat, ofNat32_toNat, ofNat32_toNat, Nat.shiftLeft_eq, dbl_div]
  generalize R / W32 ^ t = q
  generalize cDb R c t = d at *
  have e : q % W32 * 2 ^ 1 % 2 ^ 32 = 2 ^ 1 * (q % 2147483648) := by simp only [W32]; omega
  have hd : d % W32 = d := by simp only [W32]; omega
  rw [e, hd, ← Nat.two_pow_add_eq_or_of_lt (show d < 2 ^ 1 by omega)]
  simp only [W32]; omega
theorem cDb_zero (R c : Nat) : cDb R c 0 = c := by simp [cDb, Nat.mod_one]
/-- a step of the division -/
theorem mod_step {A M j : Nat} (hM : 0 < M) : A / 2 ^ j % M = if 2 * (A / 2 ^ (j + 1) % M) + A / 2 ^ j % 2 < M then 2 * (A / 2 ^ (j + 1) % M) + A / 2 ^ j % 2 else 2 * (A / 2 ^ (j + 1) % M) + A / 2 ^ j % 2 - M := by
  have h1 := half_step A j
  have h2 : A / 2 ^ j % M = (2 * (A / 2 ^ (j + 1) % M) + A / 2 ^ j % 2) % M := by
    conv => lhs; rw [h1]
    rw [Nat.add_mod, Nat.mul_mod, ← Nat.mod_mul_mod, Nat.mod_mod, ← Nat.mul_mod_mod, ← Nat.add_mod] <;> simp [Nat.add_mod, Nat.mul_mod]
  have h3 := Nat.mod_lt (A / 2 ^ (j + 1)) hM
  rw [h2]
  generalize A / 2 ^ (j + 1) % M = R at *
  split
  · exact Nat.mod_eq_of_lt (by assumption)
  · rw [Nat.mod_eq_sub_mod (by omega), Nat.mod_eq_of_lt (by omega)]
theorem mod_lt9 {A M j : Nat} (hM : 0 < M) (hM8 : M < W32 ^ 8) : 2 * (A / 2 ^ (j + 1) % M) + A / 2 ^ j % 2 < W32 ^ 9 := by
  have h3 := Nat.mod_lt (A / 2 ^ (j + 1)) hM
  have : (W32 : Nat) ^ 9 = W32 * W32 ^ 8 := by rw [← Nat.pow_succ']
  rw [this]
  have : 2 * W32 ^ 8 ≤ W32 * W32 ^ 8 := Nat.mul_le_mul_right _ (by decide)
  omega
theorem top7 {A la N k : Nat} (hA : A < W32 ^ la) (hN : N = la - (7 - k)) (hk : 7 - k ≤ la) : A / W32 ^ N < W32 ^ 7 := by
  have e : W32 ^ la = W32 ^ N * W32 ^ (7 - k) := by rw [← Nat.pow_add]; congr 1; omega
  rw [e] at hA
  exact Nat.lt_of_lt_of_le (Nat.div_lt_of_lt_mul hA) (Nat.pow_le_pow_right (by decide) (by omega))
/-! ### bytes -/
theorem pow256_4 (i : Nat) : W32 ^ i = 256 ^ (4 * i) := by rw [Nat.pow_mul]
theorem byte32 {A k : Nat} : ((BitVec.ofNat 32 (A / W32 ^ (k / 4))) >>> (8 * (k % 4))).setWidth 8 = BitVec.ofNat 8 (A / 256 ^ k) := by
  apply BitVec.eq_of_toNat_eq
  rw [BitVec.toNat_setWidth, BitVec.toNat_ushiftRight, ofNat32_toNat, Nat.shiftRight_eq_div_pow, BitVec.toNat_ofNat, W32_pow, pow256]
  have e1 : A / 2 ^ (32 * (k / 4)) % W32 / 2 ^ (8 * (k % 4)) % 2 ^ 8 = A / 2 ^ (32 * (k / 4)) / 2 ^ (8 * (k % 4)) % 2 ^ 8 := by
    have : W32 = 2 ^ (8 * (k % 4)) * 2 ^ (32 - 8 * (k % 4)) := by rw [← Nat.pow_add]; rw [show 8 * (k % 4) + (32 - 8 * (k % 4)) = 32 by omega]
    rw [this, Nat.mod_mul_right_div_self]
    have h2 : 2 ^ 8 ∣ 2 ^ (32 - 8 * (k % 4)) := ⟨2 ^ (32 - 8 * (k % 4) - 8), by rw [← Nat.pow_add]; congr 1; omega⟩
    exact Nat.mod_mod_of_dvd _ h2
  rw [e1, Nat.div_div_eq_div_mul, ← Nat.pow_add, show 32 * (k / 4) + 8 * (k % 4) = 8 * k by omega]
/-- a byte laid into a number of words -/
theorem setByte32 {n X k : Nat} {x : BitVec 8} (hk : k / 4 < n) (hX : X % 256 ^ (k + 1) = 0) :
    (n32 n X).set (k / 4) ((n32 n X).getD (k / 4) 0#32 ||| (x.setWidth 32) <<< (8 * (k % 4))) = n32 n (X + x.toNat * 256 ^ k) := by
  have hx := x.isLt
  obtain ⟨Y, hY⟩ : ∃ Y, X = 256 ^ (k + 1) * Y := ⟨X / 256 ^ (k + 1), by rw [Nat.mul_comm]; exact (Nat.div_mul_cancel (Nat.dvd_of_mod_eq_zero hX)).symm⟩
  have hp : 256 ^ (k + 1) = W32 ^ (k / 4) * 2 ^ (8 * (k % 4) + 8) := by
    rw [pow256, W32_pow, ← Nat.pow_add]; congr 1; omega
  have hp2 : 256 ^ k = W32 ^ (k / 4) * 2 ^ (8 * (k % 4)) := by
    rw [pow256, W32_pow, ← Nat.pow_add]; congr 1; omega
  have hpos := Wpos (k / 4)
  have hw : X / W32 ^ (k / 4) = 2 ^ (8 * (k % 4) + 8) * Y := by
    rw [hY, hp, Nat.mul_assoc, Nat.mul_div_cancel_left _ hpos]
  have hs : (X + x.toNat * 256 ^ k) / W32 ^ (k / 4) = 2 ^ (8 * (k % 4) + 8) * Y + x.toNat * 2 ^ (8 * (k % 4)) := by
    rw [hY, hp, hp2, Nat.mul_assoc, Nat.mul_left_comm x.toNat, ← Nat.mul_add, Nat.mul_div_cancel_left _ hpos]
  have hxs : x.toNat * 2 ^ (8 * (k % 4)) < 2 ^ (8 * (k % 4) + 8) := by
    rw [Nat.pow_add, Nat.mul_comm]; exact Nat.mul_lt_mul_of_pos_left hx (Nat.pow_pos (by decide))
  have h32 : W32 = 2 ^ (8 * (k % 4) + 8) * 2 ^ (24 - 8 * (k % 4)) := by rw [← Nat.pow_add, show 8 * (k % 4) + 8 + (24 - 8 * (k % 4)) = 32 by omega]
  refine n32_ext (by rw [List.length_set, length_n32]) fun i hi => ?_
  rw [getD_set _ _ _ _ _ (by rw [length_n32]; exact hk)]
  by_cases e : k / 4 = i
  · subst e
    rw [if_pos rfl, BitVec.toNat_or, toNat_n32 _ hk, BitVec.toNat_shiftLeft, BitVec.toNat_setWidth, Nat.shiftLeft_eq, hs, hw]
    rw [Nat.mod_eq_of_lt (by omega : x.toNat < 2 ^ 32), Nat.mod_eq_of_lt (a := x.toNat * 2 ^ (8 * (k % 4))) (by
      refine Nat.lt_of_lt_of_le hxs (Nat.pow_le_pow_right (by decide) (by omega)))]
    have e1 : 2 ^ (8 * (k % 4) + 8) * Y % W32 = 2 ^ (8 * (k % 4) + 8) * (Y % 2 ^ (24 - 8 * (k % 4))) := by rw [h32, Nat.mul_mod_mul_left]
    rw [e1, ← Nat.two_pow_add_eq_or_of_lt hxs]
    rw [Nat.add_mod, e1, Nat.mod_eq_of_lt (a := x.toNat * 2 ^ (8 * (k % 4))) (by
      refine Nat.lt_of_lt_of_le hxs (Nat.pow_le_pow_right (n := 2) (by decide) (by omega : 8 * (k % 4) + 8 ≤ 32)))]
    refine (Nat.mod_eq_of_lt ?_).symm
    have hym : Y % 2 ^ (24 - 8 * (k % 4)) < 2 ^ (24 - 8 * (k % 4)) := Nat.mod_lt _ (Nat.pow_pos (by decide))
    have : 2 ^ (8 * (k % 4) + 8) * (Y % 2 ^ (24 - 8 * (k % 4)) + 1) ≤ W32 := by
      rw [h32]; exact Nat.mul_le_mul_left _ hym
    rw [Nat.mul_add, Nat.mul_one] at this
    exact Nat.lt_of_lt_of_le (Nat.add_lt_add_left hxs _) this
  · rw [if_neg e, toNat_n32 i hi]
    by_cases hlt : i < k / 4
    · obtain ⟨r, hr⟩ : ∃ r, k / 4 = i + 1 + r := ⟨k / 4 - (i + 1), by omega⟩
      have hq : 256 ^ k = W32 ^ i * (W32 * (W32 ^ r * 2 ^ (8 * (k % 4)))) := by
        rw [hp2, hr, Nat.pow_add, Nat.pow_succ, Nat.mul_assoc, Nat.mul_assoc]
      rw [hq, Nat.mul_left_comm, Nat.add_mul_div_left _ _ (Wpos i), Nat.mul_left_comm, Nat.add_mul_mod_self_left]
    · congr 1
      have hgt : k + 1 ≤ 4 * i := by omega
      have hd : W32 ^ i = 256 ^ (k + 1) * 256 ^ (4 * i - (k + 1)) := by
        rw [← Nat.pow_add, show k + 1 + (4 * i - (k + 1)) = 4 * i by omega, pow256_4]
      rw [hd, ← Nat.div_div_eq_div_mul, ← Nat.div_div_eq_div_mul]
      congr 1
      rw [hY, Nat.mul_comm (256 ^ (k + 1)) Y, Nat.mul_div_cancel _ (Nat.pow_pos (by decide)), Nat.add_comm, Nat.add_mul_div_right _ _ (Nat.pow_pos (by decide)), Nat.div_eq_of_lt, Nat.zero_add]
      rw [Nat.pow_succ, Nat.mul_comm]; exact Nat.mul_lt_mul_of_pos_left hx (Nat.pow_pos (by decide))
theorem of_step {q : List (BitVec 8)} {i : Nat} (hi : i < q.length) :
    (n32 ((q.length + 3) / 4) (beN (q.take i) * 256 ^ (q.length - i))).set ((q.length - 1 - i) / 4) ((n32 ((q.length + 3) / 4) (beN (q.take i) * 256 ^ (q.length - i))).getD ((q.length - 1 - i) / 4) 0#32 ||| ((q.getD i 0#8).setWidth 32) <<< (8 * ((q.length - 1 - i) % 4))) = n32 ((q.length + 3) / 4) (beN (q.take (i + 1)) * 256 ^ (q.length - (i + 1))) := by
  have hk : q.length - i = (q.length - 1 - i) + 1 := by omega
  rw [setByte32 (by omega) (by rw [← hk, Nat.mul_mod_left])]
  congr 1
  have ht : q.take (i + 1) = q.take i ++ [q.getD i 0#8] := by
    rw [List.take_succ]; simp [List.getD, hi]
  rw [ht, beN_snoc, show q.length - (i + 1) = q.length - 1 - i by omega]
  rw [hk, Nat.pow_succ, Nat.add_mul, ← Nat.mul_assoc, Nat.mul_right_comm]
theorem of_start (q : List (BitVec 8)) (n : Nat) : List.replicate n 0#32 = n32 n (beN (q.take 0) * 256 ^ (q.length - 0)) := by
  rw [List.take_zero, beN, Nat.zero_mul]; exact n32_zero n
theorem of_lt (q : List (BitVec 8)) : beN q < W32 ^ ((q.length + 3) / 4) := by
  refine Nat.lt_of_lt_of_le (beN_lt q) ?_
  rw [pow256_4]; exact Nat.pow_le_pow_right (by decide) (by omega)
/-- some bytes of a number, then zeros -/
def bB (n A i : Nat) : List (BitVec 8) := (beB n A).take i ++ List.replicate (n - i) 0#8
@[simp] theorem length_bB {n A i : Nat} (h : i ≤ n) : (bB n A i).length = n := by simp [bB]; omega
theorem bB_zero (n A : Nat) : List.replicate n 0#8 = bB n A 0 := by simp [bB]
theorem bB_all (n A : Nat) : bB n A n = beB n A := by simp [bB, List.take_of_length_le]
theorem bB_step {n A i : Nat} (hi : i < n) : (bB n A i).set i (((BitVec.ofNat 32 (A / W32 ^ ((n - 1 - i) / 4))) >>> (8 * ((n - 1 - i) % 4))).setWidth 8) = bB n A (i + 1) := by
  rw [byte32]
  have g1 : ∀ k j, k ≤ n → j < n → (bB n A k).getD j 0#8 = if j < k then BitVec.ofNat 8 (A / 256 ^ (n - 1 - j)) else 0#8 := by
    intro k j hk hj
    have := getD_beB n A j hj
    rw [bB]
    by_cases h : j < k
    · rw [if_pos h, ← this]
      simp only [List.getD, List.getElem?_append, List.length_take, length_beB]
      rw [if_pos (by omega), List.getElem?_take, if_pos h]
    · rw [if_neg h]
      simp only [List.getD, List.getElem?_append, List.length_take, length_beB]
      rw [if_neg (by omega), List.getElem?_replicate]
      split <;> rfl
  refine ext_getD (by rw [List.length_set, length_bB (by omega), length_bB (by omega)]) fun j hj => ?_
  rw [List.length_set, length_bB (by omega)] at hj
  rw [getD_set _ _ _ _ _ (by rw [length_bB (by omega)]; exact hi), g1 _ _ (by omega) hj, g1 _ _ (by omega) hj]
  by_cases e : i = j
  · subst e; rw [if_pos rfl, if_pos (by omega)]
  · rw [if_neg e]
    by_cases h : j < i
    · rw [if_pos h, if_pos (by omega)]
    · rw [if_neg h, if_neg (by omega)]
theorem bB_skip {n A i : Nat} (hi : i < n) (h0 : A / 256 ^ (n - 1 - i) = 0) : bB n A i = bB n A (i + 1) := by
  refine ext_getD (by rw [length_bB (by omega), length_bB (by omega)]) fun j hj => ?_
  rw [length_bB (by omega)] at hj
  have g1 : ∀ k j, k ≤ n → j < n → (bB n A k).getD j 0#8 = if j < k then BitVec.ofNat 8 (A / 256 ^ (n - 1 - j)) else 0#8 := by
    intro k j hk hj
    have := getD_beB n A j hj
    rw [bB]
    by_cases h : j < k
    · rw [if_pos h, ← this]
      simp only [List.getD, List.getElem?_append, List.length_take, length_beB]
      rw [if_pos (by omega), List.getElem?_take, if_pos h]
    · rw [if_neg h]
      simp only [List.getD, List.getElem?_append, List.length_take, length_beB]
      rw [if_neg (by omega), List.getElem?_replicate]
      split <;> rfl
  rw [g1 _ _ (by omega) hj, g1 _ _ (by omega) hj]
  by_cases e : i = j
  · subst e; rw [if_neg (by omega), if_pos (by omega), h0]
  · by_cases h : j < i
    · rw [if_pos h, if_pos (by omega)]
    · rw [if_neg h, if_neg (by omega)]
theorem high_zero {A la k : Nat} (hA : A < W32 ^ la) (h : la ≤ k / 4) : A / 256 ^ k = 0 := by
  refine Nat.div_eq_of_lt (Nat.lt_of_lt_of_le hA ?_)
  rw [pow256_4]; exact Nat.pow_le_pow_right (by decide) (by omega)
end Go.Proofs.YtjhjjhpfjadjpaaDoor

namespace Go.Proofs.YtjhjjhpfjadjpaaDoor
set_option linter.all false
open Go
def hlf (p a : Nat) : Nat := (if a % 2 = 1 then a + p else a) / 2
theorem hlf_zero (a : Nat) : hlf 0 a = a / 2 := by rw [hlf]; split <;> rfl
theorem word0 (A : Nat) : BitVec.ofNat 32 (A / W32 ^ 0) &&& 1#32 = BitVec.ofNat 32 (A % 2) := by
  apply BitVec.eq_of_toNat_eq
  rw [BitVec.toNat_and, show (1#32).toNat = 2 ^ 1 - 1 from rfl, Nat.and_two_pow_sub_one_eq_mod, ofNat32_toNat, ofNat32_toNat, Nat.pow_zero, Nat.div_one]
  simp only [W32]; omega
theorem odd_of {la A : Nat} (hA : A < W32 ^ la) : ((n32 la A).getD 0 0#32 &&& 1#32 = 1#32) ↔ A % 2 = 1 := by
  rw [getD_n32 hA, word0]
  constructor
  · intro h
    have := congrArg BitVec.toNat h
    rw [ofNat32_toNat, show (1#32).toNat = 1 from rfl] at this
    simp only [W32] at this; omega
  · intro h; rw [h]
theorem even_of {la A : Nat} (hA : A < W32 ^ la) : ((n32 la A).getD 0 0#32 &&& 1#32 = 0#32) ↔ A % 2 = 0 := by
  rw [getD_n32 hA, word0]
  constructor
  · intro h
    have := congrArg BitVec.toNat h
    rw [ofNat32_toNat, show (0#32).toNat = 0 from rfl] at this
    simp only [W32] at this; omega
  · intro h; rw [h]
theorem one_of {a : Nat} (ha : a < W32 ^ 8) : ((n32 8 a).getD 0 0#32 = 1#32 ∧ a / W32 = 0) ↔ a = 1 := by
  rw [getD_n32 ha, Nat.pow_zero, Nat.div_one]
  constructor
  · rintro ⟨h, h0⟩
    have := congrArg BitVec.toNat h
    rw [ofNat32_toNat, show (1#32).toNat = 1 from rfl] at this
    simp only [W32] at *; omega
  · rintro rfl; exact ⟨rfl, by decide⟩
theorem n32_tail (a : Nat) : ((n32 8 a).drop 1).take (8 - 1) = n32 7 (a / W32) := rfl
theorem tail_lt {a : Nat} (ha : a < W32 ^ 8) : a / W32 < W32 ^ 7 := Nat.div_lt_of_lt_mul (by rw [← Nat.pow_succ']; exact ha)
theorem hlf_lt {p a k : Nat} (ha : a < W32 ^ 8) (hp : p < W32 ^ 8) : (if a % 2 = 1 then a + p else a) < W32 ^ 9 := by
  have h1 : 2 * W32 ^ 8 ≤ W32 ^ 9 := by
    rw [show (9 : Nat) = 8 + 1 from rfl, Nat.pow_succ, Nat.mul_comm]; exact Nat.mul_le_mul_left _ (by decide)
  split <;> omega
theorem cop_sub {a b : Nat} (hle : b ≤ a) (h : Nat.Coprime a b) : Nat.Coprime (a - b) b := by
  have h1 : Nat.gcd (a - b) b ∣ a := by
    have := Nat.dvd_add (Nat.gcd_dvd_left (a - b) b) (Nat.gcd_dvd_right (a - b) b)
    rwa [Nat.sub_add_cancel hle] at this
  have h2 : Nat.gcd (a - b) b ∣ Nat.gcd a b := Nat.dvd_gcd h1 (Nat.gcd_dvd_right _ _)
  rw [show Nat.gcd a b = 1 from h] at h2
  exact Nat.dvd_one.1 h2
theorem Good.g7 {m : Nat} (h : Good m) : W32 ^ 7 ≤ m := Nat.le_trans (by decide) h.ge
theorem Good.g8 {m : Nat} (h : Good m) : m < W32 ^ 8 := Nat.lt_of_lt_of_le h.lt (by decide)
theorem Good.odd {m : Nat} (h : Good m) : m % 2 = 1 := by
  have h1 := h.neg
  have h2 : m % 2 = 0 ∨ m % 2 = 1 := by omega
  rcases h2 with h2 | h2
  · obtain ⟨k, rfl⟩ : ∃ k, m = 2 * k := ⟨m / 2, by omega⟩
    rw [Nat.mul_left_comm] at h1
    omega
  · exact h2
/-- what the rounds keep -/
structure InvI (m x a b c d : Nat) : Prop where
  ua : c * x % m = a % m
  vb : d * x % m = b % m
  a0 : 0 < a
  b0 : 0 < b
  cop : Nat.Coprime a b
  al : a < W32 ^ 8
  bl : b < W32 ^ 8
  cl : c < m
  dl : d < m
section
variable {m x a b c d : Nat}
theorem half_cancel (hm : m % 2 = 1) {X Y : Nat} (h : 2 * X % m = 2 * Y % m) : X % m = Y % m := by
  obtain ⟨k, rfl⟩ : ∃ k, m = 2 * k + 1 := ⟨m / 2, by omega⟩
  have key : ∀ Z, (k + 1) * (2 * Z) % (2 * k + 1) = Z % (2 * k + 1) := fun Z => by
    rw [show (k + 1) * (2 * Z) = Z + (2 * k + 1) * Z by rw [Nat.add_mul, Nat.add_mul, Nat.one_mul, Nat.mul_left_comm, ← Nat.mul_assoc, Nat.one_mul]; omega]
    exact Nat.add_mul_mod_self_left _ _ _
  rw [← key X, ← key Y, ← Nat.mul_mod_mod, h, Nat.mul_mod_mod]
theorem hlf_twice (hm : m % 2 = 1) (c : Nat) : 2 * hlf m c % m = c % m := by
  rw [hlf]
  split
  · rw [show 2 * ((c + m) / 2) = c + m by omega, Nat.add_mod_right]
  · rw [show 2 * (c / 2) = c by omega]
theorem hlf_le (hm : m % 2 = 1) (hc : c < m) : hlf m c < m := by
  rw [hlf]; split <;> omega
theorem hlf_mul (hm : m % 2 = 1) (hae : a % 2 = 0) (h : c * x % m = a % m) : hlf m c * x % m = a / 2 % m := by
  refine half_cancel hm ?_
  rw [← Nat.mul_assoc, ← Nat.mod_mul_mod, hlf_twice hm, Nat.mod_mul_mod, h, show 2 * (a / 2) = a by omega]
theorem InvI.evenA (h : InvI m x a b c d) (hm : m % 2 = 1) (hae : a % 2 = 0) : InvI m x (a / 2) b (hlf m c) d :=
  { ua := hlf_mul hm hae h.ua, vb := h.vb, a0 := by have := h.a0; omega, b0 := h.b0, cop := Nat.Coprime.coprime_dvd_left ⟨2, by omega⟩ h.cop, al := Nat.lt_of_le_of_lt (Nat.div_le_self _ _) h.al, bl := h.bl, cl := hlf_le hm h.cl, dl := h.dl }
theorem InvI.evenB (h : InvI m x a b c d) (hm : m % 2 = 1) (hbe : b % 2 = 0) : InvI m x a (b / 2) c (hlf m d) :=
  { ua := h.ua, vb := hlf_mul hm hbe h.vb, a0 := h.a0, b0 := by have := h.b0; omega, cop := Nat.Coprime.coprime_dvd_right ⟨2, by omega⟩ h.cop, al := h.al, bl := Nat.lt_of_le_of_lt (Nat.div_le_self _ _) h.bl, cl := h.cl, dl := hlf_le hm h.dl }
theorem InvI.swap (h : InvI m x a b c d) : InvI m x b a d c :=
  { ua := h.vb, vb := h.ua, a0 := h.b0, b0 := h.a0, cop := h.cop.symm, al := h.bl, bl := h.al, cl := h.dl, dl := h.cl }
theorem InvI.ne (h : InvI m x a b c d) (h1 : a ≠ 1) : a ≠ b := by
  rintro rfl
  exact h1 ((Nat.gcd_self a).symm.trans h.cop)
theorem sub_mod' (hd : d < m) {X Y : Nat} (hXY : Y ≤ X) (hx : c * x % m = X % m) (hy : d * x % m = Y % m) : (c + (m - d)) % m * x % m = (X - Y) % m := by
  have hm : 0 < m := by omega
  rw [Nat.mod_mul_mod]
  have e : ((c + (m - d)) * x + d * x) % m = ((X - Y) + Y) % m := by
    rw [← Nat.add_mul, show c + (m - d) + d = c + m by omega, Nat.add_mul, Nat.add_mul_mod_self_left, hx, Nat.sub_add_cancel hXY]
  rw [Nat.add_mod, hy, ← Nat.add_mod] at e
  -- cancel Y
  have h1 : ((c + (m - d)) * x + Y + (m * Y + m - Y - (m * Y - m * Y))) % m = ((X - Y) + Y + (m * Y + m - Y - (m * Y - m * Y))) % m := by
    rw [Nat.add_mod, e, ← Nat.add_mod]
  have hle : Y ≤ m * Y + m := Nat.le_trans (Nat.le_mul_of_pos_left Y hm) (by omega)
  have e2 : ∀ Z, (Z + Y + (m * Y + m - Y - (m * Y - m * Y))) % m = Z % m := fun Z => by
    rw [Nat.sub_self, Nat.sub_zero, show Z + Y + (m * Y + m - Y) = Z + m + m * Y by omega, Nat.add_mul_mod_self_left, Nat.add_mod_right]
  rw [e2, e2] at h1
  exact h1
theorem InvI.sub (h : InvI m x a b c d) (hle : b ≤ a) (hne : a ≠ b) : InvI m x (a - b) b ((c + (m - d)) % m) d :=
  { ua := sub_mod' h.dl hle h.ua h.vb, vb := h.vb, a0 := by omega, b0 := h.b0, cop := cop_sub hle h.cop, al := Nat.lt_of_le_of_lt (Nat.sub_le _ _) h.al, bl := h.bl, cl := Nat.mod_lt _ (by have := h.dl; omega), dl := h.dl }
end
theorem InvI.start {m x : Nat} (hp : PrimeN m) (hx0 : 0 < x) (hx : x < m) (hm8 : m < W32 ^ 8) : InvI m x x m 1 0 :=
  { ua := by rw [Nat.one_mul], vb := by rw [Nat.zero_mul, Nat.mod_self, Nat.zero_mod], a0 := hx0, b0 := by omega, cop := (hp.coprime (fun h => by have := Nat.le_of_dvd hx0 h; omega)).symm, al := by omega, bl := hm8, cl := by have := hp.1; omega, dl := by omega }
theorem InvI.done {m g : Nat} [NeZero m] (hg : Gen m g) {x : Fin m} {b c d : Nat} (h : InvI m x.val 1 b c d) : c = (finv x).val := by
  have h2 := hg.two
  have e : x * (⟨c, h.cl⟩ : Fin m) = 1 := by
    apply Fin.ext
    rw [Fin.val_mul, Nat.mul_comm, val1]
    exact h.ua
  rw [finv_of hg e]
end Go.Proofs.YtjhjjhpfjadjpaaDoor

namespace Go.Proofs.YtjhjjhpfjadjpaaDoor
set_option linter.all false
open Go
def swapL (s : Lad) : Lad := ⟨s.x3, s.z3, s.x2, s.z2, 0⟩
def keepL (s : Lad) : Lad := ⟨s.x2, s.z2, s.x3, s.z3, 0⟩
/-- a round of the reference -/
def refStep (u : Fp) (b : Nat) (s : Lad) : Lad := if b = 1 then swapL (rung u 0 s.x3 s.z3 s.x2 s.z2) else keepL (rung u 0 s.x2 s.z2 s.x3 s.z3)
def refS (n : Nat) (u : Fp) : Nat → Lad
  | 0 => ⟨1, 0, u, 1, 0⟩
  | j + 1 => refStep u (n / 2 ^ (254 - j) % 2) (refS n u j)
theorem refS_0 (n : Nat) (u : Fp) : refS n u (255 - 255) = ⟨1, 0, u, 1, 0⟩ := rfl
theorem refS_00 (n : Nat) (u : Fp) : refS n u 0 = ⟨1, 0, u, 1, 0⟩ := rfl
theorem refS_next (n : Nat) (u : Fp) {j : Nat} (h : j + 1 ≤ 255) : refS n u (255 - j) = refStep u (n / 2 ^ j % 2) (refS n u (255 - (j + 1))) := by
  rw [show 255 - j = (255 - (j + 1)) + 1 by omega, refS, show 254 - (255 - (j + 1)) = j by omega]
theorem bit_one {b : Nat} (hb : b ≤ 1) (h : BitVec.ofNat 32 b = 1#32) : b = 1 := by
  have := congrArg BitVec.toNat h
  rw [BitVec.toNat_ofNat, show (1#32).toNat = 1 from rfl] at this; omega
theorem refStep1 {u : Fp} {b : Nat} {s : Lad} (hb : b ≤ 1) (h : BitVec.ofNat 32 b = 1#32) : refStep u b s = swapL (rung u 0 s.x3 s.z3 s.x2 s.z2) := if_pos (bit_one hb h)
theorem refStep0 {u : Fp} {b : Nat} {s : Lad} (h : ¬ BitVec.ofNat 32 b = 1#32) : refStep u b s = keepL (rung u 0 s.x2 s.z2 s.x3 s.z3) := if_neg fun e => h (by rw [e])
/-- the program's state, put in order -/
def inOrder (s : Lad) : Lad := if s.sw = 1 then swapL s else keepL s
theorem order_step (u : Fp) (b : Nat) (s : Lad) (hb : b ≤ 1) (hs : s.sw ≤ 1) : inOrder (ladStep u b s) = refStep u b (inOrder s) := by
  have hb' : b = 0 ∨ b = 1 := by omega
  have hs' : s.sw = 0 ∨ s.sw = 1 := by omega
  rcases hb' with rfl | rfl <;> rcases hs' with h | h <;> simp [ladStep, inOrder, refStep, h, rung, swapL, keepL]
theorem order_all (n : Nat) (u : Fp) : ∀ j, inOrder (ladS n u j) = refS n u j
  | 0 => rfl
  | j + 1 => by rw [ladS, refS, order_step _ _ _ (by omega) (ladS_sw n u j), order_all n u j]
/-- THE REFERENCE's product is the ladder's -/
theorem ladder_ref (n : Nat) (u : Fp) : (refS n u 255).x2 * finv (refS n u 255).z2 = ladder n u := by
  rw [← order_all, ladder, inOrder]
  split <;> rfl
end Go.Proofs.YtjhjjhpfjadjpaaDoor
