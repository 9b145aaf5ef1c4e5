/- Numbers as bytes, as words, as bits. Small facts for the walks of package mont. Models of key agreement: the ladder. -/
import Derived.Test.YtjhjjhpfjadjpaaDoorMZ
namespace Go.Proofs.YtjhjjhpfjadjpaaDoor
set_option linter.all false
open Go
/-- bytes as a number, the highest first -/
def beN : List (BitVec 8) → Nat
  | [] => 0
  | x :: r => x.toNat * 256 ^ r.length + beN r
/-- a number as k bytes, the highest first -/
def beB : Nat → Nat → List (BitVec 8)
  | 0, _ => []
  | k + 1, n => BitVec.ofNat 8 (n / 256 ^ k) :: beB k n
@[simp] theorem length_beB : ∀ k n, (beB k n).length = k
  | 0, _ => rfl
  | k + 1, n => by simp [beB, length_beB k]
theorem beN_lt : ∀ l : List (BitVec 8), beN l < 256 ^ l.length
  | [] => by decide
  | x :: r => by
    have h := beN_lt r; have hx := x.isLt
    rw [beN, List.length_cons, Nat.pow_succ]
    have : x.toNat * 256 ^ r.length ≤ 255 * 256 ^ r.length := Nat.mul_le_mul_right _ (by omega)
    omega
theorem beN_append : ∀ a b : List (BitVec 8), beN (a ++ b) = beN a * 256 ^ b.length + beN b
  | [], b => by simp [beN]
  | x :: r, b => by
    rw [List.cons_append, beN, beN, beN_append r b, List.length_append, Nat.pow_add, Nat.add_mul, Nat.mul_assoc]; omega
theorem beN_snoc (a : List (BitVec 8)) (x : BitVec 8) : beN (a ++ [x]) = beN a * 256 + x.toNat := by
  rw [beN_append]; simp [beN]
theorem beB_add : ∀ (k n c : Nat), beB k (n + 256 ^ k * c) = beB k n
  | 0, _, _ => rfl
  | k + 1, n, c => by
    rw [beB, beB, Nat.pow_succ, Nat.mul_assoc, beB_add k n (256 * c)]
    congr 1
    apply BitVec.eq_of_toNat_eq
    rw [BitVec.toNat_ofNat, BitVec.toNat_ofNat, Nat.add_mul_div_left _ _ (Nat.pow_pos (by decide))]
    omega
theorem beB_beN : ∀ l : List (BitVec 8), beB l.length (beN l) = l
  | [] => rfl
  | x :: r => by
    have h := beN_lt r
    rw [List.length_cons, beB, beN]
    have e1 : (x.toNat * 256 ^ r.length + beN r) / 256 ^ r.length = x.toNat := by
      rw [Nat.add_comm, Nat.add_mul_div_right _ _ (Nat.pow_pos (by decide)), Nat.div_eq_of_lt h, Nat.zero_add]
    rw [e1, Nat.add_comm, Nat.mul_comm, beB_add, beB_beN r]
    simp
theorem beN_beB : ∀ k n, beN (beB k n) = n % 256 ^ k
  | 0, n => by rw [beB, beN, Nat.pow_zero, Nat.mod_one]
  | k + 1, n => by
    have h := Nat.mod_mul (x := n) (a := 256 ^ k) (b := 256)
    rw [← Nat.pow_succ] at h
    rw [h, beB, beN, length_beB, beN_beB k n, BitVec.toNat_ofNat, Nat.mul_comm, Nat.add_comm]
theorem getD_beB : ∀ (k n i : Nat), i < k → (beB k n).getD i 0#8 = BitVec.ofNat 8 (n / 256 ^ (k - 1 - i))
  | 0, _, _, h => by omega
  | k + 1, n, 0, _ => by simp [beB]
  | k + 1, n, i + 1, h => by
    rw [beB, List.getD_cons_succ, getD_beB k n i (by omega)]
    congr 3; omega
theorem ext_getD {n : Nat} {a b : List (BitVec n)} (hl : a.length = b.length) (h : ∀ i, i < a.length → a.getD i 0#n = b.getD i 0#n) : a = b := by
  apply List.ext_getElem hl
  intro i h1 h2
  have := h i h1
  simpa [List.getD, h1, h2] using this
/-! ### words -/
theorem getD_w64 : ∀ (k n i : Nat), i < k → (w64 k n).getD i 0#64 = BitVec.ofNat 64 (n / 18446744073709551616 ^ i)
  | 0, _, _, h => by omega
  | k + 1, n, 0, _ => by simp [w64]
  | k + 1, n, i + 1, h => by
    rw [w64, List.getD_cons_succ, getD_w64 k _ i (by omega), Nat.div_div_eq_div_mul, ← Nat.pow_succ']
theorem toNat_w64 (k n i : Nat) (h : i < k) : ((w64 k n).getD i 0#64).toNat = n / 18446744073709551616 ^ i % 18446744073709551616 := by
  rw [getD_w64 k n i h, BitVec.toNat_ofNat]
theorem getD_set {α : Type} (l : List α) (i j : Nat) (a d : α) (h : i < l.length) : (l.set i a).getD j d = if i = j then a else l.getD j d := by
  simp only [List.getD, List.getElem?_set]
  split
  · rename_i e; subst e; simp [h]
  · rfl
theorem pow64 (i : Nat) : 18446744073709551616 ^ i = 2 ^ (64 * i) := by rw [Nat.pow_mul]
theorem pow256 (i : Nat) : 256 ^ i = 2 ^ (8 * i) := by rw [Nat.pow_mul]
/-- a bit of a number of four words -/
theorem bit_w64 {n i : Nat} (h : i < 256) : ((w64 4 n).getD (i / 64) 0#64 >>> (i % 64)) &&& 1#64 = BitVec.ofNat 64 (n / 2 ^ i % 2) := by
  apply BitVec.eq_of_toNat_eq
  rw [BitVec.toNat_and, BitVec.toNat_ushiftRight, toNat_w64 4 n _ (by omega), show (1#64).toNat = 2 ^ 1 - 1 from rfl, Nat.and_two_pow_sub_one_eq_mod, Nat.shiftRight_eq_div_pow, BitVec.toNat_ofNat, pow64]
  have e1 : n / 2 ^ (64 * (i / 64)) % 18446744073709551616 / 2 ^ (i % 64) % 2 = n / 2 ^ (64 * (i / 64)) / 2 ^ (i % 64) % 2 := by
    have : (18446744073709551616 : Nat) = 2 ^ (i % 64) * 2 ^ (64 - i % 64) := by rw [← Nat.pow_add]; rw [show i % 64 + (64 - i % 64) = 64 by omega]
    rw [this, Nat.mod_mul_right_div_self]
    have h2 : (2 : Nat) ∣ 2 ^ (64 - i % 64) := ⟨2 ^ (64 - i % 64 - 1), by rw [← Nat.pow_succ']; congr 1; omega⟩
    exact Nat.mod_mod_of_dvd _ h2
  have e2 : n / 2 ^ (64 * (i / 64)) / 2 ^ (i % 64) = n / 2 ^ i := by
    rw [Nat.div_div_eq_div_mul, ← Nat.pow_add, show 64 * (i / 64) + i % 64 = i by omega]
  rw [show (2:Nat) ^ 1 = 2 from rfl, e1, e2]
  omega
/-- a byte of a number of four words -/
theorem byte_w64 {n k : Nat} (h : k < 32) : ((w64 4 n).getD (k / 8) 0#64 >>> (8 * (k % 8))).setWidth 8 = BitVec.ofNat 8 (n / 256 ^ k) := by
  apply BitVec.eq_of_toNat_eq
  rw [BitVec.toNat_setWidth, BitVec.toNat_ushiftRight, toNat_w64 4 n _ (by omega), Nat.shiftRight_eq_div_pow, BitVec.toNat_ofNat, pow64, pow256]
  have e1 : n / 2 ^ (64 * (k / 8)) % 18446744073709551616 / 2 ^ (8 * (k % 8)) % 2 ^ 8 = n / 2 ^ (64 * (k / 8)) / 2 ^ (8 * (k % 8)) % 2 ^ 8 := by
    have : (18446744073709551616 : Nat) = 2 ^ (8 * (k % 8)) * 2 ^ (64 - 8 * (k % 8)) := by rw [← Nat.pow_add]; rw [show 8 * (k % 8) + (64 - 8 * (k % 8)) = 64 by omega]
    rw [this, Nat.mod_mul_right_div_self]
    have h2 : 2 ^ 8 ∣ 2 ^ (64 - 8 * (k % 8)) := ⟨2 ^ (64 - 8 * (k % 8) - 8), by rw [← Nat.pow_add]; congr 1; omega⟩
    exact Nat.mod_mod_of_dvd _ h2
  rw [e1, Nat.div_div_eq_div_mul, ← Nat.pow_add, show 64 * (k / 8) + 8 * (k % 8) = 8 * k by omega]
theorem w64_ext {l : List (BitVec 64)} {n : Nat} (hl : l.length = 4) (h : ∀ i, i < 4 → (l.getD i 0#64).toNat = n / 18446744073709551616 ^ i % 18446744073709551616) : l = w64 4 n := by
  refine ext_getD (by rw [hl, length_w64]) fun i hi => ?_
  apply BitVec.eq_of_toNat_eq
  rw [toNat_w64 4 n i (by omega)]
  exact h i (by omega)
/-- a byte laid into a number of four words -/
theorem setByte {X k : Nat} {x : BitVec 8} (hk : k < 32) (hX : X % 256 ^ (k + 1) = 0) :
    (w64 4 X).set (k / 8) ((w64 4 X).getD (k / 8) 0#64 ||| (x.setWidth 64) <<< (8 * (k % 8))) = w64 4 (X + x.toNat * 256 ^ k) := by
  have hx := x.isLt
  have hj : k / 8 < 4 := by omega
  obtain ⟨Y, hY⟩ : ∃ Y, X = 256 ^ (k + 1) * Y := ⟨X / 256 ^ (k + 1), by rw [Nat.mul_comm]; exact (Nat.div_mul_cancel (Nat.dvd_of_mod_eq_zero hX)).symm⟩
  have hp : 256 ^ (k + 1) = 18446744073709551616 ^ (k / 8) * 2 ^ (8 * (k % 8) + 8) := by
    rw [pow256, pow64, ← Nat.pow_add]; congr 1; omega
  have hp2 : 256 ^ k = 18446744073709551616 ^ (k / 8) * 2 ^ (8 * (k % 8)) := by
    rw [pow256, pow64, ← Nat.pow_add]; congr 1; omega
  have hpos : 0 < 18446744073709551616 ^ (k / 8) := Nat.pow_pos (by decide)
  -- the word
  have hw : X / 18446744073709551616 ^ (k / 8) = 2 ^ (8 * (k % 8) + 8) * Y := by
    rw [hY, hp, Nat.mul_assoc, Nat.mul_div_cancel_left _ hpos]
  have hs : (X + x.toNat * 256 ^ k) / 18446744073709551616 ^ (k / 8) = 2 ^ (8 * (k % 8) + 8) * Y + x.toNat * 2 ^ (8 * (k % 8)) := by
    rw [hY, hp, hp2, Nat.mul_assoc, Nat.mul_left_comm x.toNat, ← Nat.mul_add, Nat.mul_div_cancel_left _ hpos]
  have hxs : x.toNat * 2 ^ (8 * (k % 8)) < 2 ^ (8 * (k % 8) + 8) := by
    rw [Nat.pow_add, Nat.mul_comm]; exact Nat.mul_lt_mul_of_pos_left hx (Nat.pow_pos (by decide))
  have h64 : (18446744073709551616 : Nat) = 2 ^ (8 * (k % 8) + 8) * 2 ^ (56 - 8 * (k % 8)) := by rw [← Nat.pow_add, show 8 * (k % 8) + 8 + (56 - 8 * (k % 8)) = 64 by omega]
  refine w64_ext (by rw [List.length_set, length_w64]) fun i hi => ?_
  rw [getD_set _ _ _ _ _ (by rw [length_w64]; exact hj)]
  by_cases e : k / 8 = i
  · subst e
    rw [if_pos rfl, BitVec.toNat_or, toNat_w64 4 X _ hj, BitVec.toNat_shiftLeft, BitVec.toNat_setWidth, Nat.shiftLeft_eq, hs, hw]
    rw [Nat.mod_eq_of_lt (by omega : x.toNat < 2 ^ 64), Nat.mod_eq_of_lt (a := x.toNat * 2 ^ (8 * (k % 8))) (by
      refine Nat.lt_of_lt_of_le hxs (Nat.pow_le_pow_right (by decide) (by omega)))]
    have e1 : 2 ^ (8 * (k % 8) + 8) * Y % 18446744073709551616 = 2 ^ (8 * (k % 8) + 8) * (Y % 2 ^ (56 - 8 * (k % 8))) := by rw [h64, Nat.mul_mod_mul_left]
    rw [e1, ← Nat.two_pow_add_eq_or_of_lt hxs]
    rw [Nat.add_mod, e1, Nat.mod_eq_of_lt (a := x.toNat * 2 ^ (8 * (k % 8))) (by
      refine Nat.lt_of_lt_of_le hxs (Nat.pow_le_pow_right (n := 2) (by decide) (by omega : 8 * (k % 8) + 8 ≤ 64)))]
    refine (Nat.mod_eq_of_lt ?_).symm
    have hym : Y % 2 ^ (56 - 8 * (k % 8)) < 2 ^ (56 - 8 * (k % 8)) := Nat.mod_lt _ (Nat.pow_pos (by decide))
    have : 2 ^ (8 * (k % 8) + 8) * (Y % 2 ^ (56 - 8 * (k % 8)) + 1) ≤ 18446744073709551616 := by
      rw [h64]; exact Nat.mul_le_mul_left _ hym
    rw [Nat.mul_add, Nat.mul_one] at this
    exact Nat.lt_of_lt_of_le (Nat.add_lt_add_left hxs _) this
  · rw [if_neg e, toNat_w64 4 X i hi]
    by_cases hlt : i < k / 8
    · obtain ⟨r, hr⟩ : ∃ r, k / 8 = i + 1 + r := ⟨k / 8 - (i + 1), by omega⟩
      have hq : 256 ^ k = 18446744073709551616 ^ i * (18446744073709551616 * (18446744073709551616 ^ r * 2 ^ (8 * (k % 8)))) := by
        rw [hp2, hr, Nat.pow_add, Nat.pow_succ, Nat.mul_assoc, Nat.mul_assoc]
      rw [hq, Nat.mul_left_comm, Nat.add_mul_div_left _ _ (Nat.pow_pos (by decide)), Nat.mul_left_comm, Nat.add_mul_mod_self_left]
    · congr 1
      have hgt : k + 1 ≤ 8 * i := by omega
      have hd : 18446744073709551616 ^ i = 256 ^ (k + 1) * 256 ^ (8 * i - (k + 1)) := by
        rw [← Nat.pow_add, show k + 1 + (8 * i - (k + 1)) = 8 * i by omega, pow64, pow256]; congr 1; omega
      rw [hd, ← Nat.div_div_eq_div_mul, ← Nat.div_div_eq_div_mul]
      congr 1
      rw [hY, Nat.mul_comm (256 ^ (k + 1)) Y, Nat.mul_div_cancel _ (Nat.pow_pos (by decide)), Nat.add_comm, Nat.add_mul_div_right _ _ (Nat.pow_pos (by decide)), Nat.div_eq_of_lt, Nat.zero_add]
      rw [Nat.pow_succ, Nat.mul_comm]; exact Nat.mul_lt_mul_of_pos_left hx (Nat.pow_pos (by decide))
end Go.Proofs.YtjhjjhpfjadjpaaDoor

namespace Go.Proofs.YtjhjjhpfjadjpaaDoor
set_option linter.all false
open Go
theorem mulA_fold (t b : List (BitVec 64)) (x : BitVec 64) : ((ln t b x 4).1.set 4 (adcS (t.getD 4 0#64) (ln t b x 4).2 0#64)).set 5 (adcC (t.getD 4 0#64) (ln t b x 4).2 0#64) = mulA t b x := rfl
theorem mulB_fold (t mm : List (BitVec 64)) (x : BitVec 64) : ((ln t mm x 4).1.set 4 (adcS (t.getD 4 0#64) (ln t mm x 4).2 0#64)).set 5 (t.getD 5 0#64 + adcC (t.getD 4 0#64) (ln t mm x 4).2 0#64) = mulB t mm x := rfl
theorem mulD_fold (t : List (BitVec 64)) : (over t (0 + 0 * 1) (List.take (min (6 - 1) (5 - 0)) (List.take (6 - 1) (List.drop (0 + 1 * 1) t)))).set 5 0#64 = mulD t := by
  show (over t 0 (List.take 5 (List.take 5 (List.drop 1 t)))).set 5 0#64 = mulD t
  rw [List.take_take]; rfl
theorem mulT_fold (mm : List (BitVec 64)) (neg : BitVec 64) (a b : List (BitVec 64)) (i : Nat) : mulD (mulB (mulA (mulT mm neg a b i) b (a.getD i 0#64)) mm ((mulA (mulT mm neg a b i) b (a.getD i 0#64)).getD 0 0#64 * neg)) = mulT mm neg a b (i + 1) := rfl
theorem dn_succ (j : Nat) : (((j + 1 : Nat) : Int) - 1) = (j : Nat) := by omega
theorem small_w {n : Nat} (h : n < 18446744073709551616) : [BitVec.ofNat 64 n, 0#64, 0#64, 0#64] = w64 4 n := by
  have e : n / 18446744073709551616 = 0 := Nat.div_eq_of_lt h
  simp [w64, e]
theorem bit1 {a : Nat} (h : BitVec.ofNat 64 (a % 2) = 1#64) : a % 2 = 1 := by
  have := congrArg BitVec.toNat h
  rw [BitVec.toNat_ofNat, BitVec.toNat_ofNat] at this; omega
theorem bit0 {a : Nat} (h : ¬ BitVec.ofNat 64 (a % 2) = 1#64) : a % 2 = 0 := by
  have : a % 2 ≠ 1 := fun e => h (by rw [e])
  omega
theorem half_step (n j : Nat) : n / 2 ^ j = 2 * (n / 2 ^ (j + 1)) + n / 2 ^ j % 2 := by
  rw [Nat.pow_succ, ← Nat.div_div_eq_div_mul]; omega
section
variable {m : Nat} [NeZero m]
theorem powE1 (x : Fin m) (n j : Nat) (h : n / 2 ^ j % 2 = 1) : El (x ^ (n / 2 ^ (j + 1)) * x ^ (n / 2 ^ (j + 1)) * x) = El (x ^ (n / 2 ^ j)) := by
  rw [half_step n j, h, fpow_succ, Nat.two_mul, fpow_add]
theorem powE0 (x : Fin m) (n j : Nat) (h : n / 2 ^ j % 2 = 0) : El (x ^ (n / 2 ^ (j + 1)) * x ^ (n / 2 ^ (j + 1))) = El (x ^ (n / 2 ^ j)) := by
  have e : n / 2 ^ j = n / 2 ^ (j + 1) + n / 2 ^ (j + 1) := by rw [half_step n j, h]; omega
  rw [e, fpow_add]
theorem powE_start (x : Fin m) {n : Nat} (h : n < R256) : El (1 : Fin m) = El (x ^ (n / 2 ^ 256)) := by
  rw [Nat.div_eq_of_lt (Nat.lt_of_lt_of_eq h (by decide)), fpow_zero]
theorem ofNat_add' (a b : Nat) : Fin.ofNat m (a + b) = Fin.ofNat m a + Fin.ofNat m b := by
  apply Fin.ext; simp [Fin.val_add, Fin.ofNat, Nat.add_mod]
theorem ofNat_mul' (a b : Nat) : Fin.ofNat m (a * b) = Fin.ofNat m a * Fin.ofNat m b := by
  apply Fin.ext; simp [Fin.val_mul, Fin.ofNat, Nat.mul_mod]
theorem ofNat_one' : Fin.ofNat m 1 = 1 := rfl
theorem ofNat_val (x : Fin m) : Fin.ofNat m x.val = x := Fin.ext (Nat.mod_eq_of_lt x.isLt)
theorem dblE1 (n j : Nat) (h : n / 2 ^ j % 2 = 1) : El (Fin.ofNat m (n / 2 ^ (j + 1)) + Fin.ofNat m (n / 2 ^ (j + 1)) + 1) = El (Fin.ofNat m (n / 2 ^ j)) := by
  rw [half_step n j, h, ofNat_add', Nat.two_mul, ofNat_add', ofNat_one']
theorem dblE0 (n j : Nat) (h : n / 2 ^ j % 2 = 0) : El (Fin.ofNat m (n / 2 ^ (j + 1)) + Fin.ofNat m (n / 2 ^ (j + 1))) = El (Fin.ofNat m (n / 2 ^ j)) := by
  have e : n / 2 ^ j = n / 2 ^ (j + 1) + n / 2 ^ (j + 1) := by rw [half_step n j, h]; omega
  rw [e, ofNat_add']
theorem El_zeroL : ([0#64, 0#64, 0#64, 0#64] : List (BitVec 64)) = El (0 : Fin m) := by rw [El_zero]; rfl
theorem fneg_sub (x : Fin m) : (0 : Fin m) - x = -x := by grind
theorem El_zero4 : List.replicate 4 0#64 = El (0 : Fin m) := by rw [El_zero]; rfl
theorem dblE_start {n : Nat} (h : n < R256) : List.replicate 4 0#64 = El (Fin.ofNat m (n / 2 ^ 256)) := by
  rw [Nat.div_eq_of_lt (Nat.lt_of_lt_of_eq h (by decide))]; exact El_zero4
end
theorem less_eq {a b : List (BitVec 64)} (ha : a.length = 4) (hb : b.length = 4) : decide (minC a b 4 = 1#64) = decide (nw a < nw b) := by
  rw [minC_eq ha hb]
  by_cases h : nw a < nw b
  · rw [if_pos h]; simp [h]
  · rw [if_neg h]; simp [h]
theorem min_two {m : Nat} [NeZero m] (h : Good m) : minS (w64 4 m) [2#64, 0#64, 0#64, 0#64] 4 = w64 4 (m - 2) := by
  have s1 := min_law (a := w64 4 m) (b := [2#64, 0#64, 0#64, 0#64]) (length_w64 4 m) rfl
  have c1 := minC_eq (a := w64 4 m) (b := [2#64, 0#64, 0#64, 0#64]) (length_w64 4 m) rfl
  have e2 : nw [2#64, 0#64, 0#64, 0#64] = 2 := by decide
  have hg := h.ge
  rw [e2] at s1 c1
  rw [nw_m h] at s1 c1
  rw [if_neg (by omega)] at c1
  rw [c1] at s1
  have hz : (0#64).toNat = 0 := rfl
  rw [hz] at s1
  exact w64_of (length_minS _ _ _) (by omega)
theorem plus_one {n : Nat} (h : n + 1 < R256) : plusS (w64 4 n) [1#64, 0#64, 0#64, 0#64] 4 = w64 4 (n + 1) := by
  have s1 := plus_law (a := w64 4 n) (b := [1#64, 0#64, 0#64, 0#64]) (length_w64 4 n) rfl
  have c1 := plusC_eq (a := w64 4 n) (b := [1#64, 0#64, 0#64, 0#64]) (length_w64 4 n) rfl
  have e2 : nw [1#64, 0#64, 0#64, 0#64] = 1 := by decide
  rw [e2, nw4 (by omega)] at s1 c1
  rw [if_neg (by omega)] at c1
  rw [c1] at s1
  have hz : (0#64).toNat = 0 := rfl
  rw [hz] at s1
  exact w64_of (length_plusS _ _ _) (by omega)
/-! ### bytes into words, words into bytes -/
theorem fb_start (q : List (BitVec 8)) : List.replicate 4 0#64 = w64 4 (beN (q.take 0) * 256 ^ (q.length - 0)) := by
  rw [List.take_zero, beN, Nat.zero_mul]; rfl
theorem fb_step {q : List (BitVec 8)} (hq : q.length ≤ 32) {i : Nat} (hi : i < q.length) :
    (w64 4 (beN (q.take i) * 256 ^ (q.length - i))).set ((q.length - 1 - i) / 8) ((w64 4 (beN (q.take i) * 256 ^ (q.length - i))).getD ((q.length - 1 - i) / 8) 0#64 ||| ((q.getD i 0#8).setWidth 64) <<< (8 * ((q.length - 1 - i) % 8))) = w64 4 (beN (q.take (i + 1)) * 256 ^ (q.length - (i + 1))) := by
  have hk : q.length - i = (q.length - 1 - i) + 1 := by omega
  rw [setByte (by omega) (by rw [← hk, Nat.mul_mod_left])]
  congr 1
  have ht : q.take (i + 1) = q.take i ++ [q.getD i 0#8] := by
    rw [List.take_succ]; simp [List.getD, hi]
  rw [ht, beN_snoc, show q.length - (i + 1) = q.length - 1 - i by omega]
  rw [hk, Nat.pow_succ, Nat.add_mul, ← Nat.mul_assoc, Nat.mul_right_comm]
def bW (n i : Nat) : List (BitVec 8) := (beB 32 n).take i ++ List.replicate (32 - i) 0#8
@[simp] theorem length_bW {n i : Nat} (h : i ≤ 32) : (bW n i).length = 32 := by simp [bW]; omega
theorem bW_zero (n : Nat) : List.replicate 32 0#8 = bW n 0 := by simp [bW]
theorem bW_all (n : Nat) : bW n 32 = beB 32 n := by simp [bW, List.take_of_length_le]
theorem bW_step {n i : Nat} (hi : i < 32) : (bW n i).set i (((w64 4 n).getD ((31 - i) / 8) 0#64 >>> (8 * ((31 - i) % 8))).setWidth 8) = bW n (i + 1) := by
  rw [byte_w64 (by omega)]
  refine ext_getD (by rw [List.length_set, length_bW (by omega), length_bW (by omega)]) fun j hj => ?_
  rw [List.length_set, length_bW (by omega)] at hj
  rw [getD_set _ _ _ _ _ (by rw [length_bW (by omega)]; exact hi)]
  have g1 : ∀ k j, k ≤ 32 → j < 32 → (bW n k).getD j 0#8 = if j < k then BitVec.ofNat 8 (n / 256 ^ (31 - j)) else 0#8 := by
    intro k j hk hj
    have := getD_beB 32 n j hj
    rw [bW]
    by_cases h : j < k
    · rw [if_pos h, ← this]
      simp only [List.getD, List.getElem?_append, List.length_take, length_beB]
      rw [if_pos (by omega), List.getElem?_take, if_pos h]
    · rw [if_neg h]
      simp only [List.getD, List.getElem?_append, List.length_take, length_beB]
      rw [if_neg (by omega), List.getElem?_replicate]
      split <;> rfl
  rw [g1 _ _ (by omega) hj, g1 _ _ (by omega) hj]
  by_cases e : i = j
  · subst e; rw [if_pos rfl, if_pos (by omega)]
  · rw [if_neg e]
    by_cases h : j < i
    · rw [if_pos h, if_pos (by omega)]
    · rw [if_neg h, if_neg (by omega)]
/-! ### a number shifted down by a bit -/
def shW (l : List (BitVec 64)) : Nat → List (BitVec 64)
  | 0 => l
  | i + 1 => let a := (shW l i).set i ((shW l i).getD i 0#64 >>> 1)
    if i < 3 then a.set i (a.getD i 0#64 ||| a.getD (i + 1) 0#64 <<< 63) else a
@[simp] theorem length_shW (l : List (BitVec 64)) : ∀ i, (shW l i).length = l.length
  | 0 => rfl
  | i + 1 => by simp only [shW]; split <;> simp [length_shW l i]
theorem shr_or (a b : BitVec 64) : (a >>> 1 ||| b <<< 63).toNat = a.toNat / 2 + (b.toNat % 2) * 9223372036854775808 := by
  rw [BitVec.toNat_or, BitVec.toNat_ushiftRight, BitVec.toNat_shiftLeft, Nat.shiftRight_eq_div_pow, Nat.shiftLeft_eq]
  have e : b.toNat * 2 ^ 63 % 2 ^ 64 = 2 ^ 63 * (b.toNat % 2) := by
    rw [Nat.mul_comm, show (2 : Nat) ^ 64 = 2 ^ 63 * 2 from rfl, Nat.mul_mod_mul_left]
  have hlt : a.toNat / 2 ^ 1 < 2 ^ 63 := by have := a.isLt; omega
  rw [e, Nat.or_comm, ← Nat.two_pow_add_eq_or_of_lt hlt]
  omega
theorem shW_law (n : Nat) (hn : n < R256) : shW (w64 4 n) 4 = w64 4 (n / 2) := by
  obtain ⟨a, b, c, d, h⟩ := list4 (length_w64 4 n)
  have hv := nw4 hn
  rw [h] at hv ⊢
  show [a >>> 1 ||| b <<< 63, b >>> 1 ||| c <<< 63, c >>> 1 ||| d <<< 63, d >>> 1] = _
  refine w64_of rfl ?_
  have h1 := shr_or a b
  have h2 := shr_or b c
  have h3 := shr_or c d
  have h4 : (d >>> 1).toNat = d.toNat / 2 := by rw [BitVec.toNat_ushiftRight, Nat.shiftRight_eq_div_pow]
  simp only [nw] at hv ⊢
  rw [h1, h2, h3, h4]
  have := a.isLt; have := b.isLt; have := c.isLt; have := d.isLt
  omega
/-! ### turning a list round in its place -/
def revW (q : List (BitVec 8)) : Nat → List (BitVec 8)
  | 0 => q
  | k + 1 => ((revW q k).set k ((revW q k).getD (q.length - 1 - k) 0#8)).set (q.length - 1 - k) ((revW q k).getD k 0#8)
@[simp] theorem length_revW (q : List (BitVec 8)) : ∀ k, (revW q k).length = q.length
  | 0 => rfl
  | k + 1 => by simp [revW, length_revW q k]
theorem getD_revW (q : List (BitVec 8)) : ∀ k, 2 * k ≤ q.length → ∀ i, i < q.length → (revW q k).getD i 0#8 = if i < k ∨ q.length - 1 - i < k then q.getD (q.length - 1 - i) 0#8 else q.getD i 0#8
  | 0, _, i, hi => by rw [if_neg (by omega)]; rfl
  | k + 1, hk, i, hi => by
    have ih := getD_revW q k (by omega)
    rw [revW, getD_set _ _ _ _ _ (by simp; omega), getD_set _ _ _ _ _ (by simp; omega)]
    by_cases h1 : q.length - 1 - k = i
    · subst h1
      rw [if_pos rfl, if_pos (by omega), ih k (by omega), if_neg (by omega)]
      congr 1; omega
    · rw [if_neg h1]
      by_cases h2 : k = i
      · subst h2
        rw [if_pos rfl, if_pos (by omega), ih _ (by omega), if_neg (by omega)]
      · rw [if_neg h2, ih i hi]
        by_cases h3 : i < k ∨ q.length - 1 - i < k
        · rw [if_pos h3, if_pos (by omega)]
        · rw [if_neg h3, if_neg (by omega)]
theorem revW_all {q : List (BitVec 8)} {k : Nat} (h1 : 2 * k ≤ q.length) (h2 : q.length ≤ 2 * k + 1) : revW q k = q.reverse := by
  refine ext_getD (by simp) fun i hi => ?_
  rw [length_revW] at hi
  rw [getD_revW q k h1 i hi]
  have e : q.reverse.getD i 0#8 = q.getD (q.length - 1 - i) 0#8 := by
    simp only [List.getD, List.getElem?_reverse hi]
  rw [e]
  split
  · rfl
  · congr 1; omega
/-! ### numbers, the lowest byte first -/
/-- a private key as a number's bytes -/
def clampB (q : List (BitVec 8)) : List (BitVec 8) := (q.set 0 (q.getD 0 0#8 &&& 248#8)).set 31 (((q.set 0 (q.getD 0 0#8 &&& 248#8)).getD 31 0#8 &&& 127#8) ||| 64#8)
@[simp] theorem length_clampB (q : List (BitVec 8)) : (clampB q).length = q.length := by simp [clampB]
def leN (q : List (BitVec 8)) : Nat := beN q.reverse
def leB (k n : Nat) : List (BitVec 8) := (beB k n).reverse
@[simp] theorem length_leB (k n : Nat) : (leB k n).length = k := by simp [leB]
theorem leN_lt (q : List (BitVec 8)) : leN q < 256 ^ q.length := by
  have := beN_lt q.reverse; rwa [List.length_reverse] at this
/-! ### roots -/
def fsqrt (a : Fp) : Fp × Bool :=
  let r := if a ^ ((pP + 3) / 8) * a ^ ((pP + 3) / 8) = a then a ^ ((pP + 3) / 8) else a ^ ((pP + 3) / 8) * 2 ^ ((pP - 1) / 4)
  if r * r = a then (if r.val % 2 = 1 then -r else r, true) else (0, false)
end Go.Proofs.YtjhjjhpfjadjpaaDoor

namespace Go.Proofs.YtjhjjhpfjadjpaaDoor
set_option linter.all false
open Go
abbrev fN (n : Nat) : Fp := Fin.ofNat pP n
structure Lad where
  x2 : Fp
  z2 : Fp
  x3 : Fp
  z3 : Fp
  sw : Nat
/-- the ladder's rung: sum and double -/
def rung (u : Fp) (b : Nat) (x2 z2 x3 z3 : Fp) : Lad :=
  { x2 := (x2 + z2) * (x2 + z2) * ((x2 - z2) * (x2 - z2))
    z2 := ((x2 + z2) * (x2 + z2) - (x2 - z2) * (x2 - z2)) * ((x2 + z2) * (x2 + z2) + fN 121665 * ((x2 + z2) * (x2 + z2) - (x2 - z2) * (x2 - z2)))
    x3 := ((x3 - z3) * (x2 + z2) + (x3 + z3) * (x2 - z2)) * ((x3 - z3) * (x2 + z2) + (x3 + z3) * (x2 - z2))
    z3 := u * (((x3 - z3) * (x2 + z2) - (x3 + z3) * (x2 - z2)) * ((x3 - z3) * (x2 + z2) - (x3 + z3) * (x2 - z2)))
    sw := b }
/-- a rung for bit b, behind a swap where b is another bit than the last -/
def ladStep (u : Fp) (b : Nat) (s : Lad) : Lad := if b = s.sw then rung u b s.x2 s.z2 s.x3 s.z3 else rung u b s.x3 s.z3 s.x2 s.z2
/-- the ladder's state behind j rungs -/
def ladS (n : Nat) (u : Fp) : Nat → Lad
  | 0 => ⟨1, 0, u, 1, 0⟩
  | j + 1 => ladStep u (n / 2 ^ (254 - j) % 2) (ladS n u j)
theorem ladS_0 (n : Nat) (u : Fp) : ladS n u (255 - 255) = ⟨1, 0, u, 1, 0⟩ := rfl
theorem ladS_00 (n : Nat) (u : Fp) : ladS n u 0 = ⟨1, 0, u, 1, 0⟩ := rfl
theorem ladS_sw (n : Nat) (u : Fp) : ∀ j, (ladS n u j).sw ≤ 1
  | 0 => Nat.zero_le _
  | j + 1 => by
    rw [ladS, ladStep]
    split
    · show n / 2 ^ (254 - j) % 2 ≤ 1; omega
    · show n / 2 ^ (254 - j) % 2 ≤ 1; omega
theorem ladS_next (n : Nat) (u : Fp) {j : Nat} (h : j + 1 ≤ 255) : ladS n u (255 - j) = ladStep u (n / 2 ^ j % 2) (ladS n u (255 - (j + 1))) := by
  rw [show 255 - j = (255 - (j + 1)) + 1 by omega, ladS, show 254 - (255 - (j + 1)) = j by omega]
theorem ladStep_swap {u : Fp} {b : Nat} {s : Lad} (hb : b ≤ 1) (hs : s.sw ≤ 1) (h : ¬ BitVec.ofNat 64 b = BitVec.ofNat 64 s.sw) : ladStep u b s = rung u b s.x3 s.z3 s.x2 s.z2 := if_neg fun e => h (by rw [e])
theorem ladStep_keep {u : Fp} {b : Nat} {s : Lad} (hb : b ≤ 1) (hs : s.sw ≤ 1) (h : BitVec.ofNat 64 b = BitVec.ofNat 64 s.sw) : ladStep u b s = rung u b s.x2 s.z2 s.x3 s.z3 := if_pos (by
  have := congrArg BitVec.toNat h
  rw [BitVec.toNat_ofNat, BitVec.toNat_ofNat] at this; omega)
/-- THE PRODUCT of a number and a first coordinate -/
def ladder (n : Nat) (u : Fp) : Fp := if (ladS n u 255).sw = 1 then (ladS n u 255).x3 * finv (ladS n u 255).z3 else (ladS n u 255).x2 * finv (ladS n u 255).z2
theorem ladder1 {n : Nat} {u : Fp} (h : BitVec.ofNat 64 (ladS n u 255).sw = 1#64) : ladder n u = (ladS n u 255).x3 * finv (ladS n u 255).z3 := if_pos (by
  have h1 := ladS_sw n u 255
  have := congrArg BitVec.toNat h
  rw [BitVec.toNat_ofNat, BitVec.toNat_ofNat] at this; omega)
theorem ladder0 {n : Nat} {u : Fp} (h : ¬ BitVec.ofNat 64 (ladS n u 255).sw = 1#64) : ladder n u = (ladS n u 255).x2 * finv (ladS n u 255).z2 := if_neg fun e => h (by rw [e])
/-- the top bit off -/
def topB (q : List (BitVec 8)) : List (BitVec 8) := q.set 31 (q.getD 31 0#8 &&& 127#8)
@[simp] theorem length_topB (q : List (BitVec 8)) : (topB q).length = q.length := by simp [topB]
def pubF (q : List (BitVec 8)) : Fp := ladder (leN (clampB q)) (fN 9)
def shrF (a b : List (BitVec 8)) : Fp := ladder (leN (clampB a)) (fN (leN (topB b)))
end Go.Proofs.YtjhjjhpfjadjpaaDoor
