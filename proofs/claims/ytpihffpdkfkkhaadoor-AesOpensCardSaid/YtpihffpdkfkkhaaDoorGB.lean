/- The package's elements and the bytes as elements of the field of 2^128. -/
import Derived.Test.YtpihffpdkfkkhaaDoorGA
import Derived.Test.YtpihffpdkfkkhaaDoorMA
namespace Go.Proofs.YtpihffpdkfkkhaaDoor
set_option linter.all false
open Go
def toP (e : El) : P128 := (e.1 ++ e.2 : BitVec 128).reverse
theorem toP_bit (e : El) (k : Nat) (hk : k < 128) : (toP e).getLsbD k = if k < 64 then e.1.getLsbD (63 - k) else e.2.getLsbD (127 - k) := by
  unfold toP
  rw [BitVec.getLsbD_reverse]
  show BitVec.getMsbD (e.1 ++ e.2) k = _
  rw [BitVec.getMsbD_append]
  by_cases h : k < 64
  · rw [if_neg (by omega), if_pos h, BitVec.getMsbD_eq_getLsbD]; simp [h]
  · rw [if_pos (by omega), if_neg h, BitVec.getMsbD_eq_getLsbD]
    have h1 : k - 64 < 64 := by omega
    have h2 : 64 - 1 - (k - 64) = 127 - k := by omega
    simp [h1, h2]
theorem toP_inj {a b : El} (h : toP a = toP b) : a = b := by
  have hb : ∀ k, k < 128 → (toP a).getLsbD k = (toP b).getLsbD k := fun k _ => by rw [h]
  have h1 : a.1 = b.1 := by
    apply BitVec.eq_of_getLsbD_eq
    intro i hi
    have := hb (63 - i) (by omega)
    rw [toP_bit _ _ (by omega), toP_bit _ _ (by omega), if_pos (by omega), if_pos (by omega)] at this
    rwa [show 63 - (63 - i) = i by omega] at this
  have h2 : a.2 = b.2 := by
    apply BitVec.eq_of_getLsbD_eq
    intro i hi
    have := hb (127 - i) (by omega)
    rw [toP_bit _ _ (by omega), toP_bit _ _ (by omega), if_neg (by omega), if_neg (by omega)] at this
    rwa [show 127 - (127 - i) = i by omega] at this
  exact Prod.ext h1 h2
theorem toP_plus (a b : El) : toP (elPlus a b) = toP a ^^^ toP b := by
  apply BitVec.eq_of_getLsbD_eq
  intro k hk
  rw [BitVec.getLsbD_xor, toP_bit _ _ hk, toP_bit _ _ hk, toP_bit _ _ hk]
  by_cases h : k < 64
  · simp [h, elPlus]
  · simp [h, elPlus]
theorem toP_zero : toP (0#64, 0#64) = 0#128 := by
  apply BitVec.eq_of_getLsbD_eq
  intro k hk
  rw [toP_bit _ _ hk]; simp
theorem cbits_lo (k : Nat) (hk : k < 64) : (16212958658533785600#64).getLsbD (63 - k) = (135#128).getLsbD k := by
  have : ∀ k : Fin 64, (16212958658533785600#64).getLsbD (63 - k.val) = (135#128).getLsbD k.val := by decide
  exact this ⟨k, hk⟩
theorem cbits_hi (k : Nat) (h : 64 ≤ k) (hk : k < 128) : (135#128).getLsbD k = false := by
  have : ∀ k : Fin 64, (135#128).getLsbD (64 + k.val) = false := by decide
  have := this ⟨k - 64, by omega⟩
  rwa [show 64 + (k - 64) = k by omega] at this
theorem neg_bit (x : BitVec 64) : -(x &&& 1#64) = if x.getLsbD 0 then BitVec.allOnes 64 else 0#64 := by
  have : x &&& 1#64 = if x.getLsbD 0 then 1#64 else 0#64 := by
    apply BitVec.eq_of_getLsbD_eq
    intro i hi
    rw [BitVec.getLsbD_and]
    by_cases h : i = 0
    · subst h; cases x.getLsbD 0 <;> rfl
    · have : (1#64).getLsbD i = false := by simp [h]
      rw [this]
      cases x.getLsbD 0 <;> simp [h]
  rw [this]
  cases x.getLsbD 0 <;> rfl
theorem toP_next (e : El) : toP (elNext e) = nx (toP e) := by
  apply BitVec.eq_of_getLsbD_eq
  intro k hk
  have h127 : (toP e).getLsbD 127 = e.2.getLsbD 0 := by rw [toP_bit _ _ (by omega), if_neg (by omega)]
  unfold nx
  rw [toP_bit _ _ hk, h127, BitVec.getLsbD_xor, BitVec.getLsbD_shiftLeft]
  unfold elNext
  rw [neg_bit]
  by_cases h : k < 64
  · rw [if_pos h]
    try dsimp only
    rw [BitVec.getLsbD_xor, BitVec.getLsbD_ushiftRight, BitVec.getLsbD_and, cbits_lo k h]
    have e1 : (if e.2.getLsbD 0 then 135#128 else 0#128).getLsbD k = ((if e.2.getLsbD 0 = true then BitVec.allOnes 64 else 0#64).getLsbD (63 - k) && (135#128).getLsbD k) := by
      cases e.2.getLsbD 0
      · simp
      · simp only [if_true, BitVec.getLsbD_allOnes]
        have : decide (63 - k < 64) = true := decide_eq_true (by omega)
        rw [this]; simp
    rw [e1]
    congr 1
    by_cases h0 : k = 0
    · subst h0
      have : e.1.getLsbD (1 + (63 - 0)) = false := BitVec.getLsbD_of_ge _ _ (by omega)
      rw [this]; simp
    · have h1 : decide (k < 128) = true := decide_eq_true hk
      have h2 : decide (k < 1) = false := decide_eq_false (by omega)
      rw [h1, h2, toP_bit _ _ (by omega), if_pos (by omega)]
      simp only [Bool.true_and, Bool.not_false]
      congr 1
      omega
  · rw [if_neg h]
    try dsimp only
    rw [BitVec.getLsbD_or, BitVec.getLsbD_shiftLeft, BitVec.getLsbD_ushiftRight]
    have e1 : (if e.2.getLsbD 0 then 135#128 else 0#128).getLsbD k = false := by
      cases e.2.getLsbD 0
      · simp
      · exact cbits_hi k (by omega) hk
    rw [e1, Bool.xor_false]
    have h1 : decide (k < 128) = true := decide_eq_true hk
    have h2 : decide (k < 1) = false := decide_eq_false (by omega)
    rw [h1, h2, toP_bit _ _ (by omega)]
    simp only [Bool.true_and, Bool.not_false]
    by_cases h3 : k = 64
    · subst h3
      simp
    · rw [if_neg (by omega)]
      have h4 : decide (127 - k < 63) = true := decide_eq_true (by omega)
      rw [h4]
      simp only [Bool.not_true, Bool.and_false, Bool.false_and, Bool.false_or]
      congr 1
      omega
theorem topbit (x : BitVec 64) (k : Nat) (hk : k < 64) : ((x <<< k) >>> 63 = 1#64) ↔ x.getLsbD (63 - k) = true := by
  constructor
  · intro h
    have := congrArg (fun y => y.getLsbD 0) h
    simp only [BitVec.getLsbD_ushiftRight, BitVec.getLsbD_shiftLeft] at this
    have h1 : decide (63 + 0 < 64) = true := by decide
    have h2 : decide (63 + 0 < k) = false := decide_eq_false (by omega)
    rw [h1, h2] at this
    have h3 : (1#64).getLsbD 0 = true := by decide
    rw [h3] at this
    simpa using this
  · intro h
    apply BitVec.eq_of_getLsbD_eq
    intro i hi
    rw [BitVec.getLsbD_ushiftRight, BitVec.getLsbD_shiftLeft]
    by_cases h0 : i = 0
    · subst h0
      have h2 : decide (63 + 0 < k) = false := decide_eq_false (by omega)
      rw [h2]
      simpa using h
    · have h1 : decide (63 + i < 64) = false := decide_eq_false (by omega)
      have h2 : (1#64).getLsbD i = false := by simp [h0]
      rw [h1, h2]; simp
theorem ts1_2 (s : El × El × El) : toP (ts1 s).2.1 = nx (toP s.2.1) := toP_next _
theorem ts2_2 (s : El × El × El) : toP (ts2 s).2.1 = nx (toP s.2.1) := toP_next _
theorem ts1_3 (s : El × El × El) : toP (ts1 s).2.2 = toP s.2.2 ^^^ (if s.1.1 >>> 63 = 1#64 then toP s.2.1 else 0#128) := by
  unfold ts1; dsimp only
  split
  · rw [toP_plus]
  · rw [BitVec.xor_zero]
theorem ts2_3 (s : El × El × El) : toP (ts2 s).2.2 = toP s.2.2 ^^^ (if s.1.2 >>> 63 = 1#64 then toP s.2.1 else 0#128) := by
  unfold ts2; dsimp only
  split
  · rw [toP_plus]
  · rw [BitVec.xor_zero]
theorem tl1_eq (a b : El) (k : Nat) (hk : k ≤ 64) : (tl1 (a, b, (0#64, 0#64)) k).1.1 = a.1 <<< k ∧ (tl1 (a, b, (0#64, 0#64)) k).1.2 = a.2 ∧ toP (tl1 (a, b, (0#64, 0#64)) k).2.1 = nxs (toP b) k ∧ toP (tl1 (a, b, (0#64, 0#64)) k).2.2 = msum (toP a) (toP b) k := by
  induction k with
  | zero => exact ⟨by simp [tl1], rfl, rfl, toP_zero⟩
  | succ k ih =>
    obtain ⟨h1, h1', h2, h3⟩ := ih (by omega)
    have e : tl1 (a, b, (0#64, 0#64)) (k + 1) = ts1 (tl1 (a, b, (0#64, 0#64)) k) := rfl
    rw [e]
    generalize tl1 (a, b, (0#64, 0#64)) k = s at *
    have e1 : (ts1 s).1.1 = s.1.1 <<< 1 := rfl
    have e2 : (ts1 s).1.2 = s.1.2 := rfl
    refine ⟨?_, ?_, ?_, ?_⟩
    · rw [e1, h1, ← BitVec.shiftLeft_add]
    · rw [e2, h1']
    · rw [ts1_2, h2]; rfl
    · rw [ts1_3, h1, h2, h3, msum]
      have hb : (toP a).getLsbD k = a.1.getLsbD (63 - k) := by rw [toP_bit _ _ (by omega), if_pos (by omega)]
      rw [hb]
      simp only [topbit a.1 k (by omega)]
theorem tl2_eq (a b : El) (s0 : El × El × El) (h1 : s0.1.2 = a.2) (h2 : toP s0.2.1 = nxs (toP b) 64) (h3 : toP s0.2.2 = msum (toP a) (toP b) 64) (k : Nat) (hk : k ≤ 64) :
    (tl2 s0 k).1.2 = a.2 <<< k ∧ toP (tl2 s0 k).2.1 = nxs (toP b) (64 + k) ∧ toP (tl2 s0 k).2.2 = msum (toP a) (toP b) (64 + k) := by
  induction k with
  | zero => exact ⟨by rw [tl2, h1]; simp, h2, h3⟩
  | succ k ih =>
    obtain ⟨h1, h2, h3⟩ := ih (by omega)
    have e : tl2 s0 (k + 1) = ts2 (tl2 s0 k) := rfl
    rw [e]
    generalize tl2 s0 k = s at *
    have e1 : (ts2 s).1.2 = s.1.2 <<< 1 := rfl
    have e3 : 64 + (k + 1) = (64 + k) + 1 := rfl
    refine ⟨?_, ?_, ?_⟩
    · rw [e1, h1, ← BitVec.shiftLeft_add]
    · rw [ts2_2, h2]; rfl
    · rw [ts2_3, h1, h2, h3, e3, msum]
      have hb : (toP a).getLsbD (64 + k) = a.2.getLsbD (63 - k) := by
        rw [toP_bit _ _ (by omega), if_neg (by omega)]
        congr 1; omega
      rw [hb]
      simp only [topbit a.2 k (by omega)]
theorem toP_times (a b : El) : toP (elTimes a b) = pmul (toP a) (toP b) := by
  obtain ⟨_, h1, h2, h3⟩ := tl1_eq a b 64 (by omega)
  have h := (tl2_eq a b _ h1 h2 h3 64 (by omega)).2.2
  rw [elTimes]
  exact h
/-! ### bytes -/
def bitAt (l : List (BitVec 8)) (k : Nat) : Bool := (l.getD (k / 8) 0#8).getLsbD (7 - k % 8)
theorem elRead_bits (l : List (BitVec 8)) (k : Nat) (hk : k ≤ 16) : (∀ m, m < 64 → (elRead l k).1.getLsbD m = (decide (m < 8 * min k 8) && (l.getD (min k 8 - 1 - m / 8) 0#8).getLsbD (m % 8))) ∧
    (∀ m, m < 64 → (elRead l k).2.getLsbD m = (decide (m < 8 * (k - 8)) && (l.getD (k - 1 - m / 8) 0#8).getLsbD (m % 8))) := by
  induction k with
  | zero => constructor <;> intro m hm <;> simp [elRead]
  | succ k ih =>
    obtain ⟨h1, h2⟩ := ih (by omega)
    have key : ∀ (x : BitVec 64) (c : BitVec 8) (j : Nat) (f : Nat → BitVec 8), j < 8 → (∀ m, m < 64 → x.getLsbD m = (decide (m < 8 * j) && (f (m / 8)).getLsbD (m % 8))) →
        ∀ m, m < 64 → ((x <<< 8) ||| c.setWidth 64).getLsbD m = (decide (m < 8 * (j + 1)) && (if m / 8 = 0 then c else f (m / 8 - 1)).getLsbD (m % 8)) := by
      intro x c j f hj hx m hm
      rw [BitVec.getLsbD_or, BitVec.getLsbD_shiftLeft, BitVec.getLsbD_setWidth]
      have e1 : decide (m < 64) = true := decide_eq_true hm
      rw [e1]
      by_cases h8 : m < 8
      · have e2 : m / 8 = 0 := by omega
        have e3 : m % 8 = m := by omega
        have e4 : decide (m < 8 * (j + 1)) = true := decide_eq_true (by omega)
        simp [h8, e2, e3, e4]
      · have e2 : ¬ m / 8 = 0 := by omega
        have e5 : c.getLsbD m = false := BitVec.getLsbD_of_ge _ _ (by omega)
        have e6 : decide (m < 8) = false := decide_eq_false h8
        rw [hx (m - 8) (by omega), if_neg e2, e5, e6]
        have e7 : (m - 8) / 8 = m / 8 - 1 := by omega
        have e8 : (m - 8) % 8 = m % 8 := by omega
        have e9 : decide (m - 8 < 8 * j) = decide (m < 8 * (j + 1)) := decide_eq_decide.2 (by omega)
        rw [e7, e8, e9]; simp
    by_cases hk8 : k < 8
    · rw [elRead, if_pos hk8]
      have m1 : min k 8 = k := by omega
      have m2 : min (k + 1) 8 = k + 1 := by omega
      rw [m1] at h1
      rw [m2]
      refine ⟨fun m hm => ?_, fun m hm => ?_⟩
      · refine (key _ _ k (fun q => l.getD (k - 1 - q) 0#8) hk8 h1 m hm).trans ?_
        by_cases h0 : m / 8 = 0
        · rw [if_pos h0, h0]; rfl
        · rw [if_neg h0]
          by_cases hlt : m < 8 * (k + 1)
          · rw [show k - 1 - (m / 8 - 1) = k + 1 - 1 - m / 8 by omega]
          · rw [decide_eq_false hlt]; rfl
      · refine (h2 m hm).trans ?_
        rw [decide_eq_false (by omega : ¬ m < 8 * (k - 8)), decide_eq_false (by omega : ¬ m < 8 * (k + 1 - 8))]; rfl
    · rw [elRead, if_neg hk8]
      have m1 : min k 8 = 8 := by omega
      have m2 : min (k + 1) 8 = 8 := by omega
      rw [m1] at h1
      rw [m2]
      refine ⟨h1, fun m hm => ?_⟩
      refine (key _ _ (k - 8) (fun q => l.getD (k - 1 - q) 0#8) (by omega) h2 m hm).trans ?_
      rw [show k - 8 + 1 = k + 1 - 8 by omega]
      by_cases h0 : m / 8 = 0
      · rw [if_pos h0, h0]; rfl
      · rw [if_neg h0]
        by_cases hlt : m < 8 * (k + 1 - 8)
        · rw [show k - 1 - (m / 8 - 1) = k + 1 - 1 - m / 8 by omega]
        · rw [decide_eq_false hlt]; rfl
def tpL (l : List (BitVec 8)) : P128 := toP (elRead l 16)
theorem tpL_bit (l : List (BitVec 8)) (k : Nat) (hk : k < 128) : (tpL l).getLsbD k = bitAt l k := by
  obtain ⟨h1, h2⟩ := elRead_bits l 16 (by omega)
  rw [tpL, toP_bit _ _ hk, bitAt]
  by_cases h : k < 64
  · rw [if_pos h, h1 _ (by omega), decide_eq_true (by omega : 63 - k < 8 * min 16 8), Bool.true_and]
    rw [show min 16 8 - 1 - (63 - k) / 8 = k / 8 by omega, show (63 - k) % 8 = 7 - k % 8 by omega]
  · rw [if_neg h, h2 _ (by omega), decide_eq_true (by omega : 127 - k < 8 * (16 - 8)), Bool.true_and]
    rw [show 16 - 1 - (127 - k) / 8 = k / 8 by omega, show (127 - k) % 8 = 7 - k % 8 by omega]
theorem tpL_inj {l l' : List (BitVec 8)} (hl : l.length = 16) (hl' : l'.length = 16) (h : tpL l = tpL l') : l = l' := by
  apply List.ext_getElem (by omega)
  intro i h1 h2
  apply BitVec.eq_of_getLsbD_eq
  intro j hj
  have : (tpL l).getLsbD (8 * i + (7 - j)) = (tpL l').getLsbD (8 * i + (7 - j)) := by rw [h]
  rw [tpL_bit _ _ (by omega), tpL_bit _ _ (by omega), bitAt, bitAt, show (8 * i + (7 - j)) / 8 = i by omega, show 7 - (8 * i + (7 - j)) % 8 = j by omega] at this
  simpa [List.getD_eq_getElem?_getD, h1, h2] using this
theorem getD_set {α : Type} (l : List α) (i j : Nat) (x d : α) (hi : i < l.length) : (l.set i x).getD j d = if j = i then x else l.getD j d := by
  simp only [List.getD_eq_getElem?_getD, List.getElem?_set]
  by_cases h : i = j
  · subst h; simp [hi]
  · have : ¬ j = i := fun e => h e.symm
    simp [h, this]
theorem elBytes_get (e : El) (k : Nat) (hk : k ≤ 8) (i : Nat) : (elBytes e k).getD i 0#8 = if i < k then (e.1 >>> (56 - 8 * i)).setWidth 8 else if 8 ≤ i ∧ i < 8 + k then (e.2 >>> (56 - 8 * (i - 8))).setWidth 8 else 0#8 := by
  induction k with
  | zero =>
    have : (elBytes e 0).getD i 0#8 = 0#8 := by
      simp only [elBytes, List.getD_eq_getElem?_getD, List.getElem?_replicate]
      split <;> rfl
    rw [this, if_neg (by omega), if_neg (by omega)]
  | succ k ih =>
    rw [elBytes, getD_set _ _ _ _ _ (by simp [length_elBytes]; omega), getD_set _ _ _ _ _ (by simp [length_elBytes]; omega), ih (by omega)]
    by_cases h1 : i = 8 + k
    · subst h1
      rw [if_pos rfl, if_neg (by omega), if_pos (by omega), show 8 + k - 8 = k by omega]
    · rw [if_neg h1]
      by_cases h2 : i = k
      · subst h2; rw [if_pos rfl, if_pos (by omega)]
      · rw [if_neg h2]
        by_cases h3 : i < k
        · rw [if_pos h3, if_pos (by omega)]
        · rw [if_neg h3, if_neg (by omega : ¬ i < k + 1)]
          by_cases h4 : 8 ≤ i ∧ i < 8 + k
          · rw [if_pos h4, if_pos (by omega)]
          · rw [if_neg h4, if_neg (by omega)]
theorem elRead_elBytes (e : El) : elRead (elBytes e 8) 16 = e := by
  apply toP_inj
  apply BitVec.eq_of_getLsbD_eq
  intro k hk
  show (tpL (elBytes e 8)).getLsbD k = _
  rw [tpL_bit _ _ hk, bitAt, elBytes_get e 8 (by omega), toP_bit _ _ hk]
  by_cases h : k < 64
  · rw [if_pos h, if_pos (by omega), BitVec.getLsbD_setWidth, BitVec.getLsbD_ushiftRight]
    rw [decide_eq_true (by omega : 7 - k % 8 < 8), Bool.true_and]
    congr 1; omega
  · rw [if_neg h, if_neg (by omega), if_pos (by omega), BitVec.getLsbD_setWidth, BitVec.getLsbD_ushiftRight]
    rw [decide_eq_true (by omega : 7 - k % 8 < 8), Bool.true_and]
    congr 1; omega
theorem tpL_bytes (e : El) : tpL (elBytes e 8) = toP e := by rw [tpL, elRead_elBytes]
theorem tpL_tMul (a b : List (BitVec 8)) : tpL (tMul a b) = pmul (tpL a) (tpL b) := by rw [tMul, tpL_bytes, toP_times]; rfl
theorem plusL_get (a b : List (BitVec 8)) (k : Nat) (hk : k ≤ 16) (i : Nat) : (plusL a b k).getD i 0#8 = if i < k then a.getD i 0#8 ^^^ b.getD i 0#8 else 0#8 := by
  induction k with
  | zero =>
    have : (plusL a b 0).getD i 0#8 = 0#8 := by
      simp only [plusL, List.getD_eq_getElem?_getD, List.getElem?_replicate]
      split <;> rfl
    rw [this, if_neg (by omega)]
  | succ k ih =>
    rw [plusL, getD_set _ _ _ _ _ (by rw [length_plusL]; omega), ih (by omega)]
    by_cases h2 : i = k
    · subst h2; rw [if_pos rfl, if_pos (by omega)]
    · rw [if_neg h2]
      by_cases h3 : i < k
      · rw [if_pos h3, if_pos (by omega)]
      · rw [if_neg h3, if_neg (by omega)]
theorem tpL_plusL (a b : List (BitVec 8)) : tpL (plusL a b 16) = tpL a ^^^ tpL b := by
  apply BitVec.eq_of_getLsbD_eq
  intro k hk
  rw [BitVec.getLsbD_xor, tpL_bit _ _ hk, tpL_bit _ _ hk, tpL_bit _ _ hk, bitAt, plusL_get a b 16 (by omega), if_pos (by omega), BitVec.getLsbD_xor]; rfl
theorem tpL_one : tpL (blockL [128#8]) = 1#128 := by kernel_rfl
theorem tpL_none : tpL (blockL []) = 0#128 := by kernel_rfl
/-! ### what the law asks -/
theorem length_tMul' (a b : List (BitVec 8)) : (tMul a b).length = 16 := length_elBytes _ _
theorem field1 (a b : List (BitVec 8)) : tMul a b = tMul b a := tpL_inj (length_tMul' _ _) (length_tMul' _ _) (by rw [tpL_tMul, tpL_tMul, pmul_comm])
theorem field2 (a b c : List (BitVec 8)) : tMul (tMul a b) c = tMul a (tMul b c) := tpL_inj (length_tMul' _ _) (length_tMul' _ _) (by simp only [tpL_tMul, pmul_assoc])
theorem field3 (a b c : List (BitVec 8)) : tMul a (plusL b c 16) = plusL (tMul a b) (tMul a c) 16 := tpL_inj (length_tMul' _ _) (length_plusL _ _ _) (by simp only [tpL_tMul, tpL_plusL, pmul_xor])
theorem field4 (a : List (BitVec 8)) (ha : a.length = 16) : tMul a (blockL [128#8]) = a := tpL_inj (length_tMul' _ _) ha (by rw [tpL_tMul, tpL_one, pmul_one])
theorem field5 (a : List (BitVec 8)) : tMul a (blockL []) = blockL [] := tpL_inj (length_tMul' _ _) (length_blockL _) (by rw [tpL_tMul, tpL_none, pmul_zero])
theorem field6 (a b : List (BitVec 8)) (ha : a.length = 16) (hb : b.length = 16) (h : tMul a b = blockL []) : a = blockL [] ∨ b = blockL [] := by
  have h1 := congrArg tpL h
  rw [tpL_tMul, tpL_none] at h1
  rcases pmul_eq_zero h1 with h2 | h2
  · exact .inl (tpL_inj ha (length_blockL _) (h2.trans tpL_none.symm))
  · exact .inr (tpL_inj hb (length_blockL _) (h2.trans tpL_none.symm))
end Go.Proofs.YtpihffpdkfkkhaaDoor
