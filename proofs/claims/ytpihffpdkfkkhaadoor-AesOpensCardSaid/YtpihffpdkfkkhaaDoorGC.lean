/- The reference's product and sum are the package's. -/
import Derived.Test.YtpihffpdkfkkhaaDoorGB
namespace Go.Proofs.YtpihffpdkfkkhaaDoor
set_option linter.all false
open Go
theorem tpL_congr {l l' : List (BitVec 8)} (h : ∀ i, i < 16 → l.getD i 0#8 = l'.getD i 0#8) : tpL l = tpL l' := by
  apply BitVec.eq_of_getLsbD_eq
  intro k hk
  rw [tpL_bit _ _ hk, tpL_bit _ _ hk, bitAt, bitAt, h (k / 8) (by omega)]
theorem shL_get (v : List (BitVec 8)) (hv : v.length = 16) (j : Nat) (hj : j ≤ 15) (i : Nat) : (shL v j).getD i 0#8 = if 15 - j < i ∧ i ≤ 15 then (v.getD i 0#8 >>> 1) ||| (v.getD (i - 1) 0#8 <<< 7) else v.getD i 0#8 := by
  induction j generalizing i with
  | zero => rw [shL, if_neg (by omega)]
  | succ j ih =>
    rw [shL, getD_set _ _ _ _ _ (by rw [length_shL]; omega), ih (by omega), ih (by omega), ih (by omega)]
    by_cases h : i = 15 - j
    · subst h
      rw [if_pos rfl, if_neg (by omega), if_neg (by omega), if_pos (by omega)]
    · rw [if_neg h]
      by_cases h2 : 15 - j < i ∧ i ≤ 15
      · rw [if_pos h2, if_pos (by omega)]
      · rw [if_neg h2, if_neg (by omega)]
theorem rHalf_get (v : List (BitVec 8)) (hv : v.length = 16) (i : Nat) (hi : i < 16) : (rHalf v).getD i 0#8 = if i = 0 then v.getD 0 0#8 >>> 1 else (v.getD i 0#8 >>> 1) ||| (v.getD (i - 1) 0#8 <<< 7) := by
  rw [rHalf, getD_set _ _ _ _ _ (by rw [length_shL]; omega), shL_get v hv 15 (by omega), shL_get v hv 15 (by omega)]
  by_cases h : i = 0
  · subst h; rw [if_pos rfl, if_pos rfl, if_neg (by omega)]
  · rw [if_neg h, if_neg h, if_pos (by omega)]
theorem length_rHalf (v : List (BitVec 8)) : (rHalf v).length = v.length := by simp [rHalf, length_shL]
theorem and_one8 (x : BitVec 8) : (x &&& 1#8 = 1#8) ↔ x.getLsbD 0 = true := by
  constructor
  · intro h
    have : (x &&& 1#8).getLsbD 0 = (1#8).getLsbD 0 := by rw [h]
    rw [BitVec.getLsbD_and] at this
    have e : (1#8).getLsbD 0 = true := by decide
    rw [e] at this
    simpa using this
  · intro h
    apply BitVec.eq_of_getLsbD_eq
    intro i hi
    rw [BitVec.getLsbD_and]
    by_cases h0 : i = 0
    · subst h0; rw [h]; rfl
    · have : (1#8).getLsbD i = false := by simp [h0]
      rw [this]; simp
theorem rHalf_bit (v : List (BitVec 8)) (hv : v.length = 16) (k : Nat) (hk : k < 128) : bitAt (rHalf v) k = (decide (0 < k) && bitAt v (k - 1)) := by
  rw [bitAt, rHalf_get v hv _ (by omega)]
  by_cases h0 : k / 8 = 0
  · rw [if_pos h0, BitVec.getLsbD_ushiftRight]
    by_cases h1 : k = 0
    · subst h1
      have : (v.getD 0 0#8).getLsbD (1 + (7 - 0 % 8)) = false := BitVec.getLsbD_of_ge _ _ (by omega)
      rw [this]; rfl
    · rw [decide_eq_true (by omega : 0 < k), Bool.true_and, bitAt, show (k - 1) / 8 = 0 by omega]
      congr 1; omega
  · rw [if_neg h0, BitVec.getLsbD_or, BitVec.getLsbD_ushiftRight, BitVec.getLsbD_shiftLeft, decide_eq_true (by omega : 0 < k), Bool.true_and, bitAt]
    by_cases h1 : k % 8 = 0
    · have e1 : (v.getD (k / 8) 0#8).getLsbD (1 + (7 - k % 8)) = false := BitVec.getLsbD_of_ge _ _ (by omega)
      rw [e1, decide_eq_true (by omega : 7 - k % 8 < 8), decide_eq_false (by omega : ¬ 7 - k % 8 < 7)]
      simp only [Bool.false_or, Bool.true_and, Bool.not_false]
      rw [show (k - 1) / 8 = k / 8 - 1 by omega, show 7 - k % 8 - 7 = 7 - (k - 1) % 8 by omega]
    · rw [decide_eq_true (by omega : 7 - k % 8 < 7)]
      simp only [Bool.not_true, Bool.and_false, Bool.false_and, Bool.or_false]
      rw [show (k - 1) / 8 = k / 8 by omega, show 1 + (7 - k % 8) = 7 - (k - 1) % 8 by omega]
theorem cbits8 (k : Nat) (hk : k < 8) : (225#8).getLsbD (7 - k) = (135#128).getLsbD k := by
  have : ∀ k : Fin 8, (225#8).getLsbD (7 - k.val) = (135#128).getLsbD k.val := by decide
  exact this ⟨k, hk⟩
theorem cbits_up (k : Nat) (h : 8 ≤ k) (hk : k < 128) : (135#128).getLsbD k = false := by
  have : ∀ k : Fin 120, (135#128).getLsbD (8 + k.val) = false := by decide
  have := this ⟨k - 8, by omega⟩
  rwa [show 8 + (k - 8) = k by omega] at this
theorem tpL_rStep (v : List (BitVec 8)) (hv : v.length = 16) : tpL (rStep v) = nx (tpL v) := by
  apply BitVec.eq_of_getLsbD_eq
  intro k hk
  have h127 : (tpL v).getLsbD 127 = (v.getD 15 0#8).getLsbD 0 := by rw [tpL_bit _ _ (by omega)]; rfl
  unfold nx
  rw [BitVec.getLsbD_xor, BitVec.getLsbD_shiftLeft, h127, tpL_bit _ _ hk, decide_eq_true hk, Bool.true_and]
  have hsh : (!decide (k < 1) && (tpL v).getLsbD (k - 1)) = bitAt (rHalf v) k := by
    rw [rHalf_bit v hv k hk, tpL_bit _ _ (by omega)]
    congr 1
    by_cases h : k = 0
    · subst h; rfl
    · rw [decide_eq_false (by omega : ¬ k < 1), decide_eq_true (by omega : 0 < k)]; rfl
  rw [hsh, rStep]
  by_cases hc : v.getD 15 0#8 &&& 1#8 = 1#8
  · rw [if_pos hc, (and_one8 _).1 hc]
    simp only [if_true]
    rw [bitAt, getD_set _ _ _ _ _ (by rw [length_rHalf]; omega)]
    by_cases h0 : k / 8 = 0
    · rw [if_pos h0, BitVec.getLsbD_xor, bitAt, h0, show k % 8 = k by omega, cbits8 k (by omega)]
    · rw [if_neg h0, cbits_up k (by omega) hk, Bool.xor_false]; rfl
  · rw [if_neg hc]
    have : (v.getD 15 0#8).getLsbD 0 = false := by
      cases h : (v.getD 15 0#8).getLsbD 0 with
      | false => rfl
      | true => exact absurd ((and_one8 _).2 h) hc
    rw [this]; simp
theorem xorL_get (a b : List (BitVec 8)) (ha : a.length = 16) (k : Nat) (hk : k ≤ 16) (i : Nat) : (xorL a b k).getD i 0#8 = if i < k then a.getD i 0#8 ^^^ b.getD i 0#8 else a.getD i 0#8 := by
  induction k generalizing i with
  | zero => rw [xorL, if_neg (by omega)]
  | succ k ih =>
    rw [xorL, getD_set _ _ _ _ _ (by rw [length_xorL]; omega), ih (by omega), ih (by omega), if_neg (by omega : ¬ k < k)]
    by_cases h2 : i = k
    · subst h2; rw [if_pos rfl, if_pos (by omega)]
    · rw [if_neg h2]
      by_cases h3 : i < k
      · rw [if_pos h3, if_pos (by omega)]
      · rw [if_neg h3, if_neg (by omega)]
theorem tpL_xorL (a b : List (BitVec 8)) (ha : a.length = 16) : tpL (xorL a b 16) = tpL a ^^^ tpL b := by
  apply BitVec.eq_of_getLsbD_eq
  intro k hk
  rw [BitVec.getLsbD_xor, tpL_bit _ _ hk, tpL_bit _ _ hk, tpL_bit _ _ hk, bitAt, xorL_get a b ha 16 (by omega), if_pos (by omega), BitVec.getLsbD_xor]; rfl
theorem tpL_rV (b : List (BitVec 8)) (hb : b.length = 16) (k : Nat) : tpL (rV b k) = nxs (tpL b) k := by
  induction k with
  | zero => rfl
  | succ k ih => rw [rV, tpL_rStep _ (by rw [length_rV, hb]), ih]; rfl
theorem tpL_zeros : tpL (List.replicate 16 0#8) = 0#128 := by
  have := tpL_none
  exact this
theorem tpL_rA (a b : List (BitVec 8)) (hb : b.length = 16) (k : Nat) (hk : k ≤ 128) : tpL (rA a b k) = msum (tpL a) (tpL b) k := by
  induction k with
  | zero => exact tpL_zeros
  | succ k ih =>
    have hbit : (bitL a k = 1#8) ↔ (tpL a).getLsbD k = true := by
      rw [tpL_bit _ _ (by omega), bitL, and_one8, BitVec.getLsbD_ushiftRight, bitAt, Nat.add_zero]
    rw [rA, msum, ← ih (by omega)]
    by_cases h : bitL a k = 1#8
    · rw [if_pos h, hbit.1 h, tpL_xorL _ _ (length_rA _ _ _), tpL_rV b hb]; rfl
    · rw [if_neg h]
      have : (tpL a).getLsbD k = false := by
        cases hq : (tpL a).getLsbD k with
        | false => rfl
        | true => exact absurd (hbit.2 hq) h
      rw [this]; simp
theorem tpL_rTimes (a b : List (BitVec 8)) (hb : b.length = 16) : tpL (rTimes a b) = pmul (tpL a) (tpL b) := tpL_rA a b hb 128 (Nat.le_refl _)
theorem times_same (a b : List (BitVec 8)) (ha : a.length = 16) (hb : b.length = 16) : tOut a b = rTimes a b := by
  have : tOk a b = true := by simp [tOk, ha, hb]
  rw [tOut, this]
  exact tpL_inj (length_tMul' _ _) (length_rA _ _ _) ((tpL_tMul a b).trans (tpL_rTimes a b hb).symm)
/-! ### the sum -/
theorem getD_app (x y : List (BitVec 8)) (i : Nat) : (x ++ y).getD i 0#8 = if i < x.length then x.getD i 0#8 else y.getD (i - x.length) 0#8 := by
  simp only [List.getD_eq_getElem?_getD, List.getElem?_append]
  split <;> rfl
theorem getD_ge (x : List (BitVec 8)) (i : Nat) (h : x.length ≤ i) : x.getD i 0#8 = 0#8 := by
  simp [List.getD_eq_getElem?_getD, h]
theorem getD_padL (c : List (BitVec 8)) (i : Nat) : (padL c).getD i 0#8 = c.getD i 0#8 := by
  rw [padL, getD_app]
  split
  · rfl
  · rw [getD_ge c i (by omega)]
    simp only [List.getD_eq_getElem?_getD, List.getElem?_replicate]
    split <;> rfl
theorem length_padL (c : List (BitVec 8)) : (padL c).length = 16 * ((c.length + 15) / 16) := by
  simp [padL]; omega
theorem getD_dt (t : List (BitVec 8)) (k n i : Nat) (hi : i < n) : ((t.drop k).take n).getD i 0#8 = t.getD (k + i) 0#8 := by
  simp only [List.getD_eq_getElem?_getD, List.getElem?_take, if_pos hi, List.getElem?_drop]
theorem blk_get (c : List (BitVec 8)) (j i : Nat) (hi : i < 16) : (over (List.replicate 16 0#8) 0 ((c.drop (16 * j)).take (min (c.length - 16 * j) 16))).getD i 0#8 = c.getD (16 * j + i) 0#8 := by
  unfold over
  rw [List.take_zero, List.nil_append, getD_app]
  have hl : ((c.drop (16 * j)).take (min (c.length - 16 * j) 16)).length = min (c.length - 16 * j) 16 := by simp
  rw [hl]
  by_cases h : i < min (c.length - 16 * j) 16
  · rw [if_pos h, getD_dt _ _ _ _ h]
  · rw [if_neg h, getD_ge c _ (by omega)]
    simp only [List.getD_eq_getElem?_getD, List.getElem?_drop, List.getElem?_replicate]
    split <;> rfl
theorem highV_eq (v : BitVec 64) (k : Nat) : highV v k = v >>> (8 * k) := by
  induction k with
  | zero => simp [highV]
  | succ k ih => rw [highV, ih, ← BitVec.shiftRight_add]; rfl
theorem highL_get (v : BitVec 64) (n i : Nat) (hi : i < n) : (highL v n).getD i 0#8 = (v >>> (8 * (n - 1 - i))).setWidth 8 := by
  induction n generalizing i with
  | zero => omega
  | succ n ih =>
    rw [highL, getD_app]
    by_cases h : i = 0
    · subst h
      simp [highV_eq]
    · rw [if_neg (by simp; omega)]
      simp only [List.length_cons, List.length_nil]
      rw [ih (i - (0 + 1)) (by omega)]
      congr 2; omega
theorem tpL_high (x y : BitVec 64) : tpL (highL x 8 ++ highL y 8) = toP (x, y) := by
  apply BitVec.eq_of_getLsbD_eq
  intro k hk
  rw [tpL_bit _ _ hk, toP_bit _ _ hk, bitAt, getD_app, length_highL]
  by_cases h : k < 64
  · rw [if_pos (by omega), if_pos h, highL_get _ _ _ (by omega), BitVec.getLsbD_setWidth, BitVec.getLsbD_ushiftRight, decide_eq_true (by omega : 7 - k % 8 < 8), Bool.true_and]
    congr 1; omega
  · rw [if_neg (by omega), if_neg h, highL_get _ _ _ (by omega), BitVec.getLsbD_setWidth, BitVec.getLsbD_ushiftRight, decide_eq_true (by omega : 7 - k % 8 < 8), Bool.true_and]
    congr 1; omega
theorem rG_step (h t : List (BitVec 8)) (hh : h.length = 16) (k : Nat) : tpL (rG h t (k + 1)) = pmul (tpL (rG h t k) ^^^ tpL ((t.drop (16 * k)).take 16)) (tpL h) := by
  rw [rG, tpL_rTimes _ _ hh, tpL_xorL _ _ (length_rG _ _ _), show 16 * k + 16 - 16 * k = 16 by omega]
theorem gAcc_step (h : El) (c : List (BitVec 8)) (e : El) (j : Nat) : toP (gAcc h c e (j + 1)) = pmul (toP (gAcc h c e j) ^^^ tpL (over (List.replicate 16 0#8) 0 ((c.drop (16 * j)).take (min (c.length - 16 * j) 16)))) (toP h) := by
  rw [gAcc, toP_times, toP_plus]; rfl
theorem tail_get (A B : List (BitVec 8)) (n i : Nat) (h : A.length = n) : (A ++ B).getD (n + i) 0#8 = B.getD i 0#8 := by
  rw [getD_app, h, if_neg (by omega), show n + i - n = i by omega]
theorem pm_congr {x y z h : P128} (e : y = z) : pmul (x ^^^ y) h = pmul (x ^^^ z) h := by rw [e]
theorem gLens_two (c d : List (BitVec 8)) : (((gLens [c, d] 2).getD 0 0#64, (gLens [c, d] 2).getD 1 0#64) : El) = (BitVec.ofNat 64 c.length * 8#64, BitVec.ofNat 64 d.length * 8#64) := by
  rw [BitVec.mul_comm _ 8#64, BitVec.mul_comm _ 8#64]
  have e : gLens [c, d] 2 = [8#64 * BitVec.ofNat 64 c.length, 8#64 * BitVec.ofNat 64 d.length] := by
    simp [gLens]
  rw [e]
  simp
theorem gParts_two (h : El) (c d : List (BitVec 8)) : gParts h [c, d] (0#64, 0#64) 2 = gPart h d (gPart h c (0#64, 0#64)) := by
  simp [gParts]
theorem sum_same (a c d : List (BitVec 8)) (ha : a.length = 16) (m : Nat) (hm : (rText c d).length = 16 * m) : gOut a c d = rG a (rText c d) m := by
  rw [gOut, if_pos ha]
  refine tpL_inj (length_elBytes _ _) (length_rG _ _ _) ?_
  rw [tpL_bytes]
  generalize hnc : (c.length + 15) / 16 = nc
  generalize hnd : (d.length + 15) / 16 = nd
  have lc : (padL c).length = 16 * nc := by rw [length_padL, hnc]
  have ld : (padL d).length = 16 * nd := by rw [length_padL, hnd]
  have lm : m = nc + nd + 1 := by
    have : (rText c d).length = 16 * nc + 16 * nd + 8 + 8 := by
      simp only [rText, List.length_append, lc, ld, length_highL]
    omega
  subst lm
  have tget : ∀ i, i < 16 * nc → (rText c d).getD i 0#8 = c.getD i 0#8 := fun i hi => by
    rw [rText, getD_app, if_pos (by simp only [List.length_append, lc, ld, length_highL]; omega), getD_app, if_pos (by simp only [List.length_append, lc, ld]; omega), getD_app, if_pos (by omega), getD_padL]
  have tget2 : ∀ i, i < 16 * nd → (rText c d).getD (16 * nc + i) 0#8 = d.getD i 0#8 := fun i hi => by
    rw [rText, getD_app, if_pos (by simp only [List.length_append, lc, ld, length_highL]; omega), getD_app, if_pos (by simp only [List.length_append, lc, ld]; omega), getD_app, if_neg (by omega), lc, show 16 * nc + i - 16 * nc = i by omega, getD_padL]
  have hT : toP (elRead a 16) = tpL a := rfl
  have tA : ∀ j, j ≤ nc → tpL (rG a (rText c d) j) = toP (gAcc (elRead a 16) c (0#64, 0#64) j) := by
    intro j
    induction j with
    | zero => intro _; rw [rG, gAcc, tpL_zeros, toP_zero]
    | succ j ih =>
      intro hj
      rw [rG_step _ _ ha, gAcc_step, ih (by omega)]
      rw [hT]
      refine pm_congr ?_
      exact tpL_congr fun i hi => by rw [getD_dt _ _ _ _ hi, blk_get _ _ _ hi, tget _ (by omega)]
  have tB : ∀ j, j ≤ nd → tpL (rG a (rText c d) (nc + j)) = toP (gAcc (elRead a 16) d (gPart (elRead a 16) c (0#64, 0#64)) j) := by
    intro j
    induction j with
    | zero => intro _; rw [gAcc, gPart, hnc]; exact tA nc (Nat.le_refl _)
    | succ j ih =>
      intro hj
      rw [show nc + (j + 1) = (nc + j) + 1 by omega, rG_step _ _ ha, gAcc_step, ih (by omega)]
      rw [hT]
      refine pm_congr ?_
      exact tpL_congr fun i hi => by rw [getD_dt _ _ _ _ hi, blk_get _ _ _ hi, show 16 * (nc + j) + i = 16 * nc + (16 * j + i) by omega, tget2 _ (by omega)]
  refine Eq.symm ?_
  rw [rG_step _ _ ha, tB nd (Nat.le_refl _), gSum, toP_times, toP_plus]
  have e1 : gParts (elRead a 16) [c, d] (0#64, 0#64) 2 = gAcc (elRead a 16) d (gPart (elRead a 16) c (0#64, 0#64)) nd := by rw [gParts_two, gPart, hnd]
  rw [e1, gLens_two, ← tpL_high (BitVec.ofNat 64 c.length * 8#64)]
  rw [hT]
  refine pm_congr ?_
  refine (tpL_congr fun i hi => ?_)
  have el : (padL c ++ padL d).length = 16 * (nc + nd) := by simp only [List.length_append, lc, ld]; omega
  have key : (rText c d).getD (16 * (nc + nd) + i) 0#8 = (highL (BitVec.ofNat 64 c.length * 8#64) 8 ++ highL (BitVec.ofNat 64 d.length * 8#64) 8).getD i 0#8 := by
    rw [rText, List.append_assoc]
    exact tail_get _ _ _ _ el
  exact (getD_dt _ _ _ _ hi).trans key
end Go.Proofs.YtpihffpdkfkkhaaDoor
