/- THE PLAIN LAW OF THE HASHES. -/
import Derived.Test.YtjhjjhpfjadjpaaDoorMN
import Derived.Test.YtjhjjhpfjadjpaaDoorMQ6
namespace Go.Proofs.YtjhjjhpfjadjpaaDoor
set_option linter.all false
open Go
/-! ### the end of a text -/
theorem numV_eq (v : BitVec 64) (i : Nat) : numV v i = v >>> (8 * i) := by
  induction i with
  | zero => simp [numV]
  | succ i ih => rw [numV, ih, ← BitVec.shiftRight_add, Nat.mul_succ]
theorem lbyte_eq {len : Nat} (h : len ≤ 1000000) (m : Nat) : lbyte (BitVec.ofNat 64 len) m = (numV (BitVec.ofNat 64 len * 8#64) m).setWidth 8 := by
  rw [numV_eq]
  have e1 : BitVec.ofNat 64 len <<< 3 = BitVec.ofNat 64 len * 8#64 := by
    apply BitVec.eq_of_toNat_eq
    rw [BitVec.toNat_shiftLeft, BitVec.toNat_mul, Nat.shiftLeft_eq]; rfl
  have e2 : (BitVec.ofNat 64 len * 8#64).toNat = len * 8 := by
    rw [BitVec.toNat_mul, BitVec.toNat_ofNat, Nat.mod_eq_of_lt (by omega : len < 2 ^ 64)]
    show len * 8 % 2 ^ 64 = len * 8
    rw [Nat.mod_eq_of_lt (by omega)]
  have hz : ∀ m, 8 ≤ m → (BitVec.ofNat 64 len * 8#64) >>> (8 * m) = 0#64 := fun m hm => by
    apply BitVec.eq_of_toNat_eq
    rw [BitVec.toNat_ushiftRight, e2, Nat.shiftRight_eq_div_pow]
    apply Nat.div_eq_of_lt
    have : 2 ^ 64 ≤ 2 ^ (8 * m) := Nat.pow_le_pow_right (by decide) (by omega)
    omega
  unfold lbyte
  by_cases h8 : m < 8
  · rw [if_pos h8, e1]
  · rw [if_neg h8, hz m (by omega)]
    by_cases h9 : m = 8
    · rw [if_pos h9]
      have : BitVec.ofNat 64 len >>> 61 = 0#64 := by
        apply BitVec.eq_of_toNat_eq
        rw [BitVec.toNat_ushiftRight, BitVec.toNat_ofNat, Nat.mod_eq_of_lt (by omega : len < 2 ^ 64), Nat.shiftRight_eq_div_pow]
        exact Nat.div_eq_of_lt (by omega)
      rw [this]
    · rw [if_neg h9]; rfl
theorem lpad_num {len : Nat} (h : len ≤ 1000000) (z : List (BitVec 8)) (T j : Nat) (hj : j ≤ T) : lpad z (BitVec.ofNat 64 len) T j ++ numW (BitVec.ofNat 64 len * 8#64) (T - j) = z ++ numW (BitVec.ofNat 64 len * 8#64) T := by
  induction j with
  | zero => simp [lpad]
  | succ j ih =>
    rw [← ih (by omega), lpad, lbyte_eq h, List.append_assoc]
    rw [show T - j = (T - (j + 1)) + 1 by omega, show T - 1 - j = T - (j + 1) by omega, numW]
theorem zcount_rest (s : List (BitVec 8)) (b n : Nat) (hb : 0 < b) : zcount (restB b s).length n b = zcount s.length n b := by
  have e : (restB b s).length = s.length % b := by
    rw [length_restB]
    have := Nat.div_add_mod s.length b
    omega
  rw [e, zcount, zcount]
  have : (s.length % b + 1 + n) % b = (s.length + 1 + n) % b := by
    rw [Nat.add_assoc, Nat.add_assoc, Nat.mod_add_mod]
  rw [this]
theorem padW_eq {s : List (BitVec 8)} (hs : s.length ≤ 1000000) (b n : Nat) (hb : 0 < b) : padW s b n = s ++ endB s b n := by
  have := lpad_num hs (zpad (zcount s.length n b)) n n (Nat.le_refl _)
  rw [Nat.sub_self, numW, List.append_nil] at this
  rw [padW, endB, zcount_rest s b n hb, this, List.append_assoc]
def rW {n : Nat} (x : BitVec n) : BitVec 64 := x.setWidth 64
section
variable {n : Nat} (hn : n = 32 ∨ n = 64)
include hn
theorem le64 : n ≤ 64 := by omega
theorem dn_r (x : BitVec n) : (rW x).setWidth n = x := by
  have h := le64 hn
  apply BitVec.eq_of_toNat_eq
  have h1 := x.isLt
  have h2 : 2 ^ n ≤ 2 ^ 64 := Nat.pow_le_pow_right (by decide) h
  rw [rW, BitVec.toNat_setWidth, BitVec.toNat_setWidth, Nat.mod_eq_of_lt (by omega : x.toNat < 2 ^ 64), Nat.mod_eq_of_lt h1]
theorem mask_eq (y : BitVec 64) : y &&& maskR n = rW (y.setWidth n) := by
  rcases hn with rfl | rfl
  · apply BitVec.eq_of_toNat_eq
    rw [BitVec.toNat_and]
    show y.toNat &&& (2 ^ 32 - 1) = _
    rw [Nat.and_two_pow_sub_one_eq_mod, rW, BitVec.toNat_setWidth, BitVec.toNat_setWidth]
    omega
  · apply BitVec.eq_of_toNat_eq
    rw [BitVec.toNat_and]
    show y.toNat &&& (2 ^ 64 - 1) = _
    rw [Nat.and_two_pow_sub_one_eq_mod, rW, BitVec.toNat_setWidth, BitVec.toNat_setWidth]
    omega
theorem mask_dn : (maskR n).setWidth n = BitVec.allOnes n := by
  rcases hn with rfl | rfl <;> rfl
theorem r_shr (x : BitVec n) (k : Nat) : rW x >>> k = rW (x >>> k) := by
  apply BitVec.eq_of_toNat_eq
  have h1 := x.isLt
  have h2 : 2 ^ n ≤ 2 ^ 64 := Nat.pow_le_pow_right (by decide) (le64 hn)
  have h3 : x.toNat >>> k ≤ x.toNat := by rw [Nat.shiftRight_eq_div_pow]; exact Nat.div_le_self _ _
  rw [BitVec.toNat_ushiftRight, rW, rW, BitVec.toNat_setWidth, BitVec.toNat_setWidth, BitVec.toNat_ushiftRight, Nat.mod_eq_of_lt (by omega), Nat.mod_eq_of_lt (by omega)]
theorem r_xor (x y : BitVec n) : rW x ^^^ rW y = rW (x ^^^ y) := by rw [rW, rW, rW, BitVec.setWidth_xor]
theorem r_and (x y : BitVec n) : rW x &&& rW y = rW (x &&& y) := by rw [rW, rW, rW, BitVec.setWidth_and]
theorem r_zero : rW (0#n) = 0#64 := by simp [rW]
theorem tr_eq (x : BitVec n) (k : Nat) : trR n (rW x) k = rW (rorW x k) := by
  rcases hn with rfl | rfl
  · show (rorW ((rW x).setWidth 32) k).setWidth 64 = _
    rw [dn_r (.inl rfl)]; rfl
  · show rorW (rW x) k = _
    simp [rW]
theorem sum_eq (x : BitVec n) (b : Tri) : sumR n (rW x) b = rW (sum3W x b) := by
  rw [sumR, tr_eq hn, tr_eq hn, tr_eq hn, r_xor hn, r_xor hn]; rfl
theorem shf_eq (x : BitVec n) (b : Tri) : shfR n (rW x) b = rW (shf3W x b) := by
  rw [shfR, tr_eq hn, tr_eq hn, r_shr hn, r_xor hn, r_xor hn]; rfl
theorem dn_add (x y : BitVec 64) : (x + y).setWidth n = x.setWidth n + y.setWidth n := BitVec.setWidth_add _ _ (le64 hn)
theorem getD_r (l : List (BitVec n)) (i : Nat) : (l.map rW).getD i 0#64 = rW (l.getD i 0#n) := by
  rw [List.getD_eq_getElem?_getD, List.getD_eq_getElem?_getD, List.getElem?_map]
  cases l[i]? with
  | none => exact (r_zero hn).symm
  | some a => rfl
theorem set_r (l : List (BitVec n)) (i : Nat) (a : BitVec n) : (l.map rW).set i (rW a) = (l.set i a).map rW := by rw [List.map_set]
/-! ### a step of a block -/
variable {F : Fam n} {K : List (BitVec 64)} (h0 : F.big0 = b0R n) (h1 : F.big1 = b1R n) (h2 : F.small0 = b2R n) (h3 : F.small1 = b3R n) (hk : ∀ t, K.getD t 0#64 >>> upR n = rW (F.k.getD t 0#n)) (hK : K.length = F.k.length)
theorem ch_eq (a b c : BitVec n) : (a &&& b) ||| (~~~a &&& c) = (a &&& b) ^^^ ((BitVec.allOnes n ^^^ a) &&& c) := by
  ext i hi
  simp [hi]
  cases a[i] <;> cases b[i] <;> cases c[i] <;> rfl
theorem maj_eq (a b c : BitVec n) : ((a &&& b) ||| (a &&& c)) ||| (b &&& c) = (a &&& b) ^^^ (a &&& c) ^^^ (b &&& c) := by
  ext i hi
  simp [hi]
  cases a[i] <;> cases b[i] <;> cases c[i] <;> rfl
include h1 hk in
theorem t1_eq (s : List (BitVec n)) (t : Nat) (w : BitVec n) : (t1R n (s.map rW) (K.getD t 0#64) (rW w)).setWidth n = t1W F s (F.k.getD t 0#n) w := by
  rw [t1R, hk]
  simp only [getD_r hn, sum_eq hn, dn_add hn, dn_r hn, BitVec.setWidth_xor, BitVec.setWidth_and, mask_dn hn]
  rw [← ch_eq hn, t1W, h1]
include h0 in
theorem t2_eq (s : List (BitVec n)) : (t2R n (s.map rW)).setWidth n = t2W F s := by
  rw [t2R]
  simp only [getD_r hn, sum_eq hn, dn_add hn, dn_r hn, BitVec.setWidth_xor, BitVec.setWidth_and]
  rw [← maj_eq hn, t2W, h0]
include h0 h1 hk in
theorem stp_eq (s : List (BitVec n)) (hs : s.length = 8) (t : Nat) (w : BitVec n) : stpR n (s.map rW) (K.getD t 0#64) (rW w) = (stepW F s (F.k.getD t 0#n) w).map rW := by
  have e : stepW F s (F.k.getD t 0#n) w = [t1W F s (F.k.getD t 0#n) w + t2W F s, s.getD 0 0#n, s.getD 1 0#n, s.getD 2 0#n, s.getD 3 0#n + t1W F s (F.k.getD t 0#n) w, s.getD 4 0#n, s.getD 5 0#n, s.getD 6 0#n] := by
    obtain ⟨a0, a1, a2, a3, a4, a5, a6, a7, rfl⟩ := list8 hs
    rfl
  rw [e, stpR]
  simp only [mask_eq hn, dn_add hn, t1_eq hn h1 hk, t2_eq hn h0, getD_r hn, dn_r hn]
  rfl
include h0 h1 hk in
theorem rnd_eq (w st : List (BitVec n)) (hs : st.length = 8) (t : Nat) : rndR n K (w.map rW) (st.map rW) t = (roundW F w st t).map rW := by
  induction t with
  | zero => rfl
  | succ t ih => rw [rndR, ih, getD_r hn, stp_eq hn h0 h1 hk _ (length_roundW F w st t hs), roundW]
theorem add_eq (x st : List (BitVec n)) (i : Nat) : addR n (x.map rW) (st.map rW) i = (addH st x i).map rW := by
  induction i with
  | zero => rfl
  | succ i ih => rw [addR, ih, getD_r hn, getD_r hn, mask_eq hn, dn_add hn, dn_r hn, dn_r hn, set_r hn, addH]
include h2 h3 in
theorem sch_eq (p : List (BitVec 8)) (b : List (BitVec 8)) (base : Nat) (h16 : f16R n K p base 16 = (first16 n b F.k.length 16).map rW) (t : Nat) : schR n K p base t = (schedW F b t).map rW := by
  induction t with
  | zero => exact h16
  | succ t ih =>
    rw [schR, ih]
    simp only [getD_r hn, shf_eq hn, mask_eq hn, dn_add hn, dn_r hn]
    rw [set_r hn, schedW, h2, h3]
end
section
variable {n : Nat} (hn : n = 32 ∨ n = 64)
include hn
theorem nb_eq : nbR n = n / 8 := by rcases hn with rfl | rfl <;> rfl
/-- a word, byte by byte -/
theorem acc_eq (p : List (BitVec 8)) (l : List (BitVec n)) (q : List (BitVec 8)) (base t : Nat) (hq : ∀ i, i < n / 8 → q.getD i 0#8 = p.getD (base + t * nbR n + i) 0#8) (h0 : l.getD t 0#n = 0#n) (ht : t < l.length) (i : Nat) (hi : i ≤ n / 8) :
    accR n p (l.map rW) base t i = (accW n l q t i).map rW ∧ ((accW n l q t i).getD t 0#n).toNat < 2 ^ (8 * i) := by
  induction i with
  | zero => exact ⟨rfl, by rw [accW, h0]; simp⟩
  | succ i ih =>
    obtain ⟨e, hlt⟩ := ih (by omega)
    have h64 := le64 hn
    have hpow : 2 ^ (8 * i) ≤ 2 ^ (n - 8) := Nat.pow_le_pow_right (by decide) (by rcases hn with rfl | rfl <;> omega)
    have hn8 : 8 ≤ n := by rcases hn with rfl | rfl <;> omega
    have hsh : ((accW n l q t i).getD t 0#n <<< 8).toNat = ((accW n l q t i).getD t 0#n).toNat * 2 ^ 8 := by
      rw [BitVec.toNat_shiftLeft, Nat.shiftLeft_eq, Nat.mod_eq_of_lt]
      calc ((accW n l q t i).getD t 0#n).toNat * 2 ^ 8 < 2 ^ (n - 8) * 2 ^ 8 := Nat.mul_lt_mul_of_pos_right (by omega) (by decide)
        _ = 2 ^ n := by rw [← Nat.pow_add]; congr 1; omega
    have hb : ((q.getD i 0#8).setWidth n).toNat = (q.getD i 0#8).toNat := by
      rw [BitVec.toNat_setWidth, Nat.mod_eq_of_lt]
      exact Nat.lt_of_lt_of_le (q.getD i 0#8).isLt (Nat.pow_le_pow_right (by decide) hn8)
    have hw : rW ((accW n l q t i).getD t 0#n <<< 8 ||| (q.getD i 0#8).setWidth n) = rW ((accW n l q t i).getD t 0#n) <<< 8 ||| (p.getD (base + t * nbR n + i) 0#8).setWidth 64 := by
      rw [← hq i (by omega)]
      apply BitVec.eq_of_toNat_eq
      have hx := ((accW n l q t i).getD t 0#n).isLt
      have h2 : 2 ^ n ≤ 2 ^ 64 := Nat.pow_le_pow_right (by decide) h64
      have hlt2 : ((accW n l q t i).getD t 0#n).toNat * 2 ^ 8 < 2 ^ 64 := by
        rw [← hsh]
        exact Nat.lt_of_lt_of_le (BitVec.isLt _) h2
      have hq8 : (q.getD i 0#8).toNat < 2 ^ 64 := Nat.lt_of_lt_of_le (q.getD i 0#8).isLt (by decide)
      have hor : ((accW n l q t i).getD t 0#n <<< 8 ||| (q.getD i 0#8).setWidth n).toNat < 2 ^ 64 := Nat.lt_of_lt_of_le (BitVec.isLt _) h2
      rw [rW, BitVec.toNat_setWidth, Nat.mod_eq_of_lt hor, BitVec.toNat_or, BitVec.toNat_or, hsh, hb, rW, BitVec.toNat_shiftLeft, BitVec.toNat_setWidth, BitVec.toNat_setWidth, Nat.mod_eq_of_lt (by omega : ((accW n l q t i).getD t 0#n).toNat < 2 ^ 64), Nat.shiftLeft_eq, Nat.mod_eq_of_lt hlt2, Nat.mod_eq_of_lt hq8]
    refine ⟨by rw [accR, e, getD_r hn, ← hw, set_r hn, accW], ?_⟩
    rw [accW]
    have : ((accW n l q t i).set t ((accW n l q t i).getD t 0#n <<< 8 ||| (q.getD i 0#8).setWidth n)).getD t 0#n = (accW n l q t i).getD t 0#n <<< 8 ||| (q.getD i 0#8).setWidth n := by
      simp [List.getD_eq_getElem?_getD, length_accW, ht]
    rw [this, BitVec.toNat_or, hsh, hb]
    apply Nat.or_lt_two_pow
    · calc ((accW n l q t i).getD t 0#n).toNat * 2 ^ 8 < 2 ^ (8 * i) * 2 ^ 8 := Nat.mul_lt_mul_of_pos_right hlt (by decide)
        _ = 2 ^ (8 * (i + 1)) := by rw [← Nat.pow_add]; congr 1
    · exact Nat.lt_of_lt_of_le (q.getD i 0#8).isLt (Nat.pow_le_pow_right (by decide) (by omega))
end
theorem accW_other {n : Nat} (l : List (BitVec n)) (q : List (BitVec 8)) (t t' i : Nat) (h : t ≠ t') : (accW n l q t i).getD t' 0#n = l.getD t' 0#n := by
  induction i with
  | zero => rfl
  | succ i ih =>
    rw [accW, ← ih]
    simp [List.getD_eq_getElem?_getD, List.getElem?_set_ne h]
theorem first16_zero {n : Nat} (b : List (BitVec 8)) (m t t' : Nat) (h : t ≤ t') : (first16 n b m t).getD t' 0#n = 0#n := by
  induction t with
  | zero =>
    rw [first16]
    simp [List.getD_eq_getElem?_getD, List.getElem?_replicate]
    split <;> rfl
  | succ t ih => rw [first16, accW_other _ _ _ _ _ (by omega), ih (by omega)]
theorem cutB_get (b : List (BitVec 8)) (t sz i : Nat) (hi : i < sz) : (cutB b t sz).getD i 0#8 = b.getD (t * sz + i) 0#8 := by
  have e : (t + 1) * sz - t * sz = sz := by rw [Nat.succ_mul]; omega
  rw [cutB, e, List.getD_eq_getElem?_getD, List.getD_eq_getElem?_getD, List.getElem?_take, if_pos hi, List.getElem?_drop]
section
variable {n : Nat} (hn : n = 32 ∨ n = 64)
include hn
theorem f16_eq (K : List (BitVec 64)) (p b : List (BitVec 8)) (base m : Nat) (hm : K.length = m) (hm16 : 16 ≤ m) (hb : ∀ j, j < 2 * n → b.getD j 0#8 = p.getD (base + j) 0#8) (t : Nat) (ht : t ≤ 16) : f16R n K p base t = (first16 n b m t).map rW := by
  induction t with
  | zero =>
    rw [f16R, first16, hm, List.map_replicate, r_zero hn]
  | succ t ih =>
    rw [f16R, ih (by omega), first16]
    have h8 : n / 8 * 8 = n := by rcases hn with rfl | rfl <;> rfl
    rw [nb_eq hn]
    refine (acc_eq hn p (first16 n b m t) (cutB b t (n / 8)) base t (fun i hi => ?_) (first16_zero _ _ _ _ (Nat.le_refl _)) (by rw [length_first16]; omega) (n / 8) (Nat.le_refl _)).1
    rw [cutB_get _ _ _ _ hi, nb_eq hn, Nat.add_assoc, hb]
    have : (t + 1) * (n / 8) ≤ 16 * (n / 8) := Nat.mul_le_mul_right _ (by omega)
    rw [Nat.succ_mul] at this
    omega
variable {F : Fam n} {K H : List (BitVec 64)} (h0 : F.big0 = b0R n) (h1 : F.big1 = b1R n) (h2 : F.small0 = b2R n) (h3 : F.small1 = b3R n) (hk : ∀ t, K.getD t 0#64 >>> upR n = rW (F.k.getD t 0#n)) (hK : K.length = F.k.length) (hK16 : 16 ≤ F.k.length)
include h0 h1 h2 h3 hk hK hK16
theorem blk_eq (p b : List (BitVec 8)) (base : Nat) (st : List (BitVec n)) (hs : st.length = 8) (hb : ∀ j, j < 2 * n → b.getD j 0#8 = p.getD (base + j) 0#8) : blkR n K p (st.map rW) base = (blockW F st b).map rW := by
  rw [blkR, hK, sch_eq hn h2 h3 p b base (f16_eq hn K p b base F.k.length hK hK16 hb 16 (Nat.le_refl _)), rnd_eq hn h0 h1 hk _ _ hs, add_eq hn, blockW]
theorem feed_eq (p : List (BitVec 8)) (hh : List (BitVec n)) (h8 : hh.length = 8) (hH : initR n H 8 = hh.map rW) (m : Nat) (hm : 2 * n * m ≤ p.length) : feedR n K H p m = (fdH F (2 * n) hh p m).map rW := by
  induction m with
  | zero => exact hH
  | succ m ih =>
    have e : 16 * nbR n = 2 * n := by rcases hn with rfl | rfl <;> rfl
    have hm' : 2 * n * m + 2 * n ≤ p.length := by rw [← Nat.mul_succ]; exact hm
    rw [feedR, ih (by omega), fdH, e]
    refine blk_eq hn h0 h1 h2 h3 hk hK hK16 p _ _ _ (by rw [length_fdH, h8]) (fun j hj => ?_)
    rw [List.drop_zero, Nat.sub_zero, List.getD_eq_getElem?_getD, List.getD_eq_getElem?_getD, List.getElem?_take, if_pos hj, List.getElem?_drop]
end
section
variable {n : Nat} (hn : n = 32 ∨ n = 64)
include hn
theorem wout_num (out : List (BitVec 8)) (a : BitVec n) (j : Nat) (hj : j ≤ n / 8) : wout out a j ++ numW (rW a) (n / 8 - j) = out ++ numW (rW a) (n / 8) := by
  induction j with
  | zero => simp [wout]
  | succ j ih =>
    rw [← ih (by omega), wout, List.append_assoc, show n / 8 - j = (n / 8 - (j + 1)) + 1 by omega, numW]
    have e : (a >>> (n - 8 - 8 * j)).setWidth 8 = (numV (rW a) (n / 8 - (j + 1))).setWidth 8 := by
      have h8 : n / 8 * 8 = n := by rcases hn with rfl | rfl <;> rfl
      rw [numV_eq, show 8 * (n / 8 - (j + 1)) = n - 8 - 8 * j by omega, r_shr hn]
      apply BitVec.eq_of_toNat_eq
      have h64 := le64 hn
      have h2 : 2 ^ n ≤ 2 ^ 64 := Nat.pow_le_pow_right (by decide) h64
      rw [rW, BitVec.toNat_setWidth, BitVec.toNat_setWidth, BitVec.toNat_setWidth, Nat.mod_eq_of_lt (Nat.lt_of_lt_of_le (BitVec.isLt _) h2)]
    rw [e]
theorem out_eq (st : List (BitVec n)) (i : Nat) : outR n (st.map rW) i = hout st i := by
  induction i with
  | zero => rfl
  | succ i ih =>
    rw [outR, ih, hout, getD_r hn, nb_eq hn]
    have := wout_num hn (hout st i) (st.getD i 0#n) (n / 8) (Nat.le_refl _)
    rw [Nat.sub_self, numW, List.append_nil] at this
    exact this.symm
end
end Go.Proofs.YtjhjjhpfjadjpaaDoor
