/- The plain laws of the block cipher: the program's tables and its way are the reference's. -/
import Derived.Test.YtpihffpdkfkkhaaDoorMD
import Derived.KernelRfl
namespace Go.Proofs.YtpihffpdkfkkhaaDoor
set_option linter.all false
open Go
def dN (a : Nat) : Nat := match Nat.ble 128 a with | true => Nat.xor (2 * a) 283 | false => 2 * a
def prN : Nat → Nat → Nat → Nat → Nat
  | 0, _, _, p => p
  | k+1, a, b, p => prN k (dN a) (b / 2) (match b % 2 with | 0 => p | _ => Nat.xor p a)
def pwN (x : Nat) : Nat → Nat → Nat
  | 0, p => p
  | k+1, p => pwN x k (prN 8 p x 0)
theorem dN_ok : ∀ a : BitVec 8, dN a.toNat = (pr1 a).toNat := by decide +kernel
theorem and1 : ∀ b : BitVec 8, (b &&& 1#8 = 1#8) ↔ b.toNat % 2 = 1 := by decide +kernel
theorem prN_ok (a b : BitVec 8) (k : Nat) : ∀ i, prN k (prS a b i).1.toNat (prS a b i).2.1.toNat (prS a b i).2.2.toNat = (prS a b (i + k)).2.2.toNat := by
  induction k with
  | zero => intro i; rfl
  | succ k ih =>
    intro i
    rw [prN, show i + (k + 1) = (i + 1) + k by omega, ← ih (i + 1), dN_ok]
    have e2 : (prS a b i).2.1.toNat / 2 = (prS a b (i + 1)).2.1.toNat := by
      rw [prS, BitVec.toNat_ushiftRight, Nat.shiftRight_eq_div_pow]
    rw [e2]
    have h1 := and1 (prS a b i).2.1
    congr 1
    rw [prS]
    by_cases h : (prS a b i).2.1 &&& 1#8 = 1#8
    · rw [if_pos h, h1.1 h, BitVec.toNat_xor]; rfl
    · have h3 : (prS a b i).2.1.toNat % 2 = 0 := by
        have := mt h1.2 h
        omega
      rw [if_neg h, h3]; rfl
theorem prL_ok (a b : BitVec 8) : prN 8 a.toNat b.toNat 0 = (prL a b).toNat := prN_ok a b 8 0
theorem pwN_ok (x : BitVec 8) (k : Nat) : ∀ i, pwN x.toNat k (pw x i).toNat = (pw x (i + k)).toNat := by
  induction k with
  | zero => intro i; rfl
  | succ k ih =>
    intro i
    rw [pwN, prL_ok, show i + (k + 1) = (i + 1) + k by omega, ← ih (i + 1), pw]
theorem dbl_eq : ∀ x : BitVec 8, dbl x = prL 2#8 x := by decide +kernel
theorem dbl_eq' : ∀ x : BitVec 8, dbl x = prL x 2#8 := by decide +kernel
theorem tri_eq : ∀ x : BitVec 8, dbl x ^^^ x = prL 3#8 x := by decide +kernel
theorem dbl_xor (a b : BitVec 8) : dbl (a ^^^ b) = dbl a ^^^ dbl b := by
  have h : ∀ x : BitVec 8, dbl x = (x <<< 1) ^^^ (if x.msb then 27#8 else 0#8) := by decide +kernel
  rw [h, h, h, BitVec.msb_xor, BitVec.shiftLeft_xor_distrib]
  have e : (if (a.msb ^^ b.msb) = true then 27#8 else 0#8) = (if a.msb = true then 27#8 else 0#8) ^^^ (if b.msb = true then 27#8 else 0#8) := by
    cases a.msb <;> cases b.msb <;> rfl
  rw [e]
  ac_rfl
theorem list16 {α : Type} {s : List α} (h : s.length = 16) : ∃ a0 a1 a2 a3 a4 a5 a6 a7 a8 a9 a10 a11 a12 a13 a14 a15, s = [a0, a1, a2, a3, a4, a5, a6, a7, a8, a9, a10, a11, a12, a13, a14, a15] := by
  match s, h with
  | [a0, a1, a2, a3, a4, a5, a6, a7, a8, a9, a10, a11, a12, a13, a14, a15], _ => exact ⟨_, _, _, _, _, _, _, _, _, _, _, _, _, _, _, _, rfl⟩
theorem rows_eq {s : List (BitVec 8)} (h : s.length = 16) : rowsL s 16 = rowR s 16 := by
  obtain ⟨a0, a1, a2, a3, a4, a5, a6, a7, a8, a9, a10, a11, a12, a13, a14, a15, rfl⟩ := list16 h
  kernel_rfl
/-- one column -/
def colM (a b c d : BitVec 8) : BitVec 8 := prL 2#8 a ^^^ prL 3#8 b ^^^ c ^^^ d
theorem col_eq (a b c d : BitVec 8) : a ^^^ ((a ^^^ b ^^^ c ^^^ d) ^^^ dbl (a ^^^ b)) = colM a b c d := by
  rw [colM, ← dbl_eq, ← tri_eq, dbl_xor]
  have : a ^^^ a = 0#8 := BitVec.xor_self
  calc a ^^^ ((a ^^^ b ^^^ c ^^^ d) ^^^ (dbl a ^^^ dbl b)) = (a ^^^ a) ^^^ (dbl a ^^^ (dbl b ^^^ b) ^^^ c ^^^ d) := by ac_rfl
    _ = _ := by rw [this, BitVec.zero_xor]
theorem col_eq1 (a b c d : BitVec 8) : b ^^^ ((a ^^^ b ^^^ c ^^^ d) ^^^ dbl (b ^^^ c)) = colM b c d a := by
  rw [← col_eq]; congr 2; ac_rfl
theorem col_eq2 (a b c d : BitVec 8) : c ^^^ ((a ^^^ b ^^^ c ^^^ d) ^^^ dbl (c ^^^ d)) = colM c d a b := by
  rw [← col_eq]; congr 2; ac_rfl
theorem col_eq3 (a b c d : BitVec 8) : d ^^^ ((a ^^^ b ^^^ c ^^^ d) ^^^ dbl (d ^^^ a)) = colM d a b c := by
  rw [← col_eq]; congr 2; ac_rfl
theorem mix_eq {s : List (BitVec 8)} (h : s.length = 16) : mixL s 4 = mixR s 16 := by
  obtain ⟨a0, a1, a2, a3, a4, a5, a6, a7, a8, a9, a10, a11, a12, a13, a14, a15, rfl⟩ := list16 h
  have h0 : ∀ a0 a1 a2 a3 a4 a5 a6 a7 a8 a9 a10 a11 a12 a13 a14 a15 : BitVec 8, mixC [a0, a1, a2, a3, a4, a5, a6, a7, a8, a9, a10, a11, a12, a13, a14, a15] 0 = [colM a0 a1 a2 a3, colM a1 a2 a3 a0, colM a2 a3 a0 a1, colM a3 a0 a1 a2, a4, a5, a6, a7, a8, a9, a10, a11, a12, a13, a14, a15] := by
    intros; rw [← col_eq, ← col_eq1, ← col_eq2, ← col_eq3]; rfl
  have h1 : ∀ a0 a1 a2 a3 a4 a5 a6 a7 a8 a9 a10 a11 a12 a13 a14 a15 : BitVec 8, mixC [a0, a1, a2, a3, a4, a5, a6, a7, a8, a9, a10, a11, a12, a13, a14, a15] 1 = [a0, a1, a2, a3, colM a4 a5 a6 a7, colM a5 a6 a7 a4, colM a6 a7 a4 a5, colM a7 a4 a5 a6, a8, a9, a10, a11, a12, a13, a14, a15] := by
    intros; rw [← col_eq, ← col_eq1, ← col_eq2, ← col_eq3]; rfl
  have h2 : ∀ a0 a1 a2 a3 a4 a5 a6 a7 a8 a9 a10 a11 a12 a13 a14 a15 : BitVec 8, mixC [a0, a1, a2, a3, a4, a5, a6, a7, a8, a9, a10, a11, a12, a13, a14, a15] 2 = [a0, a1, a2, a3, a4, a5, a6, a7, colM a8 a9 a10 a11, colM a9 a10 a11 a8, colM a10 a11 a8 a9, colM a11 a8 a9 a10, a12, a13, a14, a15] := by
    intros; rw [← col_eq, ← col_eq1, ← col_eq2, ← col_eq3]; rfl
  have h3 : ∀ a0 a1 a2 a3 a4 a5 a6 a7 a8 a9 a10 a11 a12 a13 a14 a15 : BitVec 8, mixC [a0, a1, a2, a3, a4, a5, a6, a7, a8, a9, a10, a11, a12, a13, a14, a15] 3 = [a0, a1, a2, a3, a4, a5, a6, a7, a8, a9, a10, a11, colM a12 a13 a14 a15, colM a13 a14 a15 a12, colM a14 a15 a12 a13, colM a15 a12 a13 a14] := by
    intros; rw [← col_eq, ← col_eq1, ← col_eq2, ← col_eq3]; rfl
  rw [mixL, mixL, mixL, mixL, mixL, h0, h1, h2, h3]
  show _ = _
  kernel_rfl
/-! ### the table -/
theorem subst_all : (List.range 256).map (fun x => (sbx (BitVec.ofNat 8 (pwN x 254 1))).toNat) = (lowsT ++ highsT).map BitVec.toNat := by decide +kernel
set_option maxRecDepth 100000 in
theorem box_all : ∀ x : BitVec 8, (lowsT ++ highsT).getD x.toNat 0#8 = boxT x := by decide +kernel
theorem box_eq (x : BitVec 8) : boxT x = subst1 x := by
  have h1 := congrArg (fun l => l.getD x.toNat 0) subst_all
  have hx : x.toNat < 256 := x.isLt
  have h2 : pwN x.toNat 254 1 = (pw x 254).toNat := pwN_ok x 254 0
  have hl0 : (lowsT ++ highsT).length = 256 := by kernel_rfl
  have hl : x.toNat < (lowsT ++ highsT).length := by rw [hl0]; exact hx
  have e1 : ((List.range 256).map (fun x => (sbx (BitVec.ofNat 8 (pwN x 254 1))).toNat)).getD x.toNat 0 = (sbx (BitVec.ofNat 8 (pwN x.toNat 254 1))).toNat := by
    rw [List.getD_eq_getElem?_getD, List.getElem?_map, List.getElem?_range hx]; rfl
  have e2 : ((lowsT ++ highsT).map BitVec.toNat).getD x.toNat 0 = ((lowsT ++ highsT).getD x.toNat 0#8).toNat := by
    rw [List.getD_eq_getElem?_getD, List.getElem?_map, List.getD_eq_getElem?_getD, List.getElem?_eq_getElem hl]; rfl
  have h3 : (sbx (BitVec.ofNat 8 (pwN x.toNat 254 1))).toNat = ((lowsT ++ highsT).getD x.toNat 0#8).toNat := e1.symm.trans (h1.trans e2)
  rw [h2, box_all, BitVec.ofNat_toNat, BitVec.setWidth_eq] at h3
  rw [subst1]
  exact (BitVec.eq_of_toNat_eq h3).symm
theorem boxR_get (m k : Nat) (h : k < m) : (boxR m).getD k 0#8 = subst1 (BitVec.ofNat 8 k) := by
  induction m with
  | zero => omega
  | succ m ih =>
    rw [boxR, List.getD_eq_getElem?_getD]
    by_cases hk : k < m
    · rw [List.getElem?_append_left (by rw [length_boxR]; exact hk), ← List.getD_eq_getElem?_getD, ih hk]
    · obtain rfl : k = m := by omega
      rw [List.getElem?_append_right (by rw [length_boxR]; exact Nat.le_refl _), length_boxR, Nat.sub_self]; rfl
theorem box_get (x : BitVec 8) : (boxR 256).getD x.toNat 0#8 = boxT x := by
  rw [boxR_get 256 _ x.isLt, BitVec.ofNat_toNat, BitVec.setWidth_eq, box_eq]
theorem each_eq {s : List (BitVec 8)} (h : s.length = 16) : eachR s (boxR 256) 16 = subL boxT s 16 := by
  obtain ⟨a0, a1, a2, a3, a4, a5, a6, a7, a8, a9, a10, a11, a12, a13, a14, a15, rfl⟩ := list16 h
  have e : ∀ bx : List (BitVec 8), eachR [a0, a1, a2, a3, a4, a5, a6, a7, a8, a9, a10, a11, a12, a13, a14, a15] bx 16 = [bx.getD a0.toNat 0#8, bx.getD a1.toNat 0#8, bx.getD a2.toNat 0#8, bx.getD a3.toNat 0#8, bx.getD a4.toNat 0#8, bx.getD a5.toNat 0#8, bx.getD a6.toNat 0#8, bx.getD a7.toNat 0#8, bx.getD a8.toNat 0#8, bx.getD a9.toNat 0#8, bx.getD a10.toNat 0#8, bx.getD a11.toNat 0#8, bx.getD a12.toNat 0#8, bx.getD a13.toNat 0#8, bx.getD a14.toNat 0#8, bx.getD a15.toNat 0#8] := by
    intro bx; kernel_rfl
  rw [e]
  simp only [box_get]
  show _ = _
  kernel_rfl
theorem each_eq4 {a b c d : BitVec 8} : eachR [a, b, c, d] (boxR 256) 4 = [boxT a, boxT b, boxT c, boxT d] := by
  have e : ∀ bx : List (BitVec 8), eachR [a, b, c, d] bx 4 = [bx.getD a.toNat 0#8, bx.getD b.toNat 0#8, bx.getD c.toNat 0#8, bx.getD d.toNat 0#8] := by intro bx; kernel_rfl
  rw [e]
  simp only [box_get]
/-! ### the words -/
theorem flat4 (d : BitVec 8) : ∀ (ws : List (List (BitVec 8))), (∀ x ∈ ws, x.length = 4) → ∀ k j, k < ws.length → j < 4 → ws.flatten.getD (4 * k + j) d = (ws.getD k []).getD j d
  | [], _, k, j, hk, _ => by simp at hk
  | x :: r, h, 0, j, _, hj => by
    have hx := h x List.mem_cons_self
    rw [List.flatten_cons, List.getD_eq_getElem?_getD, List.getElem?_append_left (by omega)]
    simp
  | x :: r, h, k + 1, j, hk, hj => by
    have hx := h x List.mem_cons_self
    rw [List.flatten_cons, List.getD_eq_getElem?_getD, List.getElem?_append_right (by omega), hx, show 4 * (k + 1) + j - 4 = 4 * k + j by omega, ← List.getD_eq_getElem?_getD, flat4 d r (fun y hy => h y (List.mem_cons_of_mem _ hy)) k j (by simpa using hk) hj]
    simp
theorem flat4_len : ∀ (ws : List (List (BitVec 8))), (∀ x ∈ ws, x.length = 4) → ws.flatten.length = 4 * ws.length
  | [], _ => rfl
  | x :: r, h => by
    have hx := h x List.mem_cons_self
    rw [List.flatten_cons, List.length_append, hx, flat4_len r (fun y hy => h y (List.mem_cons_of_mem _ hy)), List.length_cons]
    omega
theorem list4 {s : List (BitVec 8)} (h : s.length = 4) : s = [s.getD 0 0#8, s.getD 1 0#8, s.getD 2 0#8, s.getD 3 0#8] := by
  match s, h with
  | [a, b, c, d], _ => rfl
theorem ext4 {s t : List (BitVec 8)} (hs : s.length = 4) (ht : t.length = 4) (h : ∀ j, j < 4 → s.getD j 0#8 = t.getD j 0#8) : s = t := by
  rw [list4 hs, list4 ht, h 0 (by omega), h 1 (by omega), h 2 (by omega), h 3 (by omega)]
theorem getD_drop_take (f : List (BitVec 8)) (a n j : Nat) (hj : j < n) : ((f.drop a).take n).getD j 0#8 = f.getD (a + j) 0#8 := by
  rw [List.getD_eq_getElem?_getD, List.getElem?_take, if_pos hj, List.getElem?_drop, ← List.getD_eq_getElem?_getD]
theorem kLast_eq {ws : List (List (BitVec 8))} (h : ∀ x ∈ ws, x.length = 4) (hi : 0 < ws.length) : kLast ws.flatten ws.length = ws.getD (ws.length - 1) [] := by
  have hl := flat4_len ws h
  have hw : (ws.getD (ws.length - 1) []).length = 4 := by
    have hlt : ws.length - 1 < ws.length := by omega
    have : ws.getD (ws.length - 1) [] = ws[ws.length - 1] := by simp [hlt]
    rw [this]; exact h _ (List.getElem_mem hlt)
  refine ext4 (length_kLast _ _) hw fun j hj => ?_
  rw [← flat4 0#8 ws h (ws.length - 1) j (by omega) hj]
  have e1 : ws.flatten.length - (4 * ws.length - 4) = 4 := by omega
  rw [kLast, e1, Nat.min_self, List.take_take, Nat.min_self, over_all (by rw [List.length_replicate, List.length_take, List.length_drop]; omega), getD_drop_take _ _ _ _ hj]
  congr 1
  omega
theorem kApp_eq (f : List (BitVec 8)) (i nk : Nat) (w : List (BitVec 8)) (p : List (BitVec 8)) (hp : ∀ j, j < 4 → f.getD (4 * (i - nk) + j) 0#8 = p.getD j 0#8) (hlt : 4 * (i - nk) + 4 ≤ f.length) : ∀ j, j ≤ 4 → kApp f i nk w j = f ++ xorA p w j
  | 0, _ => by simp [kApp, xorA]
  | j + 1, hj => by
    rw [kApp, kApp_eq f i nk w p hp hlt j (by omega), xorA, List.append_assoc]
    congr 3
    have : (f ++ xorA p w j).getD (4 * (i - nk) + j) 0#8 = f.getD (4 * (i - nk) + j) 0#8 := by
      rw [List.getD_eq_getElem?_getD, List.getElem?_append_left (by omega), ← List.getD_eq_getElem?_getD]
    rw [this, hp j (by omega)]
theorem xorA_congr {p t u : List (BitVec 8)} (h : ∀ j, j < 4 → t.getD j 0#8 = u.getD j 0#8) : ∀ k, k ≤ 4 → xorA p t k = xorA p u k
  | 0, _ => rfl
  | k + 1, hk => by rw [xorA, xorA, xorA_congr h k (by omega), h k (by omega)]
theorem mS_first (key bx : List (BitVec 8)) (nk : Nat) (hk : key.length = 4 * nk) : ∀ i, i ≤ nk → (mS key bx nk i).flatten = key.take (4 * i)
  | 0, _ => by simp [mS]
  | i + 1, hi => by
    rw [mS, List.flatten_append, mS_first key bx nk hk i (by omega), mW, if_pos (by omega), show 4 * (i + 1) = 4 * i + 4 by omega, List.take_add]
    simp
theorem word_eq (ws : List (List (BitVec 8))) (h : ∀ x ∈ ws, x.length = 4) (hi : 0 < ws.length) (nk : Nat) (r : BitVec 8) (hr : ws.length % nk = 0 → r = rconR (ws.length / nk - 1)) (hnk : nk = 4 ∨ nk = 8) :
    kWord ws.flatten ws.length nk r = mT (boxR 256) nk ws.length (ws.getD (ws.length - 1) []) := by
  have hl := kLast_eq h hi
  have hw : (ws.getD (ws.length - 1) []).length = 4 := by rw [← hl]; exact length_kLast _ _
  rw [kWord, mT, hl]
  generalize ws.getD (ws.length - 1) [] = t at *
  by_cases h0 : ws.length % nk = 0
  · rw [if_pos h0, if_pos h0, ← hr h0, turnW, each_eq4]; rfl
  · rw [if_neg h0, if_neg h0]
    by_cases h8 : nk = 8 ∧ ws.length % 8 = 4
    · rw [if_pos h8, if_pos h8]
      rw [list4 hw, each_eq4]
      show _ = _
      kernel_rfl
    · rw [if_neg h8, if_neg h8]
theorem sched (key : List (BitVec 8)) (nk : Nat) (hnk : nk = 4 ∨ nk = 8) (hk : key.length = 4 * nk) : ∀ t, (kS key nk t).1 = (mS key (boxR 256) nk (nk + t)).flatten ∧ (kS key nk t).2 = rconR ((t + nk - 1) / nk)
  | 0 => by
    refine ⟨?_, ?_⟩
    · rw [Nat.add_zero, mS_first key _ nk hk nk (Nat.le_refl _), ← hk, List.take_length]; rfl
    · rcases hnk with rfl | rfl <;> rfl
  | t + 1 => by
    obtain ⟨h1, h2⟩ := sched key nk hnk hk t
    have h4 := mS_four (bx := boxR 256) hk (nk + t)
    have hlen := length_mS key (boxR 256) nk (nk + t)
    have hfl := flat4_len _ h4
    have hpos : 0 < nk := by rcases hnk with rfl | rfl <;> omega
    have hr : ∀ m, m = nk + t → m % nk = 0 → (kS key nk t).2 = rconR (m / nk - 1) := by
      rintro m rfl h0
      rw [h2]
      congr 1
      rcases hnk with rfl | rfl <;> omega
    have hw := word_eq (mS key (boxR 256) nk (nk + t)) h4 (by omega) nk (kS key nk t).2 (fun h0 => hr _ hlen h0) hnk
    rw [hlen] at hw
    refine ⟨?_, ?_⟩
    · show kApp (kS key nk t).1 (nk + t) nk (kWord (kS key nk t).1 (nk + t) nk (kS key nk t).2) 4 = _
      rw [h1, hw, kApp_eq _ _ _ _ ((mS key (boxR 256) nk (nk + t)).getD (nk + t - nk) []) (fun j hj => flat4 0#8 _ h4 _ _ (by omega) hj) (by omega) 4 (Nat.le_refl _), ← Nat.add_assoc, mS, mW, if_neg (by omega), List.flatten_append]
      simp
    · show (if (nk + t) % nk = 0 then dbl (kS key nk t).2 else (kS key nk t).2) = _
      rw [h2]
      by_cases h0 : (nk + t) % nk = 0
      · rw [if_pos h0, dbl_eq']
        have : (t + 1 + nk - 1) / nk = (t + nk - 1) / nk + 1 := by rcases hnk with rfl | rfl <;> omega
        rw [this, rconR]
      · rw [if_neg h0]
        congr 1
        rcases hnk with rfl | rfl <;> omega
/-! ### the rounds -/
theorem add_eq (s k : List (BitVec 8)) (ws : List (List (BitVec 8))) (r : Nat) (h : ∀ i, i < 16 → k.getD i 0#8 = (ws.getD (4 * r + i / 4) []).getD (i % 4) 0#8) : ∀ i, i ≤ 16 → addL s k i = addR s ws r i
  | 0, _ => rfl
  | i + 1, hi => by rw [addL, addR, add_eq s k ws r h i (by omega), h i (by omega)]
theorem enc_same (key blk : List (BitVec 8)) (nk : Nat) (hnk : nk = 4 ∨ nk = 8) (hk : key.length = 4 * nk) (hb : blk.length = 16) : ∀ r, r ≤ nk + 6 →
    encS (kS key nk (3 * nk + 28)).1 (nk + 7) blk r = encQ blk (mS key (boxR 256) nk (4 * (nk + 7))) (boxR 256) (nk + 6) r := by
  obtain ⟨h1, _⟩ := sched key nk hnk hk (3 * nk + 28)
  rw [show nk + (3 * nk + 28) = 4 * (nk + 7) by omega] at h1
  have h4 := mS_four (bx := boxR 256) hk (4 * (nk + 7))
  have hlen := length_mS key (boxR 256) nk (4 * (nk + 7))
  have key' : ∀ r, r ≤ nk + 6 → ∀ i, i < 16 → (kS key nk (3 * nk + 28)).1.getD (16 * r + i) 0#8 = ((mS key (boxR 256) nk (4 * (nk + 7))).getD (4 * r + i / 4) []).getD (i % 4) 0#8 := by
    intro r hr i hi
    rw [h1, show 16 * r + i = 4 * (4 * r + i / 4) + i % 4 by omega, flat4 0#8 _ h4 _ _ (by omega) (by omega)]
  intro r
  induction r with
  | zero =>
    intro _
    rw [encS, encQ]
    refine add_eq _ _ _ _ (fun i hi => ?_) 16 (Nat.le_refl _)
    rw [getD_drop_take _ _ _ _ hi, ← key' 0 (by omega) i hi]
  | succ r ih =>
    intro hr
    rw [encS, encQ, ← ih (by omega)]
    have hs : (encS (kS key nk (3 * nk + 28)).1 (nk + 7) blk r).length = 16 := by rw [length_encS, hb]
    have e1 : (if r + 2 < nk + 7 then mixL (encT (encS (kS key nk (3 * nk + 28)).1 (nk + 7) blk r)) 4 else encT (encS (kS key nk (3 * nk + 28)).1 (nk + 7) blk r)) = rndR (encS (kS key nk (3 * nk + 28)).1 (nk + 7) blk r) (boxR 256) (decide (nk + 6 ≤ r + 1)) := by
      generalize encS (kS key nk (3 * nk + 28)).1 (nk + 7) blk r = s at *
      have e2 : encT s = rowR (eachR s (boxR 256) 16) 16 := by
        rw [encT, each_eq hs, rows_eq (by rw [length_subL, hs])]
      rw [rndR, e2]
      by_cases hc : r + 2 < nk + 7
      · have : decide (nk + 6 ≤ r + 1) = false := decide_eq_false (by omega)
        rw [if_pos hc, this, mix_eq (length_rowR _ _)]; rfl
      · have : decide (nk + 6 ≤ r + 1) = true := decide_eq_true (by omega)
        rw [if_neg hc, this]; rfl
    rw [e1]
    refine add_eq _ _ _ _ (fun i hi => ?_) 16 (Nat.le_refl _)
    rw [← key' (r + 1) (by omega) i hi, keyOf, getD_drop_take _ _ _ _ hi, getD_drop_take _ _ _ _ (by omega)]
    rw [show 1 * 16 + (r * 16 + i) = 16 * (r + 1) + i by omega]
end Go.Proofs.YtpihffpdkfkkhaaDoor
