/- The plain laws of sealing: the program's way is the reference's; what is sealed opens. -/
import Derived.Test.YtpihffpdkfkkhaaDoorME
import Derived.Test.YtpihffpdkfkkhaaDoorGC
import Derived.Test.YtpihffpdkfkkhaaDoorGD
namespace Go.Proofs.YtpihffpdkfkkhaaDoor
set_option linter.all false
open Go
theorem ext_getD {l m : List (BitVec 8)} (h : l.length = m.length) (hj : ∀ j, j < l.length → l.getD j 0#8 = m.getD j 0#8) : l = m := by
  apply List.ext_getElem h
  intro i h1 h2
  have := hj i h1
  simpa [h1, h2] using this
theorem list12 {α : Type} {s : List α} (h : s.length = 12) : ∃ a0 a1 a2 a3 a4 a5 a6 a7 a8 a9 a10 a11, s = [a0, a1, a2, a3, a4, a5, a6, a7, a8, a9, a10, a11] := by
  match s, h with
  | [a0, a1, a2, a3, a4, a5, a6, a7, a8, a9, a10, a11], _ => exact ⟨_, _, _, _, _, _, _, _, _, _, _, _, rfl⟩
theorem shr_up (c : BitVec 32) (k : Nat) : ((c.setWidth 64) >>> k).setWidth 8 = (c >>> k).setWidth 8 := by
  apply BitVec.eq_of_toNat_eq
  simp only [BitVec.toNat_setWidth, BitVec.toNat_ushiftRight]
  have := c.isLt
  rw [Nat.mod_eq_of_lt (a := c.toNat) (by omega)]
theorem ctr_eq (nonce : List (BitVec 8)) (h : nonce.length = 12) (c : BitVec 32) : ctrL nonce c 4 = nonce ++ highL (c.setWidth 64) 4 := by
  obtain ⟨a0, a1, a2, a3, a4, a5, a6, a7, a8, a9, a10, a11, rfl⟩ := list12 h
  have e : highL (c.setWidth 64) 4 = [(c >>> 24).setWidth 8, (c >>> 16).setWidth 8, (c >>> 8).setWidth 8, (c >>> 0).setWidth 8] := by
    simp only [highL, highV_eq, shr_up, List.append_nil, List.cons_append, List.nil_append]
  rw [e]
  have e2 : ctrL [a0, a1, a2, a3, a4, a5, a6, a7, a8, a9, a10, a11] c 4 = [a0, a1, a2, a3, a4, a5, a6, a7, a8, a9, a10, a11, (c >>> 24).setWidth 8, (c >>> 16).setWidth 8, (c >>> 8).setWidth 8, (c >>> 0).setWidth 8] := by kernel_rfl
  rw [e2]
  rfl
/-! ### turning -/
theorem xorB_get (out b : List (BitVec 8)) (i : Nat) : ∀ m, i + m ≤ out.length → ∀ j, (xorB out b i m).getD j 0#8 = if i ≤ j ∧ j < i + m then out.getD j 0#8 ^^^ b.getD (j - i) 0#8 else out.getD j 0#8
  | 0, _, j => by rw [if_neg (by omega)]; rfl
  | m + 1, h, j => by
    rw [xorB, getD_set _ _ _ _ _ (by rw [length_xorB]; omega), xorB_get out b i m (by omega), xorB_get out b i m (by omega)]
    by_cases hj : j = i + m
    · subst hj
      rw [if_pos rfl, if_neg (by omega), if_pos (by omega), Nat.add_sub_cancel_left]
    · rw [if_neg hj]
      by_cases h2 : i ≤ j ∧ j < i + m
      · rw [if_pos h2, if_pos (by omega)]
      · rw [if_neg h2, if_neg (by omega)]
theorem turnL_get (flat : List (BitVec 8)) (n : Nat) (nonce text : List (BitVec 8)) : ∀ t, t ≤ text.length → ∀ j, j < text.length →
    (turnL flat n nonce text t).getD j 0#8 = if j < 16 * ((t + 15) / 16) then text.getD j 0#8 ^^^ (seaE flat n nonce (BitVec.ofNat 32 (j / 16) + 2#32)).getD (j % 16) 0#8 else text.getD j 0#8
  | 0, _, j, _ => by rw [if_neg (by omega)]; rfl
  | t + 1, h, j, hj => by
    rw [turnL]
    by_cases hm : t % 16 = 0
    · rw [if_pos hm, xorB_get _ _ _ _ (by rw [length_turnL]; omega), turnL_get flat n nonce text t (by omega) j hj]
      by_cases h1 : t ≤ j ∧ j < t + (min (t + 16) text.length - t)
      · have e1 : j / 16 = t / 16 := by omega
        have e2 : j - t = j % 16 := by omega
        rw [if_pos h1, if_neg (by omega), if_pos (by omega), e1, e2]
      · rw [if_neg h1]
        by_cases h2 : j < 16 * ((t + 15) / 16)
        · rw [if_pos h2, if_pos (by omega)]
        · rw [if_neg h2, if_neg (by omega)]
    · rw [if_neg hm, turnL_get flat n nonce text t (by omega) j hj]
      have : (t + 1 + 15) / 16 = (t + 15) / 16 := by omega
      rw [this]
theorem turn_get (flat : List (BitVec 8)) (n : Nat) (nonce text : List (BitVec 8)) (j : Nat) (hj : j < text.length) :
    (turnL flat n nonce text text.length).getD j 0#8 = text.getD j 0#8 ^^^ (seaE flat n nonce (BitVec.ofNat 32 (j / 16) + 2#32)).getD (j % 16) 0#8 := by
  rw [turnL_get flat n nonce text _ (Nat.le_refl _) j hj, if_pos (by omega)]
theorem turn_turn (flat : List (BitVec 8)) (n : Nat) (nonce text : List (BitVec 8)) : turnL flat n nonce (turnL flat n nonce text text.length) text.length = text := by
  have hl := length_turnL flat n nonce text text.length
  have h := turn_get flat n nonce (turnL flat n nonce text text.length)
  rw [hl] at h
  refine ext_getD (by rw [length_turnL, hl]) fun j hj => ?_
  rw [length_turnL, hl] at hj
  rw [h j hj, turn_get flat n nonce text j hj, BitVec.xor_assoc, BitVec.xor_self, BitVec.xor_zero]
theorem xorL_getD (a b : List (BitVec 8)) : ∀ k, k ≤ a.length → ∀ i, (xorL a b k).getD i 0#8 = if i < k then a.getD i 0#8 ^^^ b.getD i 0#8 else a.getD i 0#8
  | 0, _, i => by rw [if_neg (by omega)]; rfl
  | k + 1, h, i => by
    rw [xorL, getD_set _ _ _ _ _ (by rw [length_xorL]; omega), xorL_getD a b k (by omega), xorL_getD a b k (by omega)]
    by_cases hi : i = k
    · subst hi
      rw [if_pos rfl, if_neg (by omega), if_pos (by omega)]
    · rw [if_neg hi]
      by_cases h2 : i < k
      · rw [if_pos h2, if_pos (by omega)]
      · rw [if_neg h2, if_neg (by omega)]
theorem strR_get (E : Nat → List (BitVec 8)) (text : List (BitVec 8)) : ∀ i, 16 * i ≤ text.length + 15 → ∀ j, j < min (16 * i) text.length → (strR E text i).getD j 0#8 = text.getD j 0#8 ^^^ (E (j / 16)).getD (j % 16) 0#8
  | 0, _, j, hj => by omega
  | i + 1, h, j, hj => by
    have hl := length_strR E text i (by omega)
    have hc := length_cutR text i
    rw [strR, getD_app, hl]
    by_cases h1 : j < min (16 * i) text.length
    · rw [if_pos h1, strR_get E text i (by omega) j h1]
    · rw [if_neg h1, xorL_getD _ _ _ (Nat.le_refl _), if_pos (by omega), cutR, getD_dt _ _ _ _ (by omega)]
      have e1 : j / 16 = i := by omega
      have e2 : j - min (16 * i) text.length = j % 16 := by omega
      have e3 : 16 * i + j % 16 = j := by omega
      rw [e1, e2, e3]
theorem seaE_eq (key nonce : List (BitVec 8)) (nk : Nat) (hnk : nk = 4 ∨ nk = 8) (hk : key.length = 4 * nk) (hn : nonce.length = 12) (c : BitVec 32) :
    seaE (kS key nk (3 * nk + 28)).1 (nk + 7) nonce c = encQ (nonce ++ highL (c.setWidth 64) 4) (mS key (boxR 256) nk (4 * (nk + 7))) (boxR 256) (nk + 6) (nk + 6) := by
  rw [seaE, ctr_eq nonce hn]
  exact enc_same key _ nk hnk hk (by simp [length_highL, hn]) (nk + 6) (Nat.le_refl _)
theorem turn_same (key nonce text : List (BitVec 8)) (nk : Nat) (hnk : nk = 4 ∨ nk = 8) (hk : key.length = 4 * nk) (hn : nonce.length = 12) :
    turnL (kS key nk (3 * nk + 28)).1 (nk + 7) nonce text text.length = refStr (mS key (boxR 256) nk (4 * (nk + 7))) (boxR 256) (nk + 6) nonce text := by
  refine ext_getD (by rw [length_turnL, length_refStr]) fun j hj => ?_
  rw [length_turnL] at hj
  rw [turn_get _ _ _ _ _ hj, refStr, strR_get _ _ _ (by omega) j (by omega), seaE_eq key nonce nk hnk hk hn, refE]
  have : BitVec.ofNat 32 (j / 16) + 2#32 = BitVec.ofNat 32 (j / 16 + 2) := by simp [BitVec.ofNat_add]
  rw [this]
theorem tag_same (key nonce a c : List (BitVec 8)) (nk : Nat) (hnk : nk = 4 ∨ nk = 8) (hk : key.length = 4 * nk) (hn : nonce.length = 12) :
    tagL (kS key nk (3 * nk + 28)).1 (nk + 7) nonce a c = refTag (mS key (boxR 256) nk (4 * (nk + 7))) (boxR 256) (nk + 6) nonce a c := by
  have h1 : encS (kS key nk (3 * nk + 28)).1 (nk + 7) (List.replicate 16 0#8) (nk + 7 - 1) = encQ (List.replicate 16 0#8) (mS key (boxR 256) nk (4 * (nk + 7))) (boxR 256) (nk + 6) (nk + 6) := enc_same key _ nk hnk hk (by simp) (nk + 6) (Nat.le_refl _)
  obtain ⟨m, hm, _⟩ := length_rText a c
  have h2 : elBytes (gSum (elRead (encS (kS key nk (3 * nk + 28)).1 (nk + 7) (List.replicate 16 0#8) (nk + 7 - 1)) 16) [a, c]) 8 = refH (mS key (boxR 256) nk (4 * (nk + 7))) (boxR 256) (nk + 6) a c := by
    rw [h1, refH, show (rText a c).length / 16 = m by omega]
    have hl : (encQ (List.replicate 16 0#8) (mS key (boxR 256) nk (4 * (nk + 7))) (boxR 256) (nk + 6) (nk + 6)).length = 16 := length_encQ _ (by simp) _ _ _ _
    have := sum_same (encQ (List.replicate 16 0#8) (mS key (boxR 256) nk (4 * (nk + 7))) (boxR 256) (nk + 6) (nk + 6)) a c hl m hm
    rw [gOut, if_pos hl] at this
    exact this
  have hlr : (refH (mS key (boxR 256) nk (4 * (nk + 7))) (boxR 256) (nk + 6) a c).length = 16 := by rw [refH, length_rG]
  rw [tagL, h2, seaE_eq key nonce nk hnk hk hn, refTag, hlr]
  generalize refH (mS key (boxR 256) nk (4 * (nk + 7))) (boxR 256) (nk + 6) a c = G at *
  have e1 : (1#32).setWidth 64 = 1#64 := rfl
  rw [e1]
  have hle : (encQ (nonce ++ highL 1#64 4) (mS key (boxR 256) nk (4 * (nk + 7))) (boxR 256) (nk + 6) (nk + 6)).length = 16 := length_encQ _ (by simp [length_highL, hn]) _ _ _ _
  generalize encQ (nonce ++ highL 1#64 4) (mS key (boxR 256) nk (4 * (nk + 7))) (boxR 256) (nk + 6) (nk + 6) = X at *
  have add_get : ∀ k, k ≤ 16 → ∀ i, i < 16 → (addL X G k).getD i 0#8 = if i < k then X.getD i 0#8 ^^^ G.getD i 0#8 else X.getD i 0#8 := by
    intro k
    induction k with
    | zero => intro _ i _; rw [if_neg (by omega)]; rfl
    | succ k ih =>
      intro hk i hi
      rw [addL, getD_set _ _ _ _ _ (by rw [length_addL]; omega), ih (by omega) i hi, ih (by omega) k (by omega)]
      by_cases h : i = k
      · subst h; rw [if_pos rfl, if_neg (by omega), if_pos (by omega)]
      · rw [if_neg h]
        by_cases h2 : i < k
        · rw [if_pos h2, if_pos (by omega)]
        · rw [if_neg h2, if_neg (by omega)]
  refine ext_getD (by rw [length_addL, length_xorL, hle, hlr]) fun j hj => ?_
  rw [length_addL, hle] at hj
  rw [add_get 16 (Nat.le_refl _) j hj, if_pos hj, xorL_getD _ _ _ (by omega), if_pos hj, BitVec.xor_comm]
/-! ### together -/
section
variable (key nonce a text : List (BitVec 8)) (nk : Nat) (hnk : nk = 4 ∨ nk = 8) (hk : key.length = 4 * nk) (hn : nonce.length = 12)
include hnk hk hn
theorem sOk_of : sOk key nonce = true := by
  rcases hnk with rfl | rfl <;> simp [sOk, hk, hn]
theorem nk_of : key.length / 4 = nk := by omega
theorem sOut_same : sOut key nonce a text = refSeal (mS key (boxR 256) nk (4 * (nk + 7))) (boxR 256) (nk + 6) nonce a text := by
  rw [sOut, if_pos (sOk_of key nonce nk hnk hk hn), sealOut, flatOf, nk_of key nonce nk hnk hk hn, turn_same key nonce text nk hnk hk hn, tag_same key nonce a _ nk hnk hk hn]
  rfl
theorem opens_same : opens key nonce a text = true ↔ (16 ≤ text.length ∧ refTag (mS key (boxR 256) nk (4 * (nk + 7))) (boxR 256) (nk + 6) nonce a (text.take (text.length - 16)) = text.drop (text.length - 16)) := by
  rw [opens, flatOf, nk_of key nonce nk hnk hk hn, tag_same key nonce a _ nk hnk hk hn]
  simp
theorem oOut_same (h : opens key nonce a text = true) : oOut key nonce a text = refStr (mS key (boxR 256) nk (4 * (nk + 7))) (boxR 256) (nk + 6) nonce (text.take (text.length - 16)) := by
  rw [oOut, if_pos (sOk_of key nonce nk hnk hk hn), if_pos h, flatOf, nk_of key nonce nk hnk hk hn, turn_same key nonce _ nk hnk hk hn]
end
/-! ### what is sealed opens -/
theorem length_sealOut (key nonce a t : List (BitVec 8)) (hn : nonce.length = 12) : (sealOut key nonce a t).length = t.length + 16 := by
  rw [sealOut, List.length_append, length_turnL, length_tagL _ _ _ _ _ hn]
theorem opens_sealed (key nonce a t : List (BitVec 8)) (hn : nonce.length = 12) : opens key nonce a (sealOut key nonce a t) = true ∧ (sealOut key nonce a t).take ((sealOut key nonce a t).length - 16) = turnL (flatOf key) (key.length / 4 + 7) nonce t t.length := by
  have hl := length_sealOut key nonce a t hn
  have h1 : (sealOut key nonce a t).take ((sealOut key nonce a t).length - 16) = turnL (flatOf key) (key.length / 4 + 7) nonce t t.length := by
    rw [hl, sealOut, Nat.add_sub_cancel, List.take_left' (length_turnL _ _ _ _ _)]
  have h2 : (sealOut key nonce a t).drop ((sealOut key nonce a t).length - 16) = tagL (flatOf key) (key.length / 4 + 7) nonce a (turnL (flatOf key) (key.length / 4 + 7) nonce t t.length) := by
    rw [hl, sealOut, Nat.add_sub_cancel, List.drop_left' (length_turnL _ _ _ _ _)]
  refine ⟨?_, h1⟩
  rw [opens, h1, h2]
  simp [hl]
theorem open_sealed (key nonce a t : List (BitVec 8)) (ho : sOk key nonce = true) (hn : nonce.length = 12) : oErr key nonce a (sOut key nonce a t) = 0 ∧ oOut key nonce a (sOut key nonce a t) = t := by
  obtain ⟨h1, h2⟩ := opens_sealed key nonce a t hn
  rw [sOut, if_pos ho, oErr, oOut, if_pos ho, if_pos ho, if_pos h1, if_pos h1, h2, length_turnL, turn_turn]
  exact ⟨rfl, rfl⟩
/-- what opens at all is what is made of what it opens to -/
theorem seal_opened (key nonce a c : List (BitVec 8)) (ho : sOk key nonce = true) (h : opens key nonce a c = true) : sOut key nonce a (oOut key nonce a c) = c := by
  have h16 : 16 ≤ c.length ∧ tagL (flatOf key) (key.length / 4 + 7) nonce a (c.take (c.length - 16)) = c.drop (c.length - 16) := by simpa [opens] using h
  rw [sOut, if_pos ho, oOut, if_pos ho, if_pos h, sealOut]
  have e : turnL (flatOf key) (key.length / 4 + 7) nonce (turnL (flatOf key) (key.length / 4 + 7) nonce (c.take (c.length - 16)) (c.take (c.length - 16)).length) (turnL (flatOf key) (key.length / 4 + 7) nonce (c.take (c.length - 16)) (c.take (c.length - 16)).length).length = c.take (c.length - 16) := by
    rw [length_turnL, turn_turn]
  rw [e, h16.2, List.take_append_drop]
end Go.Proofs.YtpihffpdkfkkhaaDoor
