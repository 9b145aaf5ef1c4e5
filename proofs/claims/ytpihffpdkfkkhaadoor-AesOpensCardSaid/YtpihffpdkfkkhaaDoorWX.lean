/- Walks: what functions of the given program do, operation by operation. Written by wip/gen. -/
import Derived.Test.YtpihffpdkfkkhaaDoorWW
namespace Go.Proofs.YtpihffpdkfkkhaaDoor
set_option linter.all false
open Go
theorem encrypt_bad (v x : Value) (key blk : List (BitVec 8)) (nk : Nat) (hnk : key.length / 4 = nk) (hl : key.length ≤ 100000) (w : World) (hT : Tab w) (hR : Rd w v key.length 1 (key.map U8)) (hX : Rd w x blk.length 1 (blk.map U8)) (hk : ¬ (key.length = 16 ∨ key.length = 32)) : Calls Tryd.prog 7 #[v, x] w (fun e w' => e = .returned (.tuple #[nilS, vI 2]) ∧ Mem (All w) w w' []) := by
  have hS0 : All w 0 := ⟨by have := hT.live; omega, fun h => h⟩
  have hS1 : All w 1 := ⟨by have := hT.live; omega, fun h => h⟩
  refine calls_of_st (n := 23) (args := [v, x]) Tryd.func7 rfl Tryd.ntmps7 (Nat.le_of_ble_eq_true rfl) (Mem.all w) ?_
  refine st_seq ?_
  refine st_region ?_
  refine st_v (rv_assign rfl) (by decide) ?_
  refine st_v (rv_assign rfl) (by decide) ?_
  refine st_nil ?_
  refine st_then ?_
  refine st_seq ?_
  refine st_region ?_
  refine st_v (rv_move rfl) (by decide) ?_
  refine st_call0 cal16 rfl (fun w hM => newCipher_bad _ key hk hl w (hT.at hM hS0 hS1) ((rd_old hR hR.all) w hM)) (by decide) ?_
  refine st_v (rv_assign rfl) (by decide) ?_
  refine st_nil ?_
  refine st_then ?_
  refine st_seq ?_
  refine st_seq ?_
  refine st_region ?_
  refine st_v (rv_move rfl) (by decide) ?_
  refine st_v (rv_eqlNil Tryd.underlying40 rfl rfl) (by decide) ?_
  refine st_v (rv_move rfl) (by decide) ?_
  refine' st_or 4 (L := _) (s := 12) (d := 16) [1, 6] rfl (fun hg3 => ?_) (fun _ => ?_) ?_; rotate_left
  · -- true
    refine st_gskip rfl rfl rfl (by decide) ?_
    refine st_gskip rfl rfl rfl (by decide) ?_
    refine st_gskip rfl rfl rfl (by decide) ?_
    first | refine st_v (rv_pick_true rfl rfl) (by decide) ?_ | refine st_v (rv_pick_false rfl rfl) (by decide) ?_ | refine st_v (rv_pick rfl rfl rfl) (by decide) ?_
    refine st_nil ?_
    exact st_meet_b (SubE.cons rfl (SubE.cons rfl (SubE.cons rfl (SubE.nil _))))
  · -- false
    refine st_gon rfl rfl ?_
    refine st_v (rv_move rfl) (by decide) ?_
    refine st_gon rfl rfl ?_
    refine st_v (rv_lenR (rd_old hX hX.all) Tryd.underlying22 rfl) (by decide) ?_
    refine st_gon rfl rfl ?_
    refine st_v (rv_neqZ rfl rfl) (by decide) ?_
    first | refine st_v (rv_pick_true rfl rfl) (by decide) ?_ | refine st_v (rv_pick_false rfl rfl) (by decide) ?_ | refine st_v (rv_pick rfl rfl rfl) (by decide) ?_
    refine st_nil ?_
    exact st_meet_b (SubE.cons rfl (SubE.cons rfl (SubE.cons rfl (SubE.nil _))))
  refine st_nil ?_
  refine st_then ?_
  refine st_cond rfl (fun hc16 => ?_) (fun hc16 => ?_)
  · -- t16 True
    try simp only [decide_eq_true_eq, decide_eq_false_iff_not, Bool.and_eq_true, Bool.or_eq_true, Bool.and_eq_false_iff, Bool.or_eq_false_iff, Bool.not_eq_true, Bool.not_eq_eq_eq_not, Bool.not_true, Bool.not_false, Int.not_lt, Int.not_le, ne_eq, Decidable.not_not] at hc16
    refine st_seq ?_
    refine st_region ?_
    refine st_v (rv_assign rfl) (by decide) ?_
    refine st_v (rv_assign rfl) (by decide) ?_
    refine st_nil ?_
    refine st_then ?_
    refine st_ret ?_
    refine st_then_ret ?_
    exact st_done2 rfl rfl rfl (fun w hM => ⟨rfl, hM.sublist (List.nil_sublist _)⟩)
  · -- t16 False
    try simp only [decide_eq_true_eq, decide_eq_false_iff_not, Bool.and_eq_true, Bool.or_eq_true, Bool.and_eq_false_iff, Bool.or_eq_false_iff, Bool.not_eq_true, Bool.not_eq_eq_eq_not, Bool.not_true, Bool.not_false, Int.not_lt, Int.not_le, ne_eq, Decidable.not_not] at hc16
    exfalso; simp at hc16
theorem encrypt_ok (v x : Value) (key blk : List (BitVec 8)) (nk : Nat) (hnk : key.length / 4 = nk) (hl : key.length ≤ 100000) (w : World) (hT : Tab w) (hR : Rd w v key.length 1 (key.map U8)) (hX : Rd w x blk.length 1 (blk.map U8)) (hk : (key.length = 16 ∨ key.length = 32)) (hb : blk.length = 16) : Calls Tryd.prog 7 #[v, x] w (fun e w' => ∃ u, e = .returned (.tuple #[u, vI 0]) ∧ True ∧ Mem (All w) w w' [rdA u 16 1 ((encS (kS key nk (3 * nk + 28)).1 (nk + 7) blk (nk + 7 - 1)).map U8)]) := by
  have hS0 : All w 0 := ⟨by have := hT.live; omega, fun h => h⟩
  have hS1 : All w 1 := ⟨by have := hT.live; omega, fun h => h⟩
  refine calls_of_st (n := 23) (args := [v, x]) Tryd.func7 rfl Tryd.ntmps7 (Nat.le_of_ble_eq_true rfl) (Mem.all w) ?_
  refine st_seq ?_
  refine st_region ?_
  refine st_v (rv_assign rfl) (by decide) ?_
  refine st_v (rv_assign rfl) (by decide) ?_
  refine st_nil ?_
  refine st_then ?_
  refine st_seq ?_
  refine st_region ?_
  refine st_v (rv_move rfl) (by decide) ?_
  refine st_call1 (ρ := Nat × Nat × Nat) (fun r => sl r.1 r.2.1 (nk + 7) r.2.2) (fun _ => True) (fun r => [rdA (sl r.1 r.2.1 (nk + 7) r.2.2) (nk + 7) 16 ((kS key nk (3 * nk + 28)).1.map U8)]) cal16 rfl (fun w hM => newCipher_ok _ key nk hnk hk hl w (hT.at hM hS0 hS1) ((rd_old hR hR.all) w hM)) (by decide) (fun r1 _ => ?_)
  refine st_v (rv_assign rfl) (by decide) ?_
  refine st_nil ?_
  refine st_then ?_
  refine st_seq ?_
  refine st_seq ?_
  refine st_region ?_
  refine st_v (rv_move rfl) (by decide) ?_
  refine st_v (rv_eqlNil Tryd.underlying40 rfl rfl) (by decide) ?_
  refine st_v (rv_move rfl) (by decide) ?_
  refine' st_or 4 (L := _) (s := 12) (d := 16) [1, 6] rfl (fun hg3 => ?_) (fun _ => ?_) ?_; rotate_left
  · -- true
    refine st_gskip rfl rfl rfl (by decide) ?_
    refine st_gskip rfl rfl rfl (by decide) ?_
    refine st_gskip rfl rfl rfl (by decide) ?_
    first | refine st_v (rv_pick_true rfl rfl) (by decide) ?_ | refine st_v (rv_pick_false rfl rfl) (by decide) ?_ | refine st_v (rv_pick rfl rfl rfl) (by decide) ?_
    refine st_nil ?_
    exact st_meet_b (SubE.cons rfl (SubE.cons rfl (SubE.cons rfl (SubE.nil _))))
  · -- false
    refine st_gon rfl rfl ?_
    refine st_v (rv_move rfl) (by decide) ?_
    refine st_gon rfl rfl ?_
    refine st_v (rv_lenR (rd_old hX hX.all) Tryd.underlying22 rfl) (by decide) ?_
    refine st_gon rfl rfl ?_
    refine st_v (rv_neqZ rfl rfl) (by decide) ?_
    first | refine st_v (rv_pick_true rfl rfl) (by decide) ?_ | refine st_v (rv_pick_false rfl rfl) (by decide) ?_ | refine st_v (rv_pick rfl rfl rfl) (by decide) ?_
    refine st_nil ?_
    exact st_meet_b (SubE.cons rfl (SubE.cons rfl (SubE.cons rfl (SubE.nil _))))
  refine st_nil ?_
  refine st_then ?_
  refine st_cond rfl (fun hc16 => ?_) (fun hc16 => ?_)
  · -- t16 True
    try simp only [decide_eq_true_eq, decide_eq_false_iff_not, Bool.and_eq_true, Bool.or_eq_true, Bool.and_eq_false_iff, Bool.or_eq_false_iff, Bool.not_eq_true, Bool.not_eq_eq_eq_not, Bool.not_true, Bool.not_false, Int.not_lt, Int.not_le, ne_eq, Decidable.not_not] at hc16
    exfalso; simp [hb] at hc16
  · -- t16 False
    try simp only [decide_eq_true_eq, decide_eq_false_iff_not, Bool.and_eq_true, Bool.or_eq_true, Bool.and_eq_false_iff, Bool.or_eq_false_iff, Bool.not_eq_true, Bool.not_eq_eq_eq_not, Bool.not_true, Bool.not_false, Int.not_lt, Int.not_le, ne_eq, Decidable.not_not] at hc16
    refine st_skip ?_
    refine st_then ?_
    refine st_seq ?_
    refine st_region ?_
    refine st_v (rv_move rfl) (by decide) ?_
    refine st_v (rv_move rfl) (by decide) ?_
    refine st_v (rv_arrayAt (rd_old hX hX.all) Tryd.underlying43 rfl (by first | omega | (simp [hb, length_encS] <;> omega)) (by first | omega | (simp [hb, length_encS] <;> omega))) (by decide) ?_
    refine st_v (rv_to (u := .agg (c8 blk)) (rv_loadA_rd8 (off := 0) (rd_old hX hX.all) tyA43 rfl (by omega)) (by rw [List.drop_zero, List.take_of_length_le (by omega)])) (by decide) ?_
    refine st_call0 cal17 rfl (fun w hM => enc_calls _ (nk + 7) _ blk hb (by omega) (by rw [length_kS]; omega) w (hT.at hM hS0 hS1) ((rd_rd (i := 0) rfl) w hM)) (by decide) ?_
    refine st_alloc tyZ43 (by decide) (cs := c8 (List.replicate 16 0#8)) (rfl) (fun b2 hb2 => ?_)
    refine st_storeW8 rfl rfl (i := 0) rfl sz43 (by first | omega | (simp [hb, length_encS]; done) | (simp [hb, length_encS] <;> omega)) (by first | omega | (simp [hb, length_encS]; done) | (simp [hb, length_encS] <;> omega)) (l' := [_, _]) rfl ?_
    refine st_nil ?_
    refine st_then ?_
    refine st_seq ?_
    refine st_region ?_
    refine st_v (rv_sliceA Tryd.underlying43 sz5 rfl evB_none evB_none (by omega) (by omega) (by decide) rfl) (by decide) ?_
    refine st_v (rv_assign rfl) (by decide) ?_
    refine st_v (rv_assign rfl) (by decide) ?_
    refine st_nil ?_
    refine st_then ?_
    refine st_ret ?_
    exact st_done2 rfl rfl rfl (fun w hM => ⟨_, rfl, trivial, (hM.blkRd8 (i := 0) rfl (by rw [length_encS, hb]) (Nat.le_refl _)).sublist (List.cons_sublist_cons.2 (List.nil_sublist _))⟩)
theorem encrypt_bad2 (v x : Value) (key blk : List (BitVec 8)) (nk : Nat) (hnk : key.length / 4 = nk) (hl : key.length ≤ 100000) (w : World) (hT : Tab w) (hR : Rd w v key.length 1 (key.map U8)) (hX : Rd w x blk.length 1 (blk.map U8)) (hk : (key.length = 16 ∨ key.length = 32)) (hb : ¬ blk.length = 16) : Calls Tryd.prog 7 #[v, x] w (fun e w' => e = .returned (.tuple #[nilS, vI 2]) ∧ Mem (All w) w w' []) := by
  have hS0 : All w 0 := ⟨by have := hT.live; omega, fun h => h⟩
  have hS1 : All w 1 := ⟨by have := hT.live; omega, fun h => h⟩
  refine calls_of_st (n := 23) (args := [v, x]) Tryd.func7 rfl Tryd.ntmps7 (Nat.le_of_ble_eq_true rfl) (Mem.all w) ?_
  refine st_seq ?_
  refine st_region ?_
  refine st_v (rv_assign rfl) (by decide) ?_
  refine st_v (rv_assign rfl) (by decide) ?_
  refine st_nil ?_
  refine st_then ?_
  refine st_seq ?_
  refine st_region ?_
  refine st_v (rv_move rfl) (by decide) ?_
  refine st_call1 (ρ := Nat × Nat × Nat) (fun r => sl r.1 r.2.1 (nk + 7) r.2.2) (fun _ => True) (fun r => [rdA (sl r.1 r.2.1 (nk + 7) r.2.2) (nk + 7) 16 ((kS key nk (3 * nk + 28)).1.map U8)]) cal16 rfl (fun w hM => newCipher_ok _ key nk hnk hk hl w (hT.at hM hS0 hS1) ((rd_old hR hR.all) w hM)) (by decide) (fun r1 _ => ?_)
  refine st_v (rv_assign rfl) (by decide) ?_
  refine st_nil ?_
  refine st_then ?_
  refine st_seq ?_
  refine st_seq ?_
  refine st_region ?_
  refine st_v (rv_move rfl) (by decide) ?_
  refine st_v (rv_eqlNil Tryd.underlying40 rfl rfl) (by decide) ?_
  refine st_v (rv_move rfl) (by decide) ?_
  refine' st_or 4 (L := _) (s := 12) (d := 16) [1, 6] rfl (fun hg3 => ?_) (fun _ => ?_) ?_; rotate_left
  · -- true
    refine st_gskip rfl rfl rfl (by decide) ?_
    refine st_gskip rfl rfl rfl (by decide) ?_
    refine st_gskip rfl rfl rfl (by decide) ?_
    first | refine st_v (rv_pick_true rfl rfl) (by decide) ?_ | refine st_v (rv_pick_false rfl rfl) (by decide) ?_ | refine st_v (rv_pick rfl rfl rfl) (by decide) ?_
    refine st_nil ?_
    exact st_meet_b (SubE.cons rfl (SubE.cons rfl (SubE.cons rfl (SubE.nil _))))
  · -- false
    refine st_gon rfl rfl ?_
    refine st_v (rv_move rfl) (by decide) ?_
    refine st_gon rfl rfl ?_
    refine st_v (rv_lenR (rd_old hX hX.all) Tryd.underlying22 rfl) (by decide) ?_
    refine st_gon rfl rfl ?_
    refine st_v (rv_neqZ rfl rfl) (by decide) ?_
    first | refine st_v (rv_pick_true rfl rfl) (by decide) ?_ | refine st_v (rv_pick_false rfl rfl) (by decide) ?_ | refine st_v (rv_pick rfl rfl rfl) (by decide) ?_
    refine st_nil ?_
    exact st_meet_b (SubE.cons rfl (SubE.cons rfl (SubE.cons rfl (SubE.nil _))))
  refine st_nil ?_
  refine st_then ?_
  refine st_cond rfl (fun hc16 => ?_) (fun hc16 => ?_)
  · -- t16 True
    try simp only [decide_eq_true_eq, decide_eq_false_iff_not, Bool.and_eq_true, Bool.or_eq_true, Bool.and_eq_false_iff, Bool.or_eq_false_iff, Bool.not_eq_true, Bool.not_eq_eq_eq_not, Bool.not_true, Bool.not_false, Int.not_lt, Int.not_le, ne_eq, Decidable.not_not] at hc16
    refine st_seq ?_
    refine st_region ?_
    refine st_v (rv_assign rfl) (by decide) ?_
    refine st_v (rv_assign rfl) (by decide) ?_
    refine st_nil ?_
    refine st_then ?_
    refine st_ret ?_
    refine st_then_ret ?_
    exact st_done2 rfl rfl rfl (fun w hM => ⟨rfl, hM.sublist (List.nil_sublist _)⟩)
  · -- t16 False
    try simp only [decide_eq_true_eq, decide_eq_false_iff_not, Bool.and_eq_true, Bool.or_eq_true, Bool.and_eq_false_iff, Bool.or_eq_false_iff, Bool.not_eq_true, Bool.not_eq_eq_eq_not, Bool.not_true, Bool.not_false, Int.not_lt, Int.not_le, ne_eq, Decidable.not_not] at hc16
    exfalso; omega
def eOk (key blk : List (BitVec 8)) : Bool := (decide (key.length = 16) || decide (key.length = 32)) && decide (blk.length = 16)
def eErr (key blk : List (BitVec 8)) : Int := if eOk key blk then 0 else 2
def eOut (key blk : List (BitVec 8)) : List (BitVec 8) := if eOk key blk then encS (kS key (key.length / 4) (3 * (key.length / 4) + 28)).1 (key.length / 4 + 7) blk (key.length / 4 + 7 - 1) else []
theorem aesEncrypt_calls (v x : Value) (key blk : List (BitVec 8)) (hl : key.length ≤ 100000) (w : World) (hT : Tab w) (hR : Rd w v key.length 1 (key.map U8)) (hX : Rd w x blk.length 1 (blk.map U8)) :
    Calls Tryd.prog 7 #[v, x] w (fun e w' => ∃ u, e = .returned (.tuple #[u, vI (eErr key blk)]) ∧ True ∧ Mem (All w) w w' [rdA u (eOut key blk).length 1 ((eOut key blk).map U8)]) := by
  by_cases hk : key.length = 16 ∨ key.length = 32
  · by_cases hb : blk.length = 16
    · have ho : eOk key blk = true := by simp [eOk, hk, hb]
      have h1 : (eOut key blk).length = 16 := by rw [eOut, if_pos ho, length_encS, hb]
      rw [h1]
      rw [eErr, eOut, if_pos ho, if_pos ho]
      exact encrypt_ok v x key blk _ rfl hl w hT hR hX hk hb
    · have ho : eOk key blk = false := by simp [eOk, hb]
      rw [eErr, eOut, ho]
      exact (encrypt_bad2 v x key blk _ rfl hl w hT hR hX hk hb).mono fun e w' h => ⟨nilS, h.1, trivial, h.2.rdNil⟩
  · have ho : eOk key blk = false := by
      have : ¬ key.length = 16 ∧ ¬ key.length = 32 := by omega
      simp [eOk, this]
    rw [eErr, eOut, ho]
    exact (encrypt_bad v x key blk _ rfl hl w hT hR hX hk).mono fun e w' h => ⟨nilS, h.1, trivial, h.2.rdNil⟩
end Go.Proofs.YtpihffpdkfkkhaaDoor
