/- Walks: what functions of the given program do, operation by operation. Written by wip/gen. -/
import Derived.Test.YtpihffpdkfkkhaaDoorWX
import Derived.Test.YtpihffpdkfkkhaaDoorWRM
import Derived.Test.YtpihffpdkfkkhaaDoorGD
import Derived.Test.YtpihffpdkfkkhaaDoorWL
namespace Go.Proofs.YtpihffpdkfkkhaaDoor
set_option linter.all false
open Go
theorem fits_calls (key : List (BitVec 8)) (w : World) : Calls Tryd.prog 9 #[vS key] w (fun r w' => r = .returned (.bool (decide (key.length = 16) || decide (key.length = 32))) ∧ Mem (All w) w w' []) := by
  refine calls_of_st (n := 11) (args := [vS key]) Tryd.func9 rfl Tryd.ntmps9 (Nat.le_of_ble_eq_true rfl) (Mem.all w) ?_
  refine st_seq ?_
  refine st_region ?_
  refine st_v (rv_assign rfl) (by decide) ?_
  refine st_nil ?_
  refine st_then ?_
  refine st_seq ?_
  refine st_region ?_
  refine st_v (rv_move rfl) (by decide) ?_
  refine st_v (rv_lenB Tryd.underlying9 rfl) (by decide) ?_
  refine st_v (rv_eqlZ rfl rfl) (by decide) ?_
  refine st_v (rv_move rfl) (by decide) ?_
  refine' st_or 4 (L := _) (s := 6) (d := 10) [2] rfl (fun hg4 => ?_) (fun _ => ?_) ?_; rotate_left
  · -- true
    refine st_gskip rfl rfl rfl (by decide) ?_
    refine st_gskip rfl rfl rfl (by decide) ?_
    refine st_gskip rfl rfl rfl (by decide) ?_
    first | refine st_v (rv_pick_true rfl rfl) (by decide) ?_ | refine st_v (rv_pick_false rfl rfl) (by decide) ?_ | refine st_v (rv_pick rfl rfl rfl) (by decide) ?_
    refine st_nil ?_
    exact st_meet_b (SubE.cons rfl (SubE.cons rfl (SubE.nil _)))
  · -- false
    refine st_gon rfl rfl ?_
    refine st_v (rv_move rfl) (by decide) ?_
    refine st_gon rfl rfl ?_
    refine st_v (rv_lenB Tryd.underlying9 rfl) (by decide) ?_
    refine st_gon rfl rfl ?_
    refine st_v (rv_eqlZ rfl rfl) (by decide) ?_
    first | refine st_v (rv_pick_true rfl rfl) (by decide) ?_ | refine st_v (rv_pick_false rfl rfl) (by decide) ?_ | refine st_v (rv_pick rfl rfl rfl) (by decide) ?_
    refine st_nil ?_
    exact st_meet_b (SubE.cons rfl (SubE.cons rfl (SubE.nil _)))
  refine st_v (rv_assign rfl) (by decide) ?_
  refine st_nil ?_
  refine st_then ?_
  refine st_ret ?_
  exact st_done rfl rfl (fun w hM => ⟨by congr 3 <;> simp <;> omega, hM⟩)
set_option maxRecDepth 100000 in
set_option maxHeartbeats 1600000 in
theorem aesBlocks_walk (key blk : List (BitVec 8)) (w : World) (hT : Tab w) : Calls Tryd.prog 3 #[vS key, vS blk] w (fun e w' => e = .returned (.bool true) ∧ Mem (All w) w w' []) := by
  have hS0 : All w 0 := ⟨by have := hT.live; omega, fun h => h⟩
  have hS1 : All w 1 := ⟨by have := hT.live; omega, fun h => h⟩
  refine calls_of_st (n := 66) (args := [vS key, vS blk]) Tryd.func3 rfl Tryd.ntmps3 (Nat.le_of_ble_eq_true rfl) (Mem.all w) ?_
  refine st_seq ?_
  refine st_region ?_
  refine st_v (rv_assign rfl) (by decide) ?_
  refine st_nil ?_
  refine st_then ?_
  refine st_seq ?_
  refine st_seq ?_
  refine st_region ?_
  refine st_v (rv_move rfl) (by decide) ?_
  refine st_v (rv_lenB Tryd.underlying9 rfl) (by decide) ?_
  refine st_v (rv_gtrZ rfl rfl) (by decide) ?_
  refine st_v (rv_move rfl) (by decide) ?_
  refine' st_or 4 (L := _) (s := 15) (d := 19) [0, 1] rfl (fun hg4 => ?_) (fun _ => ?_) ?_; rotate_left
  · -- true
    refine st_gskip rfl rfl rfl (by decide) ?_
    refine st_gskip rfl rfl rfl (by decide) ?_
    refine st_gskip rfl rfl rfl (by decide) ?_
    first | refine st_v (rv_pick_true rfl rfl) (by decide) ?_ | refine st_v (rv_pick_false rfl rfl) (by decide) ?_ | refine st_v (rv_pick rfl rfl rfl) (by decide) ?_
    refine st_nil ?_
    exact st_meet_b (SubE.cons rfl (SubE.cons rfl (SubE.cons rfl (SubE.nil _))))
  · -- false
    refine st_gon rfl rfl ?_
    refine st_v (rv_move rfl) (by decide) ?_
    refine st_gon rfl rfl ?_
    refine st_v (rv_lenB Tryd.underlying9 rfl) (by decide) ?_
    refine st_gon rfl rfl ?_
    refine st_v (rv_gtrZ rfl rfl) (by decide) ?_
    first | refine st_v (rv_pick_true rfl rfl) (by decide) ?_ | refine st_v (rv_pick_false rfl rfl) (by decide) ?_ | refine st_v (rv_pick rfl rfl rfl) (by decide) ?_
    refine st_nil ?_
    exact st_meet_b (SubE.cons rfl (SubE.cons rfl (SubE.cons rfl (SubE.nil _))))
  refine st_nil ?_
  refine st_then ?_
  refine st_cond rfl (fun hc19 => ?_) (fun hc19 => ?_)
  · -- t19 True
    try simp only [decide_eq_true_eq, decide_eq_false_iff_not, Bool.and_eq_true, Bool.or_eq_true, Bool.and_eq_false_iff, Bool.or_eq_false_iff, Bool.not_eq_true, Bool.not_eq_eq_eq_not, Bool.not_true, Bool.not_false, Int.not_lt, Int.not_le, ne_eq, Decidable.not_not] at hc19
    refine st_seq ?_
    refine st_region ?_
    refine st_v (rv_assign rfl) (by decide) ?_
    refine st_nil ?_
    refine st_then ?_
    refine st_ret ?_
    refine st_then_ret ?_
    exact st_done rfl rfl (fun w hM => ⟨rfl, hM.sublist (List.nil_sublist _)⟩)
  · -- t19 False
    try simp only [decide_eq_true_eq, decide_eq_false_iff_not, Bool.and_eq_true, Bool.or_eq_true, Bool.and_eq_false_iff, Bool.or_eq_false_iff, Bool.not_eq_true, Bool.not_eq_eq_eq_not, Bool.not_true, Bool.not_false, Int.not_lt, Int.not_le, ne_eq, Decidable.not_not] at hc19
    obtain ⟨ha, hb⟩ := hc19
    refine st_skip ?_
    refine st_then ?_
    refine st_seq ?_
    refine st_region ?_
    refine st_v (rv_move rfl) (by decide) ?_
    refine st_callV cal6 rfl (fun w hM => lent_calls blk (by omega) w) (by decide) (fun v1 => ?_)
    refine st_v (rv_assign rfl) (by decide) ?_
    refine st_nil ?_
    refine st_then ?_
    refine st_seq ?_
    refine st_region ?_
    refine st_v (rv_move rfl) (by decide) ?_
    refine st_bytes Tryd.underlying9 Tryd.underlying22 Tryd.underlying5 rfl (by decide) (fun v2 => ?_)
    refine st_v (rv_move rfl) (by decide) ?_
    refine st_v (rv_move rfl) (by decide) ?_
    refine st_v (rv_lenB Tryd.underlying9 rfl) (by decide) ?_
    refine st_v (rv_sliceR (rd_rd (i := 1) rfl) Tryd.underlying22 sz5 rfl evB_none (evB_some rfl rfl) (by first | omega | (simp [length_lentL] <;> omega)) (by first | omega | (simp [length_lentL] <;> omega))) (by decide) ?_
    refine st_call1 (ρ := Value) (fun v => .tuple #[v, vI (eErr key blk)]) (fun _ => True) (fun v => [rdA v (eOut key blk).length 1 ((eOut key blk).map U8)]) cal7 rfl (fun w hM => aesEncrypt_calls _ _ key blk (by omega) w (hT.at hM hS0 hS1) ((rd_own (i := 0) rfl) w hM) (lentRd (((rd_rd (i := 1) rfl) w hM).part8 (by first | omega | (simp [length_lentL] <;> omega)) (by first | omega | (simp [length_lentL] <;> omega))))) (by decide) (fun v3 _ => ?_)
    refine st_v (rv_move rfl) (by decide) ?_
    refine st_v (rv_extract rfl rfl) (by decide) ?_
    refine st_v (rv_extract rfl rfl) (by decide) ?_
    refine st_v (rv_assign rfl) (by decide) ?_
    refine st_v (rv_assign rfl) (by decide) ?_
    refine st_nil ?_
    refine st_then ?_
    refine st_seq ?_
    refine st_region ?_
    refine st_v (rv_move rfl) (by decide) ?_
    refine st_v (rv_move rfl) (by decide) ?_
    refine st_call0 cal8 rfl (fun w hM => still_calls _ blk (by omega) w ((rd_rd (i := 2) rfl) w hM)) (by decide) ?_
    refine st_v (rv_assign rfl) (by decide) ?_
    refine st_nil ?_
    refine st_then ?_
    refine st_seq ?_
    refine st_seq ?_
    refine st_region ?_
    refine st_v (rv_move rfl) (by decide) ?_
    refine st_v (rv_not rfl) (by decide) ?_
    refine st_nil ?_
    refine st_then ?_
    refine st_false rfl ?_
    refine st_skip ?_
    refine st_then ?_
    refine st_seq ?_
    refine st_region ?_
    refine st_v (rv_move rfl) (by decide) ?_
    refine st_call0 cal9 rfl (fun w hM => fits_calls key w) (by decide) ?_
    refine st_v (rv_assign rfl) (by decide) ?_
    refine st_nil ?_
    refine st_then ?_
    refine st_seq ?_
    refine st_seq ?_
    refine st_region ?_
    refine st_v (rv_move rfl) (by decide) ?_
    refine st_v (rv_not rfl) (by decide) ?_
    refine st_v (rv_move rfl) (by decide) ?_
    refine' st_or 4 (L := _) (s := 41) (d := 45) [0, 1, 6, 7] rfl (fun hg3 => ?_) (fun _ => ?_) ?_; rotate_left
    · -- true
      refine st_gskip rfl rfl rfl (by decide) ?_
      refine st_gskip rfl rfl rfl (by decide) ?_
      refine st_gskip rfl rfl rfl (by decide) ?_
      first | refine st_v (rv_pick_true rfl rfl) (by decide) ?_ | refine st_v (rv_pick_false rfl rfl) (by decide) ?_ | refine st_v (rv_pick rfl rfl rfl) (by decide) ?_
      refine st_nil ?_
      exact st_meet_b (SubE.cons rfl (SubE.cons rfl (SubE.cons rfl (SubE.cons rfl (SubE.cons rfl (SubE.nil _))))))
    · -- false
      refine st_gon rfl rfl ?_
      refine st_v (rv_move rfl) (by decide) ?_
      refine st_gon rfl rfl ?_
      refine st_v (rv_lenB Tryd.underlying9 rfl) (by decide) ?_
      refine st_gon rfl rfl ?_
      refine st_v (rv_neqZ rfl rfl) (by decide) ?_
      first | refine st_v (rv_pick_true rfl rfl) (by decide) ?_ | refine st_v (rv_pick_false rfl rfl) (by decide) ?_ | refine st_v (rv_pick rfl rfl rfl) (by decide) ?_
      refine st_nil ?_
      exact st_meet_b (SubE.cons rfl (SubE.cons rfl (SubE.cons rfl (SubE.cons rfl (SubE.cons rfl (SubE.nil _))))))
    refine st_nil ?_
    refine st_then ?_
    refine st_cond rfl (fun hc45 => ?_) (fun hc45 => ?_)
    · -- t45 True
      try simp only [decide_eq_true_eq, decide_eq_false_iff_not, Bool.and_eq_true, Bool.or_eq_true, Bool.and_eq_false_iff, Bool.or_eq_false_iff, Bool.not_eq_true, Bool.not_eq_eq_eq_not, Bool.not_true, Bool.not_false, Int.not_lt, Int.not_le, ne_eq, Decidable.not_not] at hc45
      have ho : eOk key blk = false := by simp only [eOk, Bool.and_eq_false_iff, Bool.or_eq_false_iff, decide_eq_false_iff_not]; omega
      refine st_seq ?_
      refine st_region ?_
      refine st_v (rv_move rfl) (by decide) ?_
      refine st_v (rv_lenR (rd_rd (i := 0) rfl) Tryd.underlying22 rfl) (by decide) ?_
      refine st_v (rv_eqlZ rfl rfl) (by decide) ?_
      refine st_v (rv_move rfl) (by decide) ?_
      refine' st_and 3 (L := _) (s := 49) (d := 52) [] rfl (fun hg4 => ?_) (fun _ => ?_) ?_; rotate_left
      · -- true
        try simp only [decide_eq_true_eq, decide_eq_false_iff_not, Bool.and_eq_true, Bool.not_eq_true] at hg4
        refine st_gon rfl rfl ?_
        refine st_v (rv_move rfl) (by decide) ?_
        refine st_gon rfl rfl ?_
        refine st_v (rv_eqlZ rfl rfl) (by decide) ?_
        first | refine st_v (rv_pick_true rfl rfl) (by decide) ?_ | refine st_v (rv_pick_false rfl rfl) (by decide) ?_ | refine st_v (rv_pick rfl rfl rfl) (by decide) ?_
        refine st_nil ?_
        exact st_meet_b (SubE.cons rfl (SubE.nil _))
      · -- false
        refine st_gskip rfl rfl rfl (by decide) ?_
        refine st_gskip rfl rfl rfl (by decide) ?_
        first | refine st_v (rv_pick_true rfl rfl) (by decide) ?_ | refine st_v (rv_pick_false rfl rfl) (by decide) ?_ | refine st_v (rv_pick rfl rfl rfl) (by decide) ?_
        refine st_nil ?_
        exact st_meet_b (SubE.cons rfl (SubE.nil _))
      refine st_v (rv_assign rfl) (by decide) ?_
      refine st_nil ?_
      refine st_then ?_
      refine st_ret ?_
      refine st_then_ret ?_
      exact st_done rfl rfl (fun w hM => ⟨by simp [eOut, eErr, ho], hM.sublist (List.nil_sublist _)⟩)
    · -- t45 False
      try simp only [decide_eq_true_eq, decide_eq_false_iff_not, Bool.and_eq_true, Bool.or_eq_true, Bool.and_eq_false_iff, Bool.or_eq_false_iff, Bool.not_eq_true, Bool.not_eq_eq_eq_not, Bool.not_true, Bool.not_false, Int.not_lt, Int.not_le, ne_eq, Decidable.not_not] at hc45
      have hb16 : blk.length = 16 := by omega
      have hk2 : key.length = 16 ∨ key.length = 32 := by omega
      have ho : eOk key blk = true := by simp [eOk, hk2, hb16]
      obtain ⟨nk, hnk⟩ : ∃ nk, key.length / 4 = nk := ⟨_, rfl⟩
      have hnk4 : nk = 4 ∨ nk = 8 := by omega
      have hkey : key.length = 4 * nk := by omega
      have hsame : eOut key blk = encQ blk (mS key (boxR 256) nk (4 * (nk + 7))) (boxR 256) (nk + 6) (nk + 6) := by (rw [eOut, if_pos ho, hnk]; exact enc_same key blk nk hnk4 hkey hb16 (nk + 6) (Nat.le_refl _))
      refine st_skip ?_
      refine st_then ?_
      refine st_seq ?_
      refine st_region ?_
      refine st_v (rv_move rfl) (by decide) ?_
      refine st_call1 (ρ := Nat × Value × Value × List Value) (fun r => pt r.1 0) (fun r => r.2.2.2.length = 4 * (nk + 7)) (fun r => [cipA r.1 48 r.2.1 r.2.2.1 r.2.2.2 (mS key (boxR 256) nk (4 * (nk + 7))) (boxR 256)]) cal10 rfl (fun w hM => (make_calls key nk hnk4 hkey w).mono fun e w' ⟨c, vk, vb, vs, h1, h2, h3⟩ => ⟨(c, vk, vb, vs), h1, h2, h3⟩) (by decide) (fun r4 hr4 => ?_)
      refine st_v (rv_assign rfl) (by decide) ?_
      refine st_nil ?_
      refine st_then ?_
      refine st_seq ?_
      refine st_region ?_
      refine st_v (rv_move rfl) (by decide) ?_
      refine st_v (rv_move rfl) (by decide) ?_
      refine st_call0 cal11 rfl (fun w hM => renc_calls _ _ _ _ (mS key (boxR 256) nk (4 * (nk + 7))) (boxR 256) (blk) (nk + 6) (hb16) (by rw [length_mS]; exact hr4) (fun k hk => mS_getD4 hkey (by rw [length_mS] at hk; exact hk)) (by rw [length_mS]) (by omega) (by omega) (length_boxR 256) w (hM.holds _ (List.mem_of_getElem? (i := 0) rfl))) (by decide) ?_
      refine st_v (rv_assign rfl) (by decide) ?_
      refine st_nil ?_
      refine st_then ?_
      refine st_seq ?_
      refine st_region ?_
      refine st_v (rv_move rfl) (by decide) ?_
      refine st_v (rv_string (rd_rd (i := 1) rfl) Tryd.underlying22 Tryd.underlying9 Tryd.underlying5 rfl) (by decide) ?_
      refine st_v (rv_move rfl) (by decide) ?_
      refine st_v (rv_eqlB rfl rfl) (by decide) ?_
      refine st_v (rv_move rfl) (by decide) ?_
      refine' st_and 3 (L := _) (s := 62) (d := 65) [] rfl (fun hg5 => ?_) (fun _ => ?_) ?_; rotate_left
      · -- true
        try simp only [decide_eq_true_eq, decide_eq_false_iff_not, Bool.and_eq_true, Bool.not_eq_true] at hg5
        refine st_gon rfl rfl ?_
        refine st_v (rv_move rfl) (by decide) ?_
        refine st_gon rfl rfl ?_
        refine st_v (rv_eqlZ rfl rfl) (by decide) ?_
        first | refine st_v (rv_pick_true rfl rfl) (by decide) ?_ | refine st_v (rv_pick_false rfl rfl) (by decide) ?_ | refine st_v (rv_pick rfl rfl rfl) (by decide) ?_
        refine st_nil ?_
        exact st_meet_b (SubE.cons rfl (SubE.nil _))
      · -- false
        refine st_gskip rfl rfl rfl (by decide) ?_
        refine st_gskip rfl rfl rfl (by decide) ?_
        first | refine st_v (rv_pick_true rfl rfl) (by decide) ?_ | refine st_v (rv_pick_false rfl rfl) (by decide) ?_ | refine st_v (rv_pick rfl rfl rfl) (by decide) ?_
        refine st_nil ?_
        exact st_meet_b (SubE.cons rfl (SubE.nil _))
      refine st_v (rv_assign rfl) (by decide) ?_
      refine st_nil ?_
      refine st_then ?_
      refine st_ret ?_
      exact st_done rfl rfl (fun w hM => ⟨by simp [eErr, ho, hsame], hM.sublist (List.nil_sublist _)⟩)
end Go.Proofs.YtpihffpdkfkkhaaDoor
