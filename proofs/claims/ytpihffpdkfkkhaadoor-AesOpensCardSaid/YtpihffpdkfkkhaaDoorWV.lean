/- Walks: what functions of the given program do, operation by operation. Written by wip/gen. -/
import Derived.Test.YtpihffpdkfkkhaaDoorWU
namespace Go.Proofs.YtpihffpdkfkkhaaDoor
set_option linter.all false
open Go
set_option maxRecDepth 20000 in
set_option maxHeartbeats 2000000 in
theorem newCipher_calls (v : Value) (key : List (BitVec 8)) (nk : Nat) (hnk : key.length / 4 = nk) (hl : key.length ≤ 100000) (w : World) (hT : Tab w) (hR : Rd w v key.length 1 (key.map U8)) : Calls Tryd.prog 16 #[v] w (fun e w' => (key.length = 16 ∨ key.length = 32) ∧ (∃ u, e = .returned u ∧ Mem (All w) w w' [rdA u (nk + 7) 16 ((kS key nk (3 * nk + 28)).1.map U8)]) ∨ ¬ (key.length = 16 ∨ key.length = 32) ∧ e = .returned nilS ∧ Mem (All w) w w' []) := by
  have hS0 : All w 0 := ⟨by have := hT.live; omega, fun h => h⟩
  have hS1 : All w 1 := ⟨by have := hT.live; omega, fun h => h⟩
  refine calls_of_st (n := 114) (args := [v]) Tryd.func16 rfl Tryd.ntmps16 (Nat.le_of_ble_eq_true rfl) (Mem.all w) ?_
  refine st_seq ?_
  refine st_region ?_
  refine st_v (rv_assign rfl) (by decide) ?_
  refine st_nil ?_
  refine st_then ?_
  refine st_seq ?_
  refine st_region ?_
  refine st_v (rv_move rfl) (by decide) ?_
  refine st_v (rv_lenR (rd_old hR hR.all) Tryd.underlying22 rfl) (by decide) ?_
  refine st_v (rv_to (u := vI nk) (rv_quoN (b := 4) rfl rfl (by omega)) (by rw [hnk])) (by decide) ?_
  refine st_v (rv_assign rfl) (by decide) ?_
  refine st_nil ?_
  refine st_then ?_
  refine st_seq ?_
  refine st_seq ?_
  refine st_region ?_
  refine st_v (rv_move rfl) (by decide) ?_
  refine st_v (rv_lenR (rd_old hR hR.all) Tryd.underlying22 rfl) (by decide) ?_
  refine st_v (rv_neqZ rfl rfl) (by decide) ?_
  refine st_v (rv_move rfl) (by decide) ?_
  refine' st_and 4 (L := _) (s := 19) (d := 23) [0, 3] rfl (fun hg4 => ?_) (fun _ => ?_) ?_; rotate_left
  · -- true
    try simp only [decide_eq_true_eq, decide_eq_false_iff_not, Bool.and_eq_true, Bool.not_eq_true] at hg4
    refine st_gon rfl rfl ?_
    refine st_v (rv_move rfl) (by decide) ?_
    refine st_gon rfl rfl ?_
    refine st_v (rv_lenR (rd_old hR hR.all) Tryd.underlying22 rfl) (by decide) ?_
    refine st_gon rfl rfl ?_
    refine st_v (rv_neqZ rfl rfl) (by decide) ?_
    first | refine st_v (rv_pick_true rfl rfl) (by decide) ?_ | refine st_v (rv_pick_false rfl rfl) (by decide) ?_ | refine st_v (rv_pick rfl rfl rfl) (by decide) ?_
    refine st_nil ?_
    exact st_meet_b (SubE.cons rfl (SubE.cons rfl (SubE.cons rfl (SubE.nil _))))
  · -- false
    refine st_gskip rfl rfl rfl (by decide) ?_
    refine st_gskip rfl rfl rfl (by decide) ?_
    refine st_gskip rfl rfl rfl (by decide) ?_
    first | refine st_v (rv_pick_true rfl rfl) (by decide) ?_ | refine st_v (rv_pick_false rfl rfl) (by decide) ?_ | refine st_v (rv_pick rfl rfl rfl) (by decide) ?_
    refine st_nil ?_
    exact st_meet_b (SubE.cons rfl (SubE.cons rfl (SubE.cons rfl (SubE.nil _))))
  refine st_nil ?_
  refine st_then ?_
  refine st_cond rfl (fun hc23 => ?_) (fun hc23 => ?_)
  · -- t23 True
    try simp only [decide_eq_true_eq, decide_eq_false_iff_not, Bool.and_eq_true, Bool.or_eq_true, Bool.and_eq_false_iff, Bool.or_eq_false_iff, Bool.not_eq_true, Bool.not_eq_eq_eq_not, Bool.not_true, Bool.not_false, Int.not_lt, Int.not_le, ne_eq, Decidable.not_not] at hc23
    have hkey : ¬ (key.length = 16 ∨ key.length = 32) := by omega
    refine st_seq ?_
    refine st_region ?_
    refine st_v (rv_assign rfl) (by decide) ?_
    refine st_nil ?_
    refine st_then ?_
    refine st_ret ?_
    refine st_then_ret ?_
    exact st_done rfl rfl (fun w hM => .inr ⟨hkey, rfl, hM.sublist (List.nil_sublist _)⟩)
  · -- t23 False
    try simp only [decide_eq_true_eq, decide_eq_false_iff_not, Bool.and_eq_true, Bool.or_eq_true, Bool.and_eq_false_iff, Bool.or_eq_false_iff, Bool.not_eq_true, Bool.not_eq_eq_eq_not, Bool.not_true, Bool.not_false, Int.not_lt, Int.not_le, ne_eq, Decidable.not_not] at hc23
    have hkey : key.length = 16 ∨ key.length = 32 := by omega
    have hnk4 : nk = 4 ∨ nk = 8 := by omega
    have hlen : key.length = 4 * nk := by omega
    refine st_skip ?_
    refine st_then ?_
    refine st_seq ?_
    refine st_region ?_
    refine st_v (rv_move rfl) (by decide) ?_
    refine st_ownNil8 5 1 ?_
    refine st_append8 Tryd.underlying22 Tryd.underlying22 (.inr ⟨_, rfl⟩) tyZ5 rfl rfl rfl (i := 0) rfl (fun w hM => src_rd ((rd_old hR hR.all) w hM) (one8 _)) (by first | omega | (simp [length_kS, length_kApp] <;> omega)) (by first | omega | (simp [length_kS, length_kApp] <;> omega)) (by decide) (fun v1 => ?_)
    refine st_v (rv_assign rfl) (by decide) ?_
    refine st_nil ?_
    refine st_then ?_
    refine st_seq ?_
    refine st_region ?_
    refine st_v (rv_assign rfl) (by decide) ?_
    refine st_nil ?_
    refine st_then ?_
    refine st_seq ?_
    refine st_seq ?_
    refine st_region ?_
    refine st_v (rv_move rfl) (by decide) ?_
    refine st_v (rv_assign rfl) (by decide) ?_
    refine st_nil ?_
    refine st_then ?_
    refine st_block ?_
    refine st_loop (σ := Nat × Value) (fun (t, u) => [(3, vI nk), (4, u), (5, U8 (kS key nk t).2), (6, vI (nk + t : Nat))]) (fun (t, u) => [own u 5 1 (kS key nk t).1.length ((kS key nk t).1.map U8)]) (fun (t, u) => t ≤ 3 * nk + 28) (fun (t, u) => 3 * nk + 28 - t) (0, _) (by omega) (SubE.cons rfl (SubE.cons rfl (SubE.cons rfl (SubE.cons rfl (SubE.nil _))))) (by intro w hM; rw [Nat.zero_add] at hM; exact hM) ?_
    intro ⟨t, u⟩ hI
    dsimp only at hI ⊢
    refine st_seq ?_
    refine st_seq ?_
    refine st_region ?_
    refine st_v (rv_move rfl) (by decide) ?_
    refine st_v (rv_move rfl) (by decide) ?_
    first | refine st_v (rv_addN (b := 7) rfl rfl (by first | omega | (simp <;> omega))) (by decide) ?_ | refine st_v (rv_addZ rfl rfl (by first | omega | (simp <;> omega))) (by decide) ?_
    first | refine st_v (rv_mulN (a := 4) rfl rfl (by first | omega | (simp <;> omega))) (by decide) ?_ | refine st_v (rv_mulZ rfl rfl (by first | omega | (simp <;> omega))) (by decide) ?_
    refine st_v (rv_lssZ rfl rfl) (by decide) ?_
    refine st_nil ?_
    refine st_then ?_
    refine st_cond rfl (fun hc31 => ?_) (fun hc31 => ?_)
    · -- t31 True
      try simp only [decide_eq_true_eq, decide_eq_false_iff_not, Bool.and_eq_true, Bool.or_eq_true, Bool.and_eq_false_iff, Bool.or_eq_false_iff, Bool.not_eq_true, Bool.not_eq_eq_eq_not, Bool.not_true, Bool.not_false, Int.not_lt, Int.not_le, ne_eq, Decidable.not_not] at hc31
      refine st_skip ?_
      refine st_then ?_
      refine st_seq ?_
      refine st_block ?_
      refine st_seq ?_
      refine st_region ?_
      refine st_alloc tyZ58 (by decide) (cs := c8 (List.replicate 4 0#8)) (rfl) (fun b2 hb2 => ?_)
      refine st_nil ?_
      refine st_then ?_
      refine st_seq ?_
      refine st_drawStart mixed ?_
      refine st_drawSeg1 (E0 := [(3, _), (4, _), (5, _), (6, _), (7, _)]) [kpeq _, kpeq _, kpeq _, kpeq _, kpeq _, kpeq _] 0 6 [0, 0, 0, 4, 12, 30, 63] [3, 4, 5, 6, 7] (by kernel_rfl) (by decide) (by kernel_rfl) (SubE.cons rfl (SubE.cons rfl (SubE.cons rfl (SubE.cons rfl (SubE.cons rfl (SubE.nil _)))))) rfl rfl (hall_cons (hop_val [] [] rfl rfl rfl (by decide) rfl (jnil) (xnil) (fun _ _ _ _ => does_v (rv_sliceA Tryd.underlying58 sz5 rfl evB_none evB_none (by omega) (by omega) (by decide) rfl))) (hall_cons (hop_val [] [] rfl rfl rfl (by decide) rfl (jnil) (xnil) (fun _ _ _ _ => does_v (rv_move rfl))) (hall_cons (hop_val [] [] rfl rfl rfl (by decide) rfl (jnil) (xnil) (fun _ _ _ _ => does_v (rv_move rfl))) (hall_cons (hop_val [(2, 36, _)] [] rfl rfl rfl (by decide) rfl (jcons rfl rfl rfl rfl rfl (jnil)) (xnil) (fun _ _ _ _ => does_v (rv_mulN (a := 4) rfl rfl (by first | omega | (simp <;> omega))))) (hall_cons (hop_val [(3, 37, _)] [] rfl rfl rfl (by decide) rfl (jcons rfl rfl rfl rfl rfl (jnil)) (xnil) (fun _ _ _ _ => does_v (rv_subN (b := 4) rfl rfl (by first | omega | (simp <;> omega))))) (hall_cons (hop_val [(1, 35, _), (4, 38, _)] [] rfl rfl rfl (by decide) rfl (jcons rfl rfl rfl rfl rfl (jcons rfl rfl rfl rfl rfl (jnil))) (xnil) (fun _ _ _ _ => does_v (rv_sliceR (rd_own (i := 1) rfl) Tryd.underlying22 sz5 rfl (evB_some rfl rfl) evB_none (by first | omega | (simp [length_kApp, length_kS, length_kWord, length_kLast, length_sub2, over] <;> omega)) (by first | omega | (simp [length_kApp, length_kS, length_kWord, length_kLast, length_sub2, over] <;> omega))))) (hall_nil))))))) (draw_end1 [(0, 34, _), (5, 39, _)] (jcons rfl rfl rfl rfl rfl (jcons rfl rfl rfl rfl rfl (jnil))) ?_)
      refine st_drawTail (N := 6) [0, 0, 0, 4, 12, 30, 63] (by kernel_rfl) (by kernel_rfl) ?_
      refine st_copy8 Tryd.underlying22 sz5 rfl rfl (i := 0) rfl (by first | omega | (simp [length_kApp, length_kS, length_kWord, length_kLast, length_sub2, over]; done) | (simp [length_kApp, length_kS, length_kWord, length_kLast, length_sub2, over] <;> omega)) (fun w hM => src_rd (((rd_own (i := 1) rfl) w hM).part8 (by first | omega | (simp [length_kApp, length_kS, length_kWord, length_kLast, length_sub2, over] <;> omega)) (by first | omega | (simp [length_kApp, length_kS, length_kWord, length_kLast, length_sub2, over] <;> omega))) (one8 _)) (l' := [_, _]) rfl (by decide) ?_
      refine st_nil ?_
      refine st_then ?_
      refine st_cut (σ := Unit) (fun _ => [(3, vI nk), (4, u), (5, U8 (if (nk + t) % nk = 0 then dbl (kS key nk t).2 else (kS key nk t).2)), (6, vI (nk + t : Nat)), (7, pt b2 0)]) (fun _ => [blk b2 (c8 (kWord (kS key nk t).1 (nk + t) nk (kS key nk t).2)) 58, own u 5 1 (kS key nk t).1.length ((kS key nk t).1.map U8)]) (fun _ => True) ?_ ?_
      · -- up to the cut
        refine st_block ?_
        refine st_seq ?_
        refine st_region ?_
        refine st_v (rv_move rfl) (by decide) ?_
        refine st_v (rv_move rfl) (by decide) ?_
        refine st_v (rv_remN rfl rfl (by first | omega | (simp <;> omega))) (by decide) ?_
        refine st_v (rv_eqlZ rfl rfl) (by decide) ?_
        refine st_v (rv_assign rfl) (by decide) ?_
        refine st_nil ?_
        refine st_then ?_
        refine st_cond rfl (fun hc41 => ?_) (fun hc41 => ?_)
        · -- t41 True
          try simp only [decide_eq_true_eq, decide_eq_false_iff_not, Bool.and_eq_true, Bool.or_eq_true, Bool.and_eq_false_iff, Bool.or_eq_false_iff, Bool.not_eq_true, Bool.not_eq_eq_eq_not, Bool.not_true, Bool.not_false, Int.not_lt, Int.not_le, ne_eq, Decidable.not_not] at hc41
          have hm : (nk + t) % nk = 0 := by exact_mod_cast hc41
          refine st_seq ?_
          refine st_drawStart mixed ?_
          refine st_drawSeg1 (E0 := [(3, _), (4, _), (5, _), (6, _), (7, _)]) [kpeq _, kpeq _, kpeq _, kpeq _, kpeq _, kpeq _, kpeq _, kpeq _, kpeq _, kpeq _, kpeq _, kpeq _, kpeq _, kpeq _] 0 14 [0, 1, 3, 0, 15, 0, 32, 103, 0, 256, 999, 0, 2048, 8167, 16383, 32767] [3, 4, 5, 6, 7] (by kernel_rfl) (by decide) (by kernel_rfl) (SubE.cons rfl (SubE.cons rfl (SubE.cons rfl (SubE.cons rfl (SubE.cons rfl (SubE.nil _)))))) rfl rfl (hall_cons (hop_val [] [] rfl rfl rfl (by decide) rfl (jnil) (xnil) (fun _ _ _ _ => does_v (rv_indexA Tryd.underlying58 sz5 rfl rfl (j := 1) rfl (by decide) rfl))) (hall_cons (hop_val [(0, 46, _)] [] rfl rfl rfl (by decide) rfl (jcons rfl rfl rfl rfl rfl (jnil)) (xnil) (fun _ _ _ _ => does_v (rv_load_blk tyS5 rfl (i := 0) rfl (cell8 (by first | omega | (simp [length_kApp, length_kS, length_kWord, length_kLast, length_sub2, over] <;> omega)))))) (hall_cons (hop_val [(1, 47, _)] [] rfl rfl rfl (by decide) rfl (jcons rfl rfl rfl rfl rfl (jnil)) (xnil) (fun _ _ _ _ => does_call0 cal27 rfl (fun w hM => box_calls _ w (hT.at hM hS0 hS1)))) (hall_cons (hop_val [] [] rfl rfl rfl (by decide) rfl (jnil) (xnil) (fun _ _ _ _ => does_v (rv_move rfl))) (hall_cons (hop_val [(2, 48, _), (3, 49, _)] [] rfl rfl rfl (by decide) rfl (jcons rfl rfl rfl rfl rfl (jcons rfl rfl rfl rfl rfl (jnil))) (xnil) (fun _ _ _ _ => does_v (rv_xor8 rfl rfl))) (hall_cons (hop_val [] [] rfl rfl rfl (by decide) rfl (jnil) (xnil) (fun _ _ _ _ => does_v (rv_indexA Tryd.underlying58 sz5 rfl rfl (j := 2) rfl (by decide) rfl))) (hall_cons (hop_val [(5, 51, _)] [] rfl rfl rfl (by decide) rfl (jcons rfl rfl rfl rfl rfl (jnil)) (xnil) (fun _ _ _ _ => does_v (rv_load_blk tyS5 rfl (i := 0) rfl (cell8 (by first | omega | (simp [length_kApp, length_kS, length_kWord, length_kLast, length_sub2, over] <;> omega)))))) (hall_cons (hop_val [(6, 52, _)] [] rfl rfl rfl (by decide) rfl (jcons rfl rfl rfl rfl rfl (jnil)) (xnil) (fun _ _ _ _ => does_call0 cal27 rfl (fun w hM => box_calls _ w (hT.at hM hS0 hS1)))) (hall_cons (hop_val [] [] rfl rfl rfl (by decide) rfl (jnil) (xnil) (fun _ _ _ _ => does_v (rv_indexA Tryd.underlying58 sz5 rfl rfl (j := 3) rfl (by decide) rfl))) (hall_cons (hop_val [(8, 54, _)] [] rfl rfl rfl (by decide) rfl (jcons rfl rfl rfl rfl rfl (jnil)) (xnil) (fun _ _ _ _ => does_v (rv_load_blk tyS5 rfl (i := 0) rfl (cell8 (by first | omega | (simp [length_kApp, length_kS, length_kWord, length_kLast, length_sub2, over] <;> omega)))))) (hall_cons (hop_val [(9, 55, _)] [] rfl rfl rfl (by decide) rfl (jcons rfl rfl rfl rfl rfl (jnil)) (xnil) (fun _ _ _ _ => does_call0 cal27 rfl (fun w hM => box_calls _ w (hT.at hM hS0 hS1)))) (hall_cons (hop_val [] [] rfl rfl rfl (by decide) rfl (jnil) (xnil) (fun _ _ _ _ => does_v (rv_indexA Tryd.underlying58 sz5 rfl rfl (j := 0) rfl (by decide) rfl))) (hall_cons (hop_val [(11, 57, _)] [] rfl rfl rfl (by decide) rfl (jcons rfl rfl rfl rfl rfl (jnil)) (xnil) (fun _ _ _ _ => does_v (rv_load_blk tyS5 rfl (i := 0) rfl (cell8 (by first | omega | (simp [length_kApp, length_kS, length_kWord, length_kLast, length_sub2, over] <;> omega)))))) (hall_cons (hop_val [(12, 58, _)] [] rfl rfl rfl (by decide) rfl (jcons rfl rfl rfl rfl rfl (jnil)) (xnil) (fun _ _ _ _ => does_call0 cal27 rfl (fun w hM => box_calls _ w (hT.at hM hS0 hS1)))) (hall_nil))))))))))))))) (draw_end1 [(4, 50, _), (7, 53, _), (10, 56, _), (13, 59, _)] (jcons rfl rfl rfl rfl rfl (jcons rfl rfl rfl rfl rfl (jcons rfl rfl rfl rfl rfl (jcons rfl rfl rfl rfl rfl (jnil))))) ?_)
          refine st_drawTail (N := 14) [0, 1, 3, 0, 15, 0, 32, 103, 0, 256, 999, 0, 2048, 8167, 16383, 32767] (by kernel_rfl) (by kernel_rfl) ?_
          refine st_v (rv_buildArray_of Tryd.underlying58 tyZ58 sz5 rfl (cs := #[_, _, _, _]) (by rfl)) (by decide) ?_
          refine st_storeW8 (r := [_, _, _, _]) rfl rfl (i := 0) rfl sz58 (by rfl) (by first | omega | (simp [length_kApp, length_kS, length_kWord, length_kLast, length_sub2, over]; done) | (simp [length_kApp, length_kS, length_kWord, length_kLast, length_sub2, over] <;> omega)) (l' := [_, _]) rfl ?_
          refine st_nil ?_
          refine st_then ?_
          refine st_region ?_
          refine st_v (rv_move rfl) (by decide) ?_
          refine st_call0 cal28 rfl (fun w hM => dbl_calls _ w) (by decide) ?_
          refine st_v (rv_assign rfl) (by decide) ?_
          refine st_nil ?_
          refine st_in_normal ?_
          refine st_then ?_
          exact st_meet () (trivial) (SubE.cons rfl (SubE.cons rfl (SubE.cons (congrArg some (congrArg U8 (by first | rw [if_pos hm] | rw [if_neg hm]))) (SubE.cons rfl (SubE.cons rfl (SubE.nil _)))))) (by intro w hM; first | (simp only [kWord, if_pos hm]; exact hM) | (simp only [kWord, if_neg hm, if_pos h8]; exact hM) | (simp only [kWord, if_neg hm, if_neg h8]; exact hM))
        · -- t41 False
          try simp only [decide_eq_true_eq, decide_eq_false_iff_not, Bool.and_eq_true, Bool.or_eq_true, Bool.and_eq_false_iff, Bool.or_eq_false_iff, Bool.not_eq_true, Bool.not_eq_eq_eq_not, Bool.not_true, Bool.not_false, Int.not_lt, Int.not_le, ne_eq, Decidable.not_not] at hc41
          have hm : ¬ (nk + t) % nk = 0 := by exact_mod_cast hc41
          refine st_seq ?_
          refine st_region ?_
          refine st_v (rv_move rfl) (by decide) ?_
          refine st_v (rv_eqlZ rfl rfl) (by decide) ?_
          refine st_v (rv_move rfl) (by decide) ?_
          refine' st_and 4 (L := _) (s := 66) (d := 70) [3, 4, 5, 6, 7] rfl (fun hg3 => ?_) (fun _ => ?_) ?_; rotate_left
          · -- true
            try simp only [decide_eq_true_eq, decide_eq_false_iff_not, Bool.and_eq_true, Bool.not_eq_true] at hg3
            refine st_gon rfl rfl ?_
            refine st_v (rv_move rfl) (by decide) ?_
            refine st_gon rfl rfl ?_
            refine st_v (rv_remN (b := 8) rfl rfl (by first | omega | (simp <;> omega))) (by decide) ?_
            refine st_gon rfl rfl ?_
            refine st_v (rv_eqlZ rfl rfl) (by decide) ?_
            first | refine st_v (rv_pick_true rfl rfl) (by decide) ?_ | refine st_v (rv_pick_false rfl rfl) (by decide) ?_ | refine st_v (rv_pick rfl rfl rfl) (by decide) ?_
            refine st_nil ?_
            exact st_meet_b (SubE.cons rfl (SubE.cons rfl (SubE.cons rfl (SubE.cons rfl (SubE.cons rfl (SubE.cons rfl (SubE.nil _)))))))
          · -- false
            refine st_gskip rfl rfl rfl (by decide) ?_
            refine st_gskip rfl rfl rfl (by decide) ?_
            refine st_gskip rfl rfl rfl (by decide) ?_
            first | refine st_v (rv_pick_true rfl rfl) (by decide) ?_ | refine st_v (rv_pick_false rfl rfl) (by decide) ?_ | refine st_v (rv_pick rfl rfl rfl) (by decide) ?_
            refine st_nil ?_
            exact st_meet_b (SubE.cons rfl (SubE.cons rfl (SubE.cons rfl (SubE.cons rfl (SubE.cons rfl (SubE.cons rfl (SubE.nil _)))))))
          refine st_v (rv_assign rfl) (by decide) ?_
          refine st_nil ?_
          refine st_then ?_
          refine st_cond rfl (fun hc63 => ?_) (fun hc63 => ?_)
          · -- t63 True
            try simp only [decide_eq_true_eq, decide_eq_false_iff_not, Bool.and_eq_true, Bool.or_eq_true, Bool.and_eq_false_iff, Bool.or_eq_false_iff, Bool.not_eq_true, Bool.not_eq_eq_eq_not, Bool.not_true, Bool.not_false, Int.not_lt, Int.not_le, ne_eq, Decidable.not_not] at hc63
            have h8 : nk = 8 ∧ (nk + t) % 8 = 4 := by omega
            refine st_seq ?_
            refine st_region ?_
            refine st_v (rv_loadW_blk tyA58 rfl (i := 0) rfl (by first | omega | (simp [length_kApp, length_kS, length_kWord, length_kLast, length_sub2, over]; done) | (simp [length_kApp, length_kS, length_kWord, length_kLast, length_sub2, over] <;> omega))) (by decide) ?_
            refine st_v (rv_move rfl) (by decide) ?_
            refine st_nil ?_
            refine st_then ?_
            refine st_block ?_
            refine st_loop (σ := Nat) (fun j => [(3, vI nk), (4, u), (5, U8 (kS key nk t).2), (6, vI (nk + t : Nat)), (7, pt b2 0), (71, .agg (c8 (kLast (kS key nk t).1 (nk + t)))), (72, vI j)]) (fun j => [blk b2 (c8 (sub2 boxT (kLast (kS key nk t).1 (nk + t)) j)) 58, own u 5 1 (kS key nk t).1.length ((kS key nk t).1.map U8)]) (fun j => j ≤ 4) (fun j => 4 - j) 0 (by omega) (SubE.cons rfl (SubE.cons rfl (SubE.cons rfl (SubE.cons rfl (SubE.cons rfl (SubE.cons rfl (SubE.cons rfl (SubE.nil _)))))))) (fun _ hM => hM) ?_
            intro j hI
            refine st_seq ?_
            refine st_region ?_
            refine st_v (rv_lssZ rfl rfl) (by decide) ?_
            refine st_nil ?_
            refine st_then ?_
            refine st_seq ?_
            refine st_cond rfl (fun hc73 => ?_) (fun hc73 => ?_)
            · -- t73 True
              try simp only [decide_eq_true_eq, decide_eq_false_iff_not, Bool.and_eq_true, Bool.or_eq_true, Bool.and_eq_false_iff, Bool.or_eq_false_iff, Bool.not_eq_true, Bool.not_eq_eq_eq_not, Bool.not_true, Bool.not_false, Int.not_lt, Int.not_le, ne_eq, Decidable.not_not] at hc73
              refine st_skip ?_
              refine st_then ?_
              refine st_seq ?_
              refine st_block ?_
              refine st_seq ?_
              refine st_region ?_
              refine st_v (rv_move rfl) (by decide) ?_
              refine st_v (rv_indexV Tryd.underlying58 tyS5 rfl rfl rfl (by first | omega | (simp [length_kApp, length_kS, length_kWord, length_kLast, length_sub2, over] <;> omega)) (cell8 (by first | omega | (simp [length_kApp, length_kS, length_kWord, length_kLast, length_sub2, over] <;> omega)))) (by decide) ?_
              refine st_v (rv_assign rfl) (by decide) ?_
              refine st_v (rv_assign rfl) (by decide) ?_
              refine st_nil ?_
              refine st_then ?_
              refine st_region ?_
              refine st_v (rv_move rfl) (by decide) ?_
              refine st_v (rv_move rfl) (by decide) ?_
              refine st_call0 cal27 rfl (fun w hM => box_calls _ w (hT.at hM hS0 hS1)) (by decide) ?_
              refine st_v (rv_indexA Tryd.underlying58 sz5 rfl rfl rfl (by first | omega | (simp [length_kApp, length_kS, length_kWord, length_kLast, length_sub2, over] <;> omega)) (by first | exact (Nat.zero_add _).trans (Nat.mul_one _) | exact congrArg _ (Nat.mul_one _) | exact Nat.zero_add _ | rfl)) (by decide) ?_
              refine st_store8 rfl rfl (i := 0) rfl sz5 (by first | omega | (simp [length_kApp, length_kS, length_kWord, length_kLast, length_sub2, over] <;> omega)) (l' := [_, _]) rfl ?_
              refine st_nil ?_
              refine st_in_normal ?_
              refine st_then ?_
              refine st_region ?_
              first | refine st_v (rv_addN (b := 1) rfl rfl (by first | omega | (simp <;> omega))) (by decide) ?_ | refine st_v (rv_addZ rfl rfl (by first | omega | (simp <;> omega))) (by decide) ?_
              refine st_v (rv_move rfl) (by decide) ?_
              refine st_nil ?_
              refine st_then ?_
              exact st_again (j + 1) (by omega) (by omega) (SubE.cons rfl (SubE.cons rfl (SubE.cons rfl (SubE.cons rfl (SubE.cons rfl (SubE.cons rfl (SubE.cons rfl (SubE.nil _)))))))) (fun _ hM => hM)
            · -- t73 False
              try simp only [decide_eq_true_eq, decide_eq_false_iff_not, Bool.and_eq_true, Bool.or_eq_true, Bool.and_eq_false_iff, Bool.or_eq_false_iff, Bool.not_eq_true, Bool.not_eq_eq_eq_not, Bool.not_true, Bool.not_false, Int.not_lt, Int.not_le, ne_eq, Decidable.not_not] at hc73
              obtain rfl : j = 4 := by omega
              refine st_exit ?_
              refine st_then_exit ?_
              refine st_then_exit ?_
              refine st_in_exit ?_
              refine st_in_normal ?_
              refine st_then ?_
              exact st_meet () (trivial) (SubE.cons rfl (SubE.cons rfl (SubE.cons (congrArg some (congrArg U8 (by first | rw [if_pos hm] | rw [if_neg hm]))) (SubE.cons rfl (SubE.cons rfl (SubE.nil _)))))) (by intro w hM; first | (simp only [kWord, if_pos hm]; exact hM) | (simp only [kWord, if_neg hm, if_pos h8]; exact hM) | (simp only [kWord, if_neg hm, if_neg h8]; exact hM))
          · -- t63 False
            try simp only [decide_eq_true_eq, decide_eq_false_iff_not, Bool.and_eq_true, Bool.or_eq_true, Bool.and_eq_false_iff, Bool.or_eq_false_iff, Bool.not_eq_true, Bool.not_eq_eq_eq_not, Bool.not_true, Bool.not_false, Int.not_lt, Int.not_le, ne_eq, Decidable.not_not] at hc63
            have h8 : ¬ (nk = 8 ∧ (nk + t) % 8 = 4) := by omega
            refine st_skip ?_
            refine st_in_normal ?_
            refine st_then ?_
            exact st_meet () (trivial) (SubE.cons rfl (SubE.cons rfl (SubE.cons (congrArg some (congrArg U8 (by first | rw [if_pos hm] | rw [if_neg hm]))) (SubE.cons rfl (SubE.cons rfl (SubE.nil _)))))) (by intro w hM; first | (simp only [kWord, if_pos hm]; exact hM) | (simp only [kWord, if_neg hm, if_pos h8]; exact hM) | (simp only [kWord, if_neg hm, if_neg h8]; exact hM))
      · -- behind the cut
        intro _ hI
        refine st_seq ?_
        refine st_region ?_
        refine st_v (rv_loadW_blk tyA58 rfl (i := 0) rfl (by first | omega | (simp [length_kApp, length_kS, length_kWord, length_kLast, length_sub2, over]; done) | (simp [length_kApp, length_kS, length_kWord, length_kLast, length_sub2, over] <;> omega))) (by decide) ?_
        refine st_v (rv_move rfl) (by decide) ?_
        refine st_nil ?_
        refine st_then ?_
        refine st_block ?_
        refine st_loop (σ := Nat × Value) (fun (j, u2) => [(3, vI nk), (4, u2), (5, U8 (if (nk + t) % nk = 0 then dbl (kS key nk t).2 else (kS key nk t).2)), (6, vI (nk + t : Nat)), (81, .agg (c8 (kWord (kS key nk t).1 (nk + t) nk (kS key nk t).2))), (82, vI j)]) (fun (j, u2) => [own u2 5 1 (kApp (kS key nk t).1 (nk + t) nk (kWord (kS key nk t).1 (nk + t) nk (kS key nk t).2) j).length ((kApp (kS key nk t).1 (nk + t) nk (kWord (kS key nk t).1 (nk + t) nk (kS key nk t).2) j).map U8)]) (fun (j, u2) => j ≤ 4) (fun (j, u2) => 4 - j) (0, _) (by omega) (SubE.cons rfl (SubE.cons rfl (SubE.cons rfl (SubE.cons rfl (SubE.cons rfl (SubE.cons rfl (SubE.nil _))))))) (fun _ hM => hM.sublist (List.sublist_cons_self _ _)) ?_
        intro ⟨j, u2⟩ hI
        dsimp only at hI ⊢
        refine st_seq ?_
        refine st_region ?_
        refine st_v (rv_lssZ rfl rfl) (by decide) ?_
        refine st_nil ?_
        refine st_then ?_
        refine st_seq ?_
        refine st_cond rfl (fun hc83 => ?_) (fun hc83 => ?_)
        · -- t83 True
          try simp only [decide_eq_true_eq, decide_eq_false_iff_not, Bool.and_eq_true, Bool.or_eq_true, Bool.and_eq_false_iff, Bool.or_eq_false_iff, Bool.not_eq_true, Bool.not_eq_eq_eq_not, Bool.not_true, Bool.not_false, Int.not_lt, Int.not_le, ne_eq, Decidable.not_not] at hc83
          refine st_skip ?_
          refine st_then ?_
          refine st_seq ?_
          refine st_block ?_
          refine st_seq ?_
          refine st_region ?_
          refine st_v (rv_move rfl) (by decide) ?_
          refine st_v (rv_indexV Tryd.underlying58 tyS5 rfl rfl rfl (by first | omega | (simp [length_kApp, length_kS, length_kWord, length_kLast, length_sub2, over] <;> omega)) (cell8 (by first | omega | (simp [length_kApp, length_kS, length_kWord, length_kLast, length_sub2, over] <;> omega)))) (by decide) ?_
          refine st_v (rv_assign rfl) (by decide) ?_
          refine st_v (rv_assign rfl) (by decide) ?_
          refine st_nil ?_
          refine st_then ?_
          refine st_region ?_
          refine st_v (rv_move rfl) (by decide) ?_
          refine st_v (rv_move rfl) (by decide) ?_
          refine st_v (rv_move rfl) (by decide) ?_
          refine st_v (rv_move rfl) (by decide) ?_
          first | refine st_v (rv_subN rfl rfl (by first | omega | (simp <;> omega))) (by decide) ?_ | refine st_v (rv_subZ rfl rfl (by first | omega | (simp <;> omega))) (by decide) ?_
          first | refine st_v (rv_mulN (a := 4) rfl rfl (by first | omega | (simp <;> omega))) (by decide) ?_ | refine st_v (rv_mulZ rfl rfl (by first | omega | (simp <;> omega))) (by decide) ?_
          refine st_v (rv_move rfl) (by decide) ?_
          first | refine st_v (rv_addN rfl rfl (by first | omega | (simp <;> omega))) (by decide) ?_ | refine st_v (rv_addZ rfl rfl (by first | omega | (simp <;> omega))) (by decide) ?_
          refine st_v (rv_indexR1 (rd_own (i := 0) rfl) Tryd.underlying22 sz5 rfl rfl rfl (by first | omega | (simp [length_kApp, length_kS, length_kWord, length_kLast, length_sub2, over] <;> omega))) (by decide) ?_
          refine st_v (rv_load_rd (rd_own (i := 0) rfl) tyS5 rfl (get8 (by first | omega | (simp [length_kApp, length_kS, length_kWord, length_kLast, length_sub2, over] <;> omega)))) (by decide) ?_
          refine st_v (rv_move rfl) (by decide) ?_
          refine st_v (rv_xor8 rfl rfl) (by decide) ?_
          refine st_buildSlice Tryd.underlying22 tyZ5 rfl rfl (by decide) (cs := #[_]) rfl (by decide) (fun b3 hb3 => ?_)
          refine st_append8 Tryd.underlying22 Tryd.underlying22 (.inr ⟨_, rfl⟩) tyZ5 rfl rfl rfl (i := 1) rfl (fun w hM => src_rd ((rd_l8 (q := [_]) (len := 1) (i := 0) rfl rfl rfl (by omega)) w hM) (one8 _)) (by first | omega | (simp [length_kS, length_kApp] <;> omega)) (by first | omega | (simp [length_kS, length_kApp] <;> omega)) (by decide) (fun vg => ?_)
          refine st_v (rv_assign rfl) (by decide) ?_
          refine st_nil ?_
          refine st_in_normal ?_
          refine st_then ?_
          refine st_region ?_
          first | refine st_v (rv_addN (b := 1) rfl rfl (by first | omega | (simp <;> omega))) (by decide) ?_ | refine st_v (rv_addZ rfl rfl (by first | omega | (simp <;> omega))) (by decide) ?_
          refine st_v (rv_move rfl) (by decide) ?_
          refine st_nil ?_
          refine st_then ?_
          exact st_again (j + 1, _) (by omega) (by omega) (SubE.cons rfl (SubE.cons rfl (SubE.cons rfl (SubE.cons rfl (SubE.cons rfl (SubE.cons rfl (SubE.nil _))))))) (by intro w hM; have hM := hM.sublist (List.sublist_cons_self _ _); simp only [kApp, List.length_append, List.length_cons, List.length_nil]; exact hM)
        · -- t83 False
          try simp only [decide_eq_true_eq, decide_eq_false_iff_not, Bool.and_eq_true, Bool.or_eq_true, Bool.and_eq_false_iff, Bool.or_eq_false_iff, Bool.not_eq_true, Bool.not_eq_eq_eq_not, Bool.not_true, Bool.not_false, Int.not_lt, Int.not_le, ne_eq, Decidable.not_not] at hc83
          obtain rfl : j = 4 := by omega
          refine st_exit ?_
          refine st_then_exit ?_
          refine st_then_exit ?_
          refine st_in_exit ?_
          refine st_in_normal ?_
          refine st_then ?_
          refine st_region ?_
          refine st_v (rv_move rfl) (by decide) ?_
          first | refine st_v (rv_addN (b := 1) rfl rfl (by first | omega | (simp <;> omega))) (by decide) ?_ | refine st_v (rv_addZ rfl rfl (by first | omega | (simp <;> omega))) (by decide) ?_
          refine st_v (rv_assign rfl) (by decide) ?_
          refine st_nil ?_
          refine st_then ?_
          exact st_again (t + 1, _) (by omega) (by omega) (SubE.cons rfl (SubE.cons rfl (SubE.cons rfl (SubE.cons rfl (SubE.nil _))))) (fun _ hM => hM)
    · -- t31 False
      try simp only [decide_eq_true_eq, decide_eq_false_iff_not, Bool.and_eq_true, Bool.or_eq_true, Bool.and_eq_false_iff, Bool.or_eq_false_iff, Bool.not_eq_true, Bool.not_eq_eq_eq_not, Bool.not_true, Bool.not_false, Int.not_lt, Int.not_le, ne_eq, Decidable.not_not] at hc31
      obtain rfl : t = 3 * nk + 28 := by omega
      refine st_exit ?_
      refine st_then_exit ?_
      refine st_then_exit ?_
      refine st_in_exit ?_
      refine st_then ?_
      refine st_seq ?_
      refine st_region ?_
      refine st_v (rv_assign rfl) (by decide) ?_
      refine st_nil ?_
      refine st_then ?_
      refine st_seq ?_
      refine st_block ?_
      refine st_loop (σ := Nat × Value) (fun (m, x) => [(4, cut16 u (kS key nk (3 * nk + 28)).1.length m), (12, x)]) (fun (m, x) => [own x 43 16 m (((kS key nk (3 * nk + 28)).1.take (16 * m)).map U8), own u 5 1 (kS key nk (3 * nk + 28)).1.length ((kS key nk (3 * nk + 28)).1.map U8)]) (fun (m, x) => m ≤ nk + 7) (fun (m, x) => nk + 7 - m) (0, _) (by omega) (SubE.cons rfl (SubE.cons rfl (SubE.nil _))) (fun _ hM => hM.ownNil 43 16) ?_
      intro ⟨m, x⟩ hI
      dsimp only at hI ⊢
      have hFl : (kS key nk (3 * nk + 28)).1.length = 16 * (nk + 7) := by rw [length_kS]; omega
      refine st_seq ?_
      refine st_seq ?_
      refine st_region ?_
      refine st_v (rv_move rfl) (by decide) ?_
      refine st_v (rv_lenR (fun w hM => cut16Rd ((rd_own (i := 1) rfl) w hM) m (by omega)) Tryd.underlying22 rfl) (by decide) ?_
      refine st_v (rv_gtrZ rfl rfl) (by decide) ?_
      refine st_nil ?_
      refine st_then ?_
      refine st_cond rfl (fun hc103 => ?_) (fun hc103 => ?_)
      · -- t103 True
        try simp only [decide_eq_true_eq, decide_eq_false_iff_not, Bool.and_eq_true, Bool.or_eq_true, Bool.and_eq_false_iff, Bool.or_eq_false_iff, Bool.not_eq_true, Bool.not_eq_eq_eq_not, Bool.not_true, Bool.not_false, Int.not_lt, Int.not_le, ne_eq, Decidable.not_not] at hc103
        refine st_skip ?_
        refine st_then ?_
        refine st_seq ?_
        refine st_block ?_
        refine st_region ?_
        refine st_v (rv_move rfl) (by decide) ?_
        refine st_v (rv_move rfl) (by decide) ?_
        refine st_v (rv_sliceR (fun w hM => cut16Rd ((rd_own (i := 1) rfl) w hM) m (by omega)) Tryd.underlying22 sz5 rfl evB_none (evB_some (k := 16) rfl rfl) (by first | omega | (simp [length_kApp, length_kS, length_kWord, length_kLast, length_sub2, over] <;> omega)) (by first | omega | (simp [length_kApp, length_kS, length_kWord, length_kLast, length_sub2, over] <;> omega))) (by decide) ?_
        refine st_v (rv_arrayAt (fun w hM => ((fun w hM => cut16Rd ((rd_own (i := 1) rfl) w hM) m (by omega)) w hM).part8 (by first | omega | (simp [length_kApp, length_kS, length_kWord, length_kLast, length_sub2, over] <;> omega)) (by first | omega | (simp [length_kApp, length_kS, length_kWord, length_kLast, length_sub2, over] <;> omega))) Tryd.underlying43 rfl (by first | omega | (simp [length_kApp, length_kS, length_kWord, length_kLast, length_sub2, over] <;> omega)) (by first | omega | (simp [length_kApp, length_kS, length_kWord, length_kLast, length_sub2, over] <;> omega))) (by decide) ?_
        refine st_v (rv_loadA_rd8 (off := 0) (fun w hM => ((fun w hM => cut16Rd ((rd_own (i := 1) rfl) w hM) m (by omega)) w hM).part8 (by first | omega | (simp [length_kApp, length_kS, length_kWord, length_kLast, length_sub2, over] <;> omega)) (by first | omega | (simp [length_kApp, length_kS, length_kWord, length_kLast, length_sub2, over] <;> omega))) tyA43 rfl (by first | omega | (simp [length_kApp, length_kS, length_kWord, length_kLast, length_sub2, over] <;> omega))) (by decide) ?_
        refine st_build1A Tryd.underlying40 tyZ43 (by decide) (cs := c8 _) rfl (by first | omega | (simp [length_kApp, length_kS, length_kWord, length_kLast, length_sub2, over]; done) | (simp [length_kApp, length_kS, length_kWord, length_kLast, length_sub2, over] <;> omega)) (by decide) (fun b4 hb4 => ?_)
        refine st_append8 Tryd.underlying40 Tryd.underlying40 (.inr ⟨_, rfl⟩) tyZ43 rfl rfl rfl (i := 1) rfl (fun w hM => src_rd ((rd_k8 (i := 0) (len := 1) (size := 16) rfl (by first | omega | (simp [length_kApp, length_kS, length_kWord, length_kLast, length_sub2, over]; done) | (simp [length_kApp, length_kS, length_kWord, length_kLast, length_sub2, over] <;> omega)) (by omega)) w hM) (one8 _)) (by first | omega | (simp [length_kS, length_kApp] <;> omega)) (by first | omega | (simp [length_kS, length_kApp] <;> omega)) (by decide) (fun vx => ?_)
        refine st_v (rv_assign rfl) (by decide) ?_
        refine st_nil ?_
        refine st_in_normal ?_
        refine st_then ?_
        refine st_region ?_
        refine st_v (rv_move rfl) (by decide) ?_
        refine st_v (rv_sliceR (fun w hM => cut16Rd ((rd_own (i := 2) rfl) w hM) m (by omega)) Tryd.underlying22 sz5 rfl (evB_some (k := 16) rfl rfl) evB_none (by first | omega | (simp [length_kApp, length_kS, length_kWord, length_kLast, length_sub2, over] <;> omega)) (by first | omega | (simp [length_kApp, length_kS, length_kWord, length_kLast, length_sub2, over] <;> omega))) (by decide) ?_
        refine st_v (rv_assign rfl) (by decide) ?_
        refine st_nil ?_
        refine st_then ?_
        exact st_again (m + 1, _) (by omega) (by omega) (SubE.cons rfl (SubE.cons rfl (SubE.nil _))) (by intro w hM; have hM := hM.sublist (List.sublist_cons_self _ _); rw [take_next] at hM; exact hM)
      · -- t103 False
        try simp only [decide_eq_true_eq, decide_eq_false_iff_not, Bool.and_eq_true, Bool.or_eq_true, Bool.and_eq_false_iff, Bool.or_eq_false_iff, Bool.not_eq_true, Bool.not_eq_eq_eq_not, Bool.not_true, Bool.not_false, Int.not_lt, Int.not_le, ne_eq, Decidable.not_not] at hc103
        obtain rfl : m = nk + 7 := by omega
        refine st_exit ?_
        refine st_then_exit ?_
        refine st_then_exit ?_
        refine st_in_exit ?_
        refine st_then ?_
        refine st_seq ?_
        refine st_region ?_
        refine st_v (rv_move rfl) (by decide) ?_
        refine st_v (rv_assign rfl) (by decide) ?_
        refine st_nil ?_
        refine st_then ?_
        refine st_ret ?_
        exact st_done rfl rfl (fun w hM => .inl ⟨hkey, _, rfl, by have h := (hM.toRd (i := 0) rfl).sublist (List.cons_sublist_cons.2 (List.nil_sublist _)); rw [List.take_of_length_le (by rw [length_kS]; omega)] at h; exact h⟩)
end Go.Proofs.YtpihffpdkfkkhaaDoor
