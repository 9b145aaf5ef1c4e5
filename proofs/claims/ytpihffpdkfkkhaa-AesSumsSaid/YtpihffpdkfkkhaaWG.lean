/- Walks: what functions of the given program do, operation by operation. Written by wip/gen. -/
import Derived.Test.YtpihffpdkfkkhaaWS
namespace Go.Proofs.Ytpihffpdkfkkhaa
set_option linter.all false
open Go
set_option maxRecDepth 100000 in
set_option maxHeartbeats 1600000 in
theorem aesSums_walk (a b c d : List (BitVec 8)) (H1 : a.length = 16 → ∀ m, (rText c d).length = 16 * m → gOut a c d = rG a (rText c d) m) (H2 : a.length = 16 → b.length = 16 → tOut a b = rTimes a b) (w : World) : Calls Try.prog 4 #[vS a, vS b, vS c, vS d] w (fun e w' => e = .returned (.bool true) ∧ Mem (All w) w w' []) := by
  refine calls_of_st (n := 127) (args := [vS a, vS b, vS c, vS d]) Try.func4 rfl Try.ntmps4 (Nat.le_of_ble_eq_true rfl) (Mem.all w) ?_
  refine st_seq ?_
  refine st_region ?_
  refine st_v (rv_assign rfl) (by decide) ?_
  refine st_nil ?_
  refine st_then ?_
  refine st_seq ?_
  refine st_seq ?_
  refine st_region ?_
  refine st_v (rv_move rfl) (by decide) ?_
  refine st_v (rv_lenB Try.underlying9 rfl) (by decide) ?_
  refine st_v (rv_gtrZ rfl rfl) (by decide) ?_
  refine st_v (rv_move rfl) (by decide) ?_
  refine' st_or 4 (L := _) (s := 22) (d := 26) [0, 1, 2, 3, 8] rfl (fun hg4 => ?_) (fun _ => ?_) ?_; rotate_left
  · -- true
    refine st_gskip rfl rfl rfl (by decide) ?_
    refine st_gskip rfl rfl rfl (by decide) ?_
    refine st_gskip rfl rfl rfl (by decide) ?_
    first | refine st_v (rv_pick_true rfl rfl) (by decide) ?_ | refine st_v (rv_pick_false rfl rfl) (by decide) ?_ | refine st_v (rv_pick rfl rfl rfl) (by decide) ?_
    refine st_nil ?_
    exact st_meet_b (SubE.cons rfl (SubE.cons rfl (SubE.cons rfl (SubE.cons rfl (SubE.cons rfl (SubE.cons rfl (SubE.nil _)))))))
  · -- false
    refine st_gon rfl rfl ?_
    refine st_v (rv_move rfl) (by decide) ?_
    refine st_gon rfl rfl ?_
    refine st_v (rv_lenB Try.underlying9 rfl) (by decide) ?_
    refine st_gon rfl rfl ?_
    refine st_v (rv_gtrZ rfl rfl) (by decide) ?_
    first | refine st_v (rv_pick_true rfl rfl) (by decide) ?_ | refine st_v (rv_pick_false rfl rfl) (by decide) ?_ | refine st_v (rv_pick rfl rfl rfl) (by decide) ?_
    refine st_nil ?_
    exact st_meet_b (SubE.cons rfl (SubE.cons rfl (SubE.cons rfl (SubE.cons rfl (SubE.cons rfl (SubE.cons rfl (SubE.nil _)))))))
  refine st_v (rv_move rfl) (by decide) ?_
  refine' st_or 4 (L := _) (s := 27) (d := 31) [0, 1, 2, 3, 8] rfl (fun hg9 => ?_) (fun _ => ?_) ?_; rotate_left
  · -- true
    refine st_gskip rfl rfl rfl (by decide) ?_
    refine st_gskip rfl rfl rfl (by decide) ?_
    refine st_gskip rfl rfl rfl (by decide) ?_
    first | refine st_v (rv_pick_true rfl rfl) (by decide) ?_ | refine st_v (rv_pick_false rfl rfl) (by decide) ?_ | refine st_v (rv_pick rfl rfl rfl) (by decide) ?_
    refine st_nil ?_
    exact st_meet_b (SubE.cons rfl (SubE.cons rfl (SubE.cons rfl (SubE.cons rfl (SubE.cons rfl (SubE.cons rfl (SubE.nil _)))))))
  · -- false
    refine st_gon rfl rfl ?_
    refine st_v (rv_move rfl) (by decide) ?_
    refine st_gon rfl rfl ?_
    refine st_v (rv_lenB Try.underlying9 rfl) (by decide) ?_
    refine st_gon rfl rfl ?_
    refine st_v (rv_gtrZ rfl rfl) (by decide) ?_
    first | refine st_v (rv_pick_true rfl rfl) (by decide) ?_ | refine st_v (rv_pick_false rfl rfl) (by decide) ?_ | refine st_v (rv_pick rfl rfl rfl) (by decide) ?_
    refine st_nil ?_
    exact st_meet_b (SubE.cons rfl (SubE.cons rfl (SubE.cons rfl (SubE.cons rfl (SubE.cons rfl (SubE.cons rfl (SubE.nil _)))))))
  refine st_v (rv_move rfl) (by decide) ?_
  refine' st_or 4 (L := _) (s := 32) (d := 36) [0, 1, 2, 3, 8] rfl (fun hg14 => ?_) (fun _ => ?_) ?_; rotate_left
  · -- true
    refine st_gskip rfl rfl rfl (by decide) ?_
    refine st_gskip rfl rfl rfl (by decide) ?_
    refine st_gskip rfl rfl rfl (by decide) ?_
    first | refine st_v (rv_pick_true rfl rfl) (by decide) ?_ | refine st_v (rv_pick_false rfl rfl) (by decide) ?_ | refine st_v (rv_pick rfl rfl rfl) (by decide) ?_
    refine st_nil ?_
    exact st_meet_b (SubE.cons rfl (SubE.cons rfl (SubE.cons rfl (SubE.cons rfl (SubE.cons rfl (SubE.cons rfl (SubE.nil _)))))))
  · -- false
    refine st_gon rfl rfl ?_
    refine st_v (rv_move rfl) (by decide) ?_
    refine st_gon rfl rfl ?_
    refine st_v (rv_lenB Try.underlying9 rfl) (by decide) ?_
    refine st_gon rfl rfl ?_
    refine st_v (rv_gtrZ rfl rfl) (by decide) ?_
    first | refine st_v (rv_pick_true rfl rfl) (by decide) ?_ | refine st_v (rv_pick_false rfl rfl) (by decide) ?_ | refine st_v (rv_pick rfl rfl rfl) (by decide) ?_
    refine st_nil ?_
    exact st_meet_b (SubE.cons rfl (SubE.cons rfl (SubE.cons rfl (SubE.cons rfl (SubE.cons rfl (SubE.cons rfl (SubE.nil _)))))))
  refine st_nil ?_
  refine st_then ?_
  refine st_cond rfl (fun hc36 => ?_) (fun hc36 => ?_)
  · -- t36 True
    try simp only [decide_eq_true_eq, decide_eq_false_iff_not, Bool.and_eq_true, Bool.or_eq_true, Bool.and_eq_false_iff, Bool.or_eq_false_iff, Bool.not_eq_true, Bool.not_eq_eq_eq_not, Bool.not_true, Bool.not_false, Int.not_lt, Int.not_le, ne_eq, Decidable.not_not] at hc36
    refine st_seq ?_
    refine st_region ?_
    refine st_v (rv_assign rfl) (by decide) ?_
    refine st_nil ?_
    refine st_then ?_
    refine st_ret ?_
    refine st_then_ret ?_
    exact st_done rfl rfl (fun w hM => ⟨rfl, hM.sublist (List.nil_sublist _)⟩)
  · -- t36 False
    try simp only [decide_eq_true_eq, decide_eq_false_iff_not, Bool.and_eq_true, Bool.or_eq_true, Bool.and_eq_false_iff, Bool.or_eq_false_iff, Bool.not_eq_true, Bool.not_eq_eq_eq_not, Bool.not_true, Bool.not_false, Int.not_lt, Int.not_le, ne_eq, Decidable.not_not] at hc36
    obtain ⟨⟨⟨ha, hb⟩, hc⟩, hd⟩ := hc36
    refine st_skip ?_
    refine st_then ?_
    refine st_seq ?_
    refine st_region ?_
    refine st_v (rv_move rfl) (by decide) ?_
    refine st_bytes Try.underlying9 Try.underlying22 Try.underlying5 rfl (by decide) (fun v1 => ?_)
    refine st_v (rv_move rfl) (by decide) ?_
    refine st_bytes Try.underlying9 Try.underlying22 Try.underlying5 rfl (by decide) (fun v2 => ?_)
    refine st_call1 (ρ := Value) (fun v => .tuple #[v, vI (tErr a b)]) (fun _ => True) (fun v => [rdA v (tOut a b).length 1 ((tOut a b).map U8)]) cal7 rfl (fun w hM => aesTimes_calls _ _ a b w ((rd_own (i := 1) rfl) w hM) ((rd_own (i := 0) rfl) w hM)) (by decide) (fun v3 _ => ?_)
    refine st_v (rv_move rfl) (by decide) ?_
    refine st_v (rv_extract rfl rfl) (by decide) ?_
    refine st_v (rv_extract rfl rfl) (by decide) ?_
    refine st_v (rv_assign rfl) (by decide) ?_
    refine st_v (rv_assign rfl) (by decide) ?_
    refine st_nil ?_
    refine st_then ?_
    refine st_seq ?_
    refine st_region ?_
    refine st_v (rv_move rfl) (by decide) ?_
    refine st_callV cal9 rfl (fun w hM => lent_calls c (by omega) w) (by decide) (fun v4 => ?_)
    refine st_v (rv_assign rfl) (by decide) ?_
    refine st_nil ?_
    refine st_then ?_
    refine st_seq ?_
    refine st_region ?_
    refine st_v (rv_move rfl) (by decide) ?_
    refine st_callV cal9 rfl (fun w hM => lent_calls d (by omega) w) (by decide) (fun v5 => ?_)
    refine st_v (rv_assign rfl) (by decide) ?_
    refine st_nil ?_
    refine st_then ?_
    refine st_seq ?_
    refine st_drawStart mixed ?_
    refine st_drawSeg1 (E0 := [(0, _), (1, _), (2, _), (3, _), (8, _), (9, _), (10, _), (11, _), (12, _)]) [kpeq _, (fun _ v => own v 5 1 a.length (a.map U8)), kpeq _, kpeq _, kpeq _, kpeq _, kpeq _, kpeq _, kpeq _, kpeq _] 0 10 [0, 1, 0, 0, 8, 28, 0, 0, 128, 448, 1023, 2047, 4095, 4095, 8191, 32767] [0, 1, 2, 3, 8, 9, 10, 11, 12] (by kernel_rfl) (by decide) (by kernel_rfl) (SubE.cons rfl (SubE.cons rfl (SubE.cons rfl (SubE.cons rfl (SubE.cons rfl (SubE.cons rfl (SubE.cons rfl (SubE.cons rfl (SubE.cons rfl (SubE.nil _)))))))))) rfl rfl (hall_cons (hop_val [] [] rfl rfl rfl (by decide) rfl (jnil) (xnil) (fun _ _ _ _ => does_v (rv_move rfl))) (hall_cons (hop_val [(0, 50, _)] [] rfl rfl rfl (by decide) rfl (jcons rfl rfl rfl rfl rfl (jnil)) (xnil) (fun _ _ _ _ => does_bytes Try.underlying9 Try.underlying22 Try.underlying5 rfl)) (hall_cons (hop_val [] [] rfl rfl rfl (by decide) rfl (jnil) (xnil) (fun _ _ _ _ => does_v (rv_move rfl))) (hall_cons (hop_val [] [] rfl rfl rfl (by decide) rfl (jnil) (xnil) (fun _ _ _ _ => does_v (rv_move rfl))) (hall_cons (hop_val [(3, 53, _)] [] rfl rfl rfl (by decide) rfl (jcons rfl rfl rfl rfl rfl (jnil)) (xnil) (fun _ _ _ _ => does_v (rv_lenB Try.underlying9 rfl))) (hall_cons (hop_val [(2, 52, _), (4, 54, _)] [] rfl rfl rfl (by decide) rfl (jcons rfl rfl rfl rfl rfl (jcons rfl rfl rfl rfl rfl (jnil))) (xnil) (fun _ _ _ _ => does_v (rv_sliceR (rd_rd (i := 1) rfl) Try.underlying22 sz5 rfl evB_none (evB_some rfl rfl) (by first | omega | (simp [length_lentL] <;> omega)) (by first | omega | (simp [length_lentL] <;> omega))))) (hall_cons (hop_val [] [] rfl rfl rfl (by decide) rfl (jnil) (xnil) (fun _ _ _ _ => does_v (rv_move rfl))) (hall_cons (hop_val [] [] rfl rfl rfl (by decide) rfl (jnil) (xnil) (fun _ _ _ _ => does_v (rv_move rfl))) (hall_cons (hop_val [(7, 57, _)] [] rfl rfl rfl (by decide) rfl (jcons rfl rfl rfl rfl rfl (jnil)) (xnil) (fun _ _ _ _ => does_v (rv_lenB Try.underlying9 rfl))) (hall_cons (hop_val [(6, 56, _), (8, 58, _)] [] rfl rfl rfl (by decide) rfl (jcons rfl rfl rfl rfl rfl (jcons rfl rfl rfl rfl rfl (jnil))) (xnil) (fun _ _ _ _ => does_v (rv_sliceR (rd_rd (i := 0) rfl) Try.underlying22 sz5 rfl evB_none (evB_some rfl rfl) (by first | omega | (simp [length_lentL] <;> omega)) (by first | omega | (simp [length_lentL] <;> omega))))) (hall_nil))))))))))) (draw_end [(5, 55, _), (9, 59, _)] [(1, 51, (fun _ v => own v 5 1 a.length (a.map U8)))] rfl (jcons rfl rfl rfl rfl rfl (jcons rfl rfl rfl rfl rfl (jnil))) (xcons rfl rfl rfl rfl rfl rfl (xnil)) (fun vals => ?_))
    dsimp only [xenv, xmem]
    refine st_drawOp [0, 1, 0, 0, 8, 28, 0, 0, 128, 448, 1023, 2047, 4095, 4095, 8191, 32767] (by kernel_rfl) rfl ?_
    refine st_call1 (ρ := Value) (fun v => .tuple #[v, vI (gErr a)]) (fun _ => True) (fun v => [rdA v (gOut a c d).length 1 ((gOut a c d).map U8)]) cal10 rfl (fun w hM => aesGHash_calls _ _ _ a c d w ((rd_own (i := 0) rfl) w hM) (lentRd (((rd_rd (i := 2) rfl) w hM).part8 (by first | omega | (simp [length_lentL] <;> omega)) (by first | omega | (simp [length_lentL] <;> omega)))) (lentRd (((rd_rd (i := 1) rfl) w hM).part8 (by first | omega | (simp [length_lentL] <;> omega)) (by first | omega | (simp [length_lentL] <;> omega)))) (by omega) (by omega)) (by decide) (fun v7 _ => ?_)
    refine st_nil ?_
    refine st_then ?_
    refine st_drawOp [0, 1, 0, 0, 8, 28, 0, 0, 128, 448, 1023, 2047, 4095, 4095, 8191, 32767] (by kernel_rfl) rfl ?_
    refine st_v (rv_move rfl) (by decide) ?_
    refine st_nil ?_
    refine st_then ?_
    refine st_drawSeg1 (E0 := [(0, _), (1, _), (2, _), (3, _), (8, _), (9, _), (10, _), (11, _), (12, _), (49, _)]) [kany, kany, kany, kany, kany, kany, kany, kany, kany, kany, kany, kany, kpeq _, kpeq _, kpeq _] 12 15 [0, 1, 0, 0, 8, 28, 0, 0, 128, 448, 1023, 2047, 4095, 4095, 8191, 32767] [0, 1, 2, 3, 8, 9, 10, 11, 12, 49] (by kernel_rfl) (by decide) (by kernel_rfl) (SubE.cons rfl (SubE.cons rfl (SubE.cons rfl (SubE.cons rfl (SubE.cons rfl (SubE.cons rfl (SubE.cons rfl (SubE.cons rfl (SubE.cons rfl (SubE.cons rfl (SubE.nil _))))))))))) rfl rfl (hall_skip rfl (hall_skip rfl (hall_skip rfl (hall_skip rfl (hall_skip rfl (hall_skip rfl (hall_skip rfl (hall_skip rfl (hall_skip rfl (hall_skip rfl (hall_skip rfl (hall_skip rfl (hall_cons (hop_val [] [] rfl rfl rfl (by decide) rfl (jnil) (xnil) (fun _ _ _ _ => does_v (rv_extract rfl rfl))) (hall_cons (hop_val [] [] rfl rfl rfl (by decide) rfl (jnil) (xnil) (fun _ _ _ _ => does_v (rv_extract rfl rfl))) (hall_cons (hop_val [(12, 61, _)] [] rfl rfl rfl (by decide) rfl (jcons rfl rfl rfl rfl rfl (jnil)) (xnil) (fun _ _ _ _ => does_v (rv_assign rfl))) (hall_nil)))))))))))))))) (draw_end1 [(13, 62, _), (14, 13, _)] (jcons rfl rfl rfl rfl rfl (jcons rfl rfl rfl rfl rfl (jnil))) ?_)
    refine st_drawTail (N := 15) [0, 1, 0, 0, 8, 28, 0, 0, 128, 448, 1023, 2047, 4095, 4095, 8191, 32767] (by kernel_rfl) (by kernel_rfl) ?_
    refine st_v (rv_assign rfl) (by decide) ?_
    refine st_nil ?_
    refine st_then ?_
    refine st_seq ?_
    refine st_region ?_
    refine st_v (rv_move rfl) (by decide) ?_
    refine st_v (rv_move rfl) (by decide) ?_
    refine st_call0 cal11 rfl (fun w hM => still_calls _ c (by omega) w ((rd_rd (i := 3) rfl) w hM)) (by decide) ?_
    refine st_v (rv_assign rfl) (by decide) ?_
    refine st_nil ?_
    refine st_then ?_
    refine st_seq ?_
    refine st_region ?_
    refine st_v (rv_move rfl) (by decide) ?_
    refine st_v (rv_move rfl) (by decide) ?_
    refine st_call0 cal11 rfl (fun w hM => still_calls _ d (by omega) w ((rd_rd (i := 2) rfl) w hM)) (by decide) ?_
    refine st_v (rv_assign rfl) (by decide) ?_
    refine st_nil ?_
    refine st_then ?_
    refine st_seq ?_
    refine st_seq ?_
    refine st_region ?_
    refine st_v (rv_move rfl) (by decide) ?_
    refine st_v (rv_not rfl) (by decide) ?_
    refine st_v (rv_move rfl) (by decide) ?_
    refine' st_or 3 (L := _) (s := 71) (d := 74) [0, 1, 2, 3, 8, 9, 10, 13, 14] rfl (fun hg3 => ?_) (fun _ => ?_) ?_; rotate_left
    · -- true
      refine st_gskip rfl rfl rfl (by decide) ?_
      refine st_gskip rfl rfl rfl (by decide) ?_
      first | refine st_v (rv_pick_true rfl rfl) (by decide) ?_ | refine st_v (rv_pick_false rfl rfl) (by decide) ?_ | refine st_v (rv_pick rfl rfl rfl) (by decide) ?_
      refine st_nil ?_
      exact st_meet_b (SubE.cons rfl (SubE.cons rfl (SubE.cons rfl (SubE.cons rfl (SubE.cons rfl (SubE.cons rfl (SubE.cons rfl (SubE.cons rfl (SubE.cons rfl (SubE.cons rfl (SubE.nil _)))))))))))
    · -- false
      refine st_gon rfl rfl ?_
      refine st_v (rv_move rfl) (by decide) ?_
      refine st_gon rfl rfl ?_
      refine st_v (rv_not rfl) (by decide) ?_
      first | refine st_v (rv_pick_true rfl rfl) (by decide) ?_ | refine st_v (rv_pick_false rfl rfl) (by decide) ?_ | refine st_v (rv_pick rfl rfl rfl) (by decide) ?_
      refine st_nil ?_
      exact st_meet_b (SubE.cons rfl (SubE.cons rfl (SubE.cons rfl (SubE.cons rfl (SubE.cons rfl (SubE.cons rfl (SubE.cons rfl (SubE.cons rfl (SubE.cons rfl (SubE.cons rfl (SubE.nil _)))))))))))
    refine st_nil ?_
    refine st_then ?_
    refine st_false rfl ?_
    refine st_skip ?_
    refine st_then ?_
    refine st_seq ?_
    refine st_seq ?_
    refine st_region ?_
    refine st_v (rv_move rfl) (by decide) ?_
    refine st_v (rv_lenB Try.underlying9 rfl) (by decide) ?_
    refine st_v (rv_neqZ rfl rfl) (by decide) ?_
    refine st_nil ?_
    refine st_then ?_
    refine st_cond rfl (fun hc77 => ?_) (fun hc77 => ?_)
    · -- t77 True
      try simp only [decide_eq_true_eq, decide_eq_false_iff_not, Bool.and_eq_true, Bool.or_eq_true, Bool.and_eq_false_iff, Bool.or_eq_false_iff, Bool.not_eq_true, Bool.not_eq_eq_eq_not, Bool.not_true, Bool.not_false, Int.not_lt, Int.not_le, ne_eq, Decidable.not_not] at hc77
      have hk : ¬ a.length = 16 := by omega
      refine st_seq ?_
      refine st_region ?_
      refine st_v (rv_move rfl) (by decide) ?_
      refine st_v (rv_lenR (rd_rd (i := 4) rfl) Try.underlying22 rfl) (by decide) ?_
      refine st_v (rv_eqlZ rfl rfl) (by decide) ?_
      refine st_v (rv_move rfl) (by decide) ?_
      refine' st_and 4 (L := _) (s := 81) (d := 85) [0, 1, 2, 3, 8, 9, 10, 13, 14] rfl (fun hg4 => ?_) (fun _ => ?_) ?_; rotate_left
      · -- true
        try simp only [decide_eq_true_eq, decide_eq_false_iff_not, Bool.and_eq_true, Bool.not_eq_true] at hg4
        refine st_gon rfl rfl ?_
        refine st_v (rv_move rfl) (by decide) ?_
        refine st_gon rfl rfl ?_
        refine st_v (rv_lenR (rd_rd (i := 0) rfl) Try.underlying22 rfl) (by decide) ?_
        refine st_gon rfl rfl ?_
        refine st_v (rv_eqlZ rfl rfl) (by decide) ?_
        first | refine st_v (rv_pick_true rfl rfl) (by decide) ?_ | refine st_v (rv_pick_false rfl rfl) (by decide) ?_ | refine st_v (rv_pick rfl rfl rfl) (by decide) ?_
        refine st_nil ?_
        exact st_meet_b (SubE.cons rfl (SubE.cons rfl (SubE.cons rfl (SubE.cons rfl (SubE.cons rfl (SubE.cons rfl (SubE.cons rfl (SubE.cons rfl (SubE.cons rfl (SubE.cons rfl (SubE.nil _)))))))))))
      · -- false
        refine st_gskip rfl rfl rfl (by decide) ?_
        refine st_gskip rfl rfl rfl (by decide) ?_
        refine st_gskip rfl rfl rfl (by decide) ?_
        first | refine st_v (rv_pick_true rfl rfl) (by decide) ?_ | refine st_v (rv_pick_false rfl rfl) (by decide) ?_ | refine st_v (rv_pick rfl rfl rfl) (by decide) ?_
        refine st_nil ?_
        exact st_meet_b (SubE.cons rfl (SubE.cons rfl (SubE.cons rfl (SubE.cons rfl (SubE.cons rfl (SubE.cons rfl (SubE.cons rfl (SubE.cons rfl (SubE.cons rfl (SubE.cons rfl (SubE.nil _)))))))))))
      refine st_v (rv_move rfl) (by decide) ?_
      refine' st_and 3 (L := _) (s := 86) (d := 89) [0, 1, 2, 3, 8, 9, 10, 13, 14] rfl (fun hg9 => ?_) (fun _ => ?_) ?_; rotate_left
      · -- true
        try simp only [decide_eq_true_eq, decide_eq_false_iff_not, Bool.and_eq_true, Bool.not_eq_true] at hg9
        refine st_gon rfl rfl ?_
        refine st_v (rv_move rfl) (by decide) ?_
        refine st_gon rfl rfl ?_
        refine st_v (rv_eqlZ rfl rfl) (by decide) ?_
        first | refine st_v (rv_pick_true rfl rfl) (by decide) ?_ | refine st_v (rv_pick_false rfl rfl) (by decide) ?_ | refine st_v (rv_pick rfl rfl rfl) (by decide) ?_
        refine st_nil ?_
        exact st_meet_b (SubE.cons rfl (SubE.cons rfl (SubE.cons rfl (SubE.cons rfl (SubE.cons rfl (SubE.cons rfl (SubE.cons rfl (SubE.cons rfl (SubE.cons rfl (SubE.cons rfl (SubE.nil _)))))))))))
      · -- false
        refine st_gskip rfl rfl rfl (by decide) ?_
        refine st_gskip rfl rfl rfl (by decide) ?_
        first | refine st_v (rv_pick_true rfl rfl) (by decide) ?_ | refine st_v (rv_pick_false rfl rfl) (by decide) ?_ | refine st_v (rv_pick rfl rfl rfl) (by decide) ?_
        refine st_nil ?_
        exact st_meet_b (SubE.cons rfl (SubE.cons rfl (SubE.cons rfl (SubE.cons rfl (SubE.cons rfl (SubE.cons rfl (SubE.cons rfl (SubE.cons rfl (SubE.cons rfl (SubE.cons rfl (SubE.nil _)))))))))))
      refine st_v (rv_move rfl) (by decide) ?_
      refine' st_and 3 (L := _) (s := 90) (d := 93) [0, 1, 2, 3, 8, 9, 10, 13, 14] rfl (fun hg13 => ?_) (fun _ => ?_) ?_; rotate_left
      · -- true
        try simp only [decide_eq_true_eq, decide_eq_false_iff_not, Bool.and_eq_true, Bool.not_eq_true] at hg13
        refine st_gon rfl rfl ?_
        refine st_v (rv_move rfl) (by decide) ?_
        refine st_gon rfl rfl ?_
        refine st_v (rv_eqlZ rfl rfl) (by decide) ?_
        first | refine st_v (rv_pick_true rfl rfl) (by decide) ?_ | refine st_v (rv_pick_false rfl rfl) (by decide) ?_ | refine st_v (rv_pick rfl rfl rfl) (by decide) ?_
        refine st_nil ?_
        exact st_meet_b (SubE.cons rfl (SubE.cons rfl (SubE.cons rfl (SubE.cons rfl (SubE.cons rfl (SubE.cons rfl (SubE.cons rfl (SubE.cons rfl (SubE.cons rfl (SubE.cons rfl (SubE.nil _)))))))))))
      · -- false
        refine st_gskip rfl rfl rfl (by decide) ?_
        refine st_gskip rfl rfl rfl (by decide) ?_
        first | refine st_v (rv_pick_true rfl rfl) (by decide) ?_ | refine st_v (rv_pick_false rfl rfl) (by decide) ?_ | refine st_v (rv_pick rfl rfl rfl) (by decide) ?_
        refine st_nil ?_
        exact st_meet_b (SubE.cons rfl (SubE.cons rfl (SubE.cons rfl (SubE.cons rfl (SubE.cons rfl (SubE.cons rfl (SubE.cons rfl (SubE.cons rfl (SubE.cons rfl (SubE.cons rfl (SubE.nil _)))))))))))
      refine st_v (rv_assign rfl) (by decide) ?_
      refine st_nil ?_
      refine st_then ?_
      refine st_ret ?_
      refine st_then_ret ?_
      exact st_done rfl rfl (fun w hM => ⟨by simp [tOut, tErr, tOk, gOut, gErr, hk], hM.sublist (List.nil_sublist _)⟩)
    · -- t77 False
      try simp only [decide_eq_true_eq, decide_eq_false_iff_not, Bool.and_eq_true, Bool.or_eq_true, Bool.and_eq_false_iff, Bool.or_eq_false_iff, Bool.not_eq_true, Bool.not_eq_eq_eq_not, Bool.not_true, Bool.not_false, Int.not_lt, Int.not_le, ne_eq, Decidable.not_not] at hc77
      have hk : a.length = 16 := by omega
      refine st_skip ?_
      refine st_then ?_
      refine st_seq ?_
      refine st_region ?_
      refine st_v (rv_move rfl) (by decide) ?_
      refine st_v (rv_move rfl) (by decide) ?_
      refine st_v (rv_move rfl) (by decide) ?_
      refine st_call1 (ρ := Nat) (fun m => vS (rG a (rText c d) m)) (fun m => (rText c d).length = 16 * m) (fun _ => []) cal12 rfl (fun w hM => (rghash_calls a c d (by omega) (by omega) (by omega) w).mono fun e w' ⟨m, h1, h2, h3⟩ => ⟨m, h2, h1, h3⟩) (by decide) (fun m hm => ?_)
      refine st_v (rv_assign rfl) (by decide) ?_
      refine st_nil ?_
      refine st_then ?_
      refine st_seq ?_
      refine st_seq ?_
      refine st_region ?_
      refine st_v (rv_move rfl) (by decide) ?_
      refine st_v (rv_string (rd_rd (i := 0) rfl) Try.underlying22 Try.underlying9 Try.underlying5 rfl) (by decide) ?_
      refine st_v (rv_move rfl) (by decide) ?_
      refine st_v (rv_to (u := .bool false) (rv_neqB rfl rfl) (by rw [H1 hk m hm]; simp)) (by decide) ?_
      refine st_v (rv_move rfl) (by decide) ?_
      refine' st_or 3 (L := _) (s := 102) (d := 105) [0, 1, 8, 9, 10] rfl (fun hg5 => ?_) (fun _ => ?_) ?_; rotate_left
      · -- true
        refine st_gskip rfl rfl rfl (by decide) ?_
        refine st_gskip rfl rfl rfl (by decide) ?_
        first | refine st_v (rv_pick_true rfl rfl) (by decide) ?_ | refine st_v (rv_pick_false rfl rfl) (by decide) ?_ | refine st_v (rv_pick rfl rfl rfl) (by decide) ?_
        refine st_nil ?_
        exact st_meet_b (SubE.cons rfl (SubE.cons rfl (SubE.cons rfl (SubE.cons rfl (SubE.cons rfl (SubE.cons rfl (SubE.nil _)))))))
      · -- false
        refine st_gon rfl rfl ?_
        refine st_v (rv_move rfl) (by decide) ?_
        refine st_gon rfl rfl ?_
        refine st_v (rv_to (u := .bool false) (rv_neqZ rfl rfl) (by simp [gErr, hk])) (by decide) ?_
        first | refine st_v (rv_pick_true rfl rfl) (by decide) ?_ | refine st_v (rv_pick_false rfl rfl) (by decide) ?_ | refine st_v (rv_pick rfl rfl rfl) (by decide) ?_
        refine st_nil ?_
        exact st_meet_b (SubE.cons rfl (SubE.cons rfl (SubE.cons rfl (SubE.cons rfl (SubE.cons rfl (SubE.cons rfl (SubE.nil _)))))))
      refine st_nil ?_
      refine st_then ?_
      refine st_false rfl ?_
      refine st_skip ?_
      refine st_then ?_
      refine st_seq ?_
      refine st_seq ?_
      refine st_region ?_
      refine st_v (rv_move rfl) (by decide) ?_
      refine st_v (rv_lenB Try.underlying9 rfl) (by decide) ?_
      refine st_v (rv_neqZ rfl rfl) (by decide) ?_
      refine st_nil ?_
      refine st_then ?_
      refine st_cond rfl (fun hc108 => ?_) (fun hc108 => ?_)
      · -- t108 True
        try simp only [decide_eq_true_eq, decide_eq_false_iff_not, Bool.and_eq_true, Bool.or_eq_true, Bool.and_eq_false_iff, Bool.or_eq_false_iff, Bool.not_eq_true, Bool.not_eq_eq_eq_not, Bool.not_true, Bool.not_false, Int.not_lt, Int.not_le, ne_eq, Decidable.not_not] at hc108
        have hj : ¬ b.length = 16 := by omega
        refine st_seq ?_
        refine st_region ?_
        refine st_v (rv_move rfl) (by decide) ?_
        refine st_v (rv_lenR (rd_rd (i := 4) rfl) Try.underlying22 rfl) (by decide) ?_
        refine st_v (rv_eqlZ rfl rfl) (by decide) ?_
        refine st_v (rv_move rfl) (by decide) ?_
        refine' st_and 3 (L := _) (s := 112) (d := 115) [0, 1, 8, 9, 10] rfl (fun hg4 => ?_) (fun _ => ?_) ?_; rotate_left
        · -- true
          try simp only [decide_eq_true_eq, decide_eq_false_iff_not, Bool.and_eq_true, Bool.not_eq_true] at hg4
          refine st_gon rfl rfl ?_
          refine st_v (rv_move rfl) (by decide) ?_
          refine st_gon rfl rfl ?_
          refine st_v (rv_eqlZ rfl rfl) (by decide) ?_
          first | refine st_v (rv_pick_true rfl rfl) (by decide) ?_ | refine st_v (rv_pick_false rfl rfl) (by decide) ?_ | refine st_v (rv_pick rfl rfl rfl) (by decide) ?_
          refine st_nil ?_
          exact st_meet_b (SubE.cons rfl (SubE.cons rfl (SubE.cons rfl (SubE.cons rfl (SubE.cons rfl (SubE.cons rfl (SubE.nil _)))))))
        · -- false
          refine st_gskip rfl rfl rfl (by decide) ?_
          refine st_gskip rfl rfl rfl (by decide) ?_
          first | refine st_v (rv_pick_true rfl rfl) (by decide) ?_ | refine st_v (rv_pick_false rfl rfl) (by decide) ?_ | refine st_v (rv_pick rfl rfl rfl) (by decide) ?_
          refine st_nil ?_
          exact st_meet_b (SubE.cons rfl (SubE.cons rfl (SubE.cons rfl (SubE.cons rfl (SubE.cons rfl (SubE.cons rfl (SubE.nil _)))))))
        refine st_v (rv_assign rfl) (by decide) ?_
        refine st_nil ?_
        refine st_then ?_
        refine st_ret ?_
        refine st_then_ret ?_
        exact st_done rfl rfl (fun w hM => ⟨by simp [tOut, tErr, tOk, hj], hM.sublist (List.nil_sublist _)⟩)
      · -- t108 False
        try simp only [decide_eq_true_eq, decide_eq_false_iff_not, Bool.and_eq_true, Bool.or_eq_true, Bool.and_eq_false_iff, Bool.or_eq_false_iff, Bool.not_eq_true, Bool.not_eq_eq_eq_not, Bool.not_true, Bool.not_false, Int.not_lt, Int.not_le, ne_eq, Decidable.not_not] at hc108
        have hj : b.length = 16 := by omega
        refine st_skip ?_
        refine st_then ?_
        refine st_seq ?_
        refine st_region ?_
        refine st_v (rv_move rfl) (by decide) ?_
        refine st_v (rv_move rfl) (by decide) ?_
        refine st_call0 cal13 rfl (fun w hM => rtimes_calls a b (by omega) (by omega) w) (by decide) ?_
        refine st_v (rv_assign rfl) (by decide) ?_
        refine st_nil ?_
        refine st_then ?_
        refine st_seq ?_
        refine st_region ?_
        refine st_v (rv_move rfl) (by decide) ?_
        refine st_v (rv_string (rd_rd (i := 4) rfl) Try.underlying22 Try.underlying9 Try.underlying5 rfl) (by decide) ?_
        refine st_v (rv_move rfl) (by decide) ?_
        refine st_v (rv_eqlB rfl rfl) (by decide) ?_
        refine st_v (rv_move rfl) (by decide) ?_
        refine' st_and 3 (L := _) (s := 123) (d := 126) [8] rfl (fun hg5 => ?_) (fun _ => ?_) ?_; rotate_left
        · -- true
          try simp only [decide_eq_true_eq, decide_eq_false_iff_not, Bool.and_eq_true, Bool.not_eq_true] at hg5
          refine st_gon rfl rfl ?_
          refine st_v (rv_move rfl) (by decide) ?_
          refine st_gon rfl rfl ?_
          refine st_v (rv_eqlZ rfl rfl) (by decide) ?_
          first | refine st_v (rv_pick_true rfl rfl) (by decide) ?_ | refine st_v (rv_pick_false rfl rfl) (by decide) ?_ | refine st_v (rv_pick rfl rfl rfl) (by decide) ?_
          refine st_nil ?_
          exact st_meet_b (SubE.cons rfl (SubE.cons rfl (SubE.nil _)))
        · -- false
          refine st_gskip rfl rfl rfl (by decide) ?_
          refine st_gskip rfl rfl rfl (by decide) ?_
          first | refine st_v (rv_pick_true rfl rfl) (by decide) ?_ | refine st_v (rv_pick_false rfl rfl) (by decide) ?_ | refine st_v (rv_pick rfl rfl rfl) (by decide) ?_
          refine st_nil ?_
          exact st_meet_b (SubE.cons rfl (SubE.cons rfl (SubE.nil _)))
        refine st_v (rv_assign rfl) (by decide) ?_
        refine st_nil ?_
        refine st_then ?_
        refine st_ret ?_
        exact st_done rfl rfl (fun w hM => ⟨by simp [H2 hk hj, tErr, tOk, hk, hj], hM.sublist (List.nil_sublist _)⟩)
end Go.Proofs.Ytpihffpdkfkkhaa
