/- Walks: what functions of the given program do, operation by operation. Written by wip/gen. -/
import Derived.Test.YtpihffpdkfkkhaaWS
namespace Go.Proofs.Ytpihffpdkfkkhaa
set_option linter.all false
open Go
set_option maxRecDepth 100000 in
set_option maxHeartbeats 4000000 in
theorem aesField_walk (a b c : List (BitVec 8)) (f1 : tMul (blockL a) (blockL b) = tMul (blockL b) (blockL a)) (f2 : tMul (tMul (blockL a) (blockL b)) (blockL c) = tMul (blockL a) (tMul (blockL b) (blockL c))) (f3 : tMul (blockL a) (plusL (blockL b) (blockL c) 16) = plusL (tMul (blockL a) (blockL b)) (tMul (blockL a) (blockL c)) 16) (f4 : tMul (blockL a) (blockL [128#8]) = blockL a) (f5 : tMul (blockL a) (blockL []) = blockL []) (f6 : tMul (blockL a) (blockL b) = blockL [] → blockL a = blockL [] ∨ blockL b = blockL []) (w : World) : Calls Try.prog 3 #[vS a, vS b, vS c] w (fun e w' => e = .returned (.bool true) ∧ Mem (All w) w w' []) := by
  refine calls_of_st (n := 155) (args := [vS a, vS b, vS c]) Try.func3 rfl Try.ntmps3 (Nat.le_of_ble_eq_true rfl) (Mem.all w) ?_
  refine st_seq ?_
  refine st_region ?_
  refine st_v (rv_assign rfl) (by decide) ?_
  refine st_nil ?_
  refine st_then ?_
  refine st_seq ?_
  refine st_region ?_
  refine st_v (rv_move rfl) (by decide) ?_
  refine st_callV cal6 rfl (fun w hM => block16_calls (a) w) (by decide) (fun v1 => ?_)
  refine st_v (rv_assign rfl) (by decide) ?_
  refine st_nil ?_
  refine st_then ?_
  refine st_seq ?_
  refine st_region ?_
  refine st_v (rv_move rfl) (by decide) ?_
  refine st_callV cal6 rfl (fun w hM => block16_calls (b) w) (by decide) (fun v2 => ?_)
  refine st_v (rv_assign rfl) (by decide) ?_
  refine st_nil ?_
  refine st_then ?_
  refine st_seq ?_
  refine st_region ?_
  refine st_v (rv_move rfl) (by decide) ?_
  refine st_callV cal6 rfl (fun w hM => block16_calls (c) w) (by decide) (fun v3 => ?_)
  refine st_v (rv_assign rfl) (by decide) ?_
  refine st_nil ?_
  refine st_then ?_
  refine st_seq ?_
  refine st_region ?_
  refine st_callV cal6 rfl (fun w hM => block16_calls ([128#8]) w) (by decide) (fun v4 => ?_)
  refine st_v (rv_assign rfl) (by decide) ?_
  refine st_nil ?_
  refine st_then ?_
  refine st_seq ?_
  refine st_region ?_
  refine st_callV cal6 rfl (fun w hM => block16_calls ([]) w) (by decide) (fun v5 => ?_)
  refine st_v (rv_assign rfl) (by decide) ?_
  refine st_nil ?_
  refine st_then ?_
  refine st_seq ?_
  refine st_region ?_
  refine st_v (rv_move rfl) (by decide) ?_
  refine st_v (rv_move rfl) (by decide) ?_
  refine st_call1 (ρ := Value) (fun v => .tuple #[v, vI 0]) (fun _ => True) (fun v => [rdA v 16 1 ((tMul (blockL a) (blockL b)).map U8)]) cal7 rfl (fun w hM => times16_calls _ _ (blockL a) (blockL b) (by simp [length_blockL, length_tMul, length_plusL]) (by simp [length_blockL, length_tMul, length_plusL]) w ((rd_rd (i := 4) rfl) w hM) ((rd_rd (i := 3) rfl) w hM)) (by decide) (fun v6 _ => ?_)
  refine st_v (rv_move rfl) (by decide) ?_
  refine st_v (rv_extract rfl rfl) (by decide) ?_
  refine st_v (rv_extract rfl rfl) (by decide) ?_
  refine st_v (rv_assign rfl) (by decide) ?_
  refine st_v (rv_assign rfl) (by decide) ?_
  refine st_nil ?_
  refine st_then ?_
  refine st_seq ?_
  refine st_seq ?_
  refine st_region ?_
  refine st_v (rv_move rfl) (by decide) ?_
  refine st_v (rv_neqZ rfl rfl) (by decide) ?_
  refine st_v (rv_move rfl) (by decide) ?_
  refine' st_or 4 (L := _) (s := 46) (d := 50) [6, 7, 8, 9, 10, 11, 12] rfl (fun hg3 => ?_) (fun _ => ?_) ?_; rotate_left
  · -- true
    refine st_gskip rfl rfl rfl (by decide) ?_
    refine st_gskip rfl rfl rfl (by decide) ?_
    refine st_gskip rfl rfl rfl (by decide) ?_
    first | refine st_v (rv_pick_true rfl rfl) (by decide) ?_ | refine st_v (rv_pick_false rfl rfl) (by decide) ?_ | refine st_v (rv_pick rfl rfl rfl) (by decide) ?_
    refine st_nil ?_
    exact st_meet_b (SubE.cons rfl (SubE.cons rfl (SubE.cons rfl (SubE.cons rfl (SubE.cons rfl (SubE.cons rfl (SubE.cons rfl (SubE.cons rfl (SubE.nil _)))))))))
  · -- false
    refine st_gon rfl rfl ?_
    refine st_v (rv_move rfl) (by decide) ?_
    refine st_gon rfl rfl ?_
    refine st_v (rv_lenR (rd_rd (i := 0) rfl) Try.underlying22 rfl) (by decide) ?_
    refine st_gon rfl rfl ?_
    refine st_v (rv_neqZ rfl rfl) (by decide) ?_
    first | refine st_v (rv_pick_true rfl rfl) (by decide) ?_ | refine st_v (rv_pick_false rfl rfl) (by decide) ?_ | refine st_v (rv_pick rfl rfl rfl) (by decide) ?_
    refine st_nil ?_
    exact st_meet_b (SubE.cons rfl (SubE.cons rfl (SubE.cons rfl (SubE.cons rfl (SubE.cons rfl (SubE.cons rfl (SubE.cons rfl (SubE.cons rfl (SubE.nil _)))))))))
  refine st_nil ?_
  refine st_then ?_
  refine st_false rfl ?_
  refine st_skip ?_
  refine st_then ?_
  refine st_seq ?_
  refine st_region ?_
  refine st_v (rv_move rfl) (by decide) ?_
  refine st_v (rv_move rfl) (by decide) ?_
  refine st_call1 (ρ := Value) (fun v => .tuple #[v, vI 0]) (fun _ => True) (fun v => [rdA v 16 1 ((tMul (blockL b) (blockL a)).map U8)]) cal7 rfl (fun w hM => times16_calls _ _ (blockL b) (blockL a) (by simp [length_blockL, length_tMul, length_plusL]) (by simp [length_blockL, length_tMul, length_plusL]) w ((rd_rd (i := 4) rfl) w hM) ((rd_rd (i := 5) rfl) w hM)) (by decide) (fun v7 _ => ?_)
  refine st_v (rv_move rfl) (by decide) ?_
  refine st_v (rv_extract rfl rfl) (by decide) ?_
  refine st_v (rv_extract rfl rfl) (by decide) ?_
  refine st_v (rv_assign rfl) (by decide) ?_
  refine st_v (rv_assign rfl) (by decide) ?_
  refine st_nil ?_
  refine st_then ?_
  refine st_seq ?_
  refine st_region ?_
  refine st_v (rv_move rfl) (by decide) ?_
  refine st_v (rv_move rfl) (by decide) ?_
  refine st_call1 (ρ := Value) (fun v => .tuple #[v, vI 0]) (fun _ => True) (fun v => [rdA v 16 1 ((tMul (tMul (blockL a) (blockL b)) (blockL c)).map U8)]) cal7 rfl (fun w hM => times16_calls _ _ (tMul (blockL a) (blockL b)) (blockL c) (by simp [length_blockL, length_tMul, length_plusL]) (by simp [length_blockL, length_tMul, length_plusL]) w ((rd_rd (i := 1) rfl) w hM) ((rd_rd (i := 4) rfl) w hM)) (by decide) (fun v8 _ => ?_)
  refine st_v (rv_move rfl) (by decide) ?_
  refine st_v (rv_extract rfl rfl) (by decide) ?_
  refine st_v (rv_extract rfl rfl) (by decide) ?_
  refine st_v (rv_assign rfl) (by decide) ?_
  refine st_v (rv_assign rfl) (by decide) ?_
  refine st_nil ?_
  refine st_then ?_
  refine st_seq ?_
  refine st_region ?_
  refine st_v (rv_move rfl) (by decide) ?_
  refine st_v (rv_move rfl) (by decide) ?_
  refine st_call1 (ρ := Value) (fun v => .tuple #[v, vI 0]) (fun _ => True) (fun v => [rdA v 16 1 ((tMul (blockL b) (blockL c)).map U8)]) cal7 rfl (fun w hM => times16_calls _ _ (blockL b) (blockL c) (by simp [length_blockL, length_tMul, length_plusL]) (by simp [length_blockL, length_tMul, length_plusL]) w ((rd_rd (i := 6) rfl) w hM) ((rd_rd (i := 5) rfl) w hM)) (by decide) (fun v9 _ => ?_)
  refine st_v (rv_move rfl) (by decide) ?_
  refine st_v (rv_extract rfl rfl) (by decide) ?_
  refine st_v (rv_extract rfl rfl) (by decide) ?_
  refine st_v (rv_assign rfl) (by decide) ?_
  refine st_v (rv_assign rfl) (by decide) ?_
  refine st_nil ?_
  refine st_then ?_
  refine st_seq ?_
  refine st_region ?_
  refine st_v (rv_move rfl) (by decide) ?_
  refine st_v (rv_move rfl) (by decide) ?_
  refine st_call1 (ρ := Value) (fun v => .tuple #[v, vI 0]) (fun _ => True) (fun v => [rdA v 16 1 ((tMul (blockL a) (tMul (blockL b) (blockL c))).map U8)]) cal7 rfl (fun w hM => times16_calls _ _ (blockL a) (tMul (blockL b) (blockL c)) (by simp [length_blockL, length_tMul, length_plusL]) (by simp [length_blockL, length_tMul, length_plusL]) w ((rd_rd (i := 8) rfl) w hM) ((rd_rd (i := 0) rfl) w hM)) (by decide) (fun v10 _ => ?_)
  refine st_v (rv_move rfl) (by decide) ?_
  refine st_v (rv_extract rfl rfl) (by decide) ?_
  refine st_v (rv_extract rfl rfl) (by decide) ?_
  refine st_v (rv_assign rfl) (by decide) ?_
  refine st_v (rv_assign rfl) (by decide) ?_
  refine st_nil ?_
  refine st_then ?_
  refine st_seq ?_
  refine st_region ?_
  refine st_v (rv_move rfl) (by decide) ?_
  refine st_v (rv_move rfl) (by decide) ?_
  refine st_call1 (ρ := Value) (fun v => .tuple #[v, vI 0]) (fun _ => True) (fun v => [rdA v 16 1 ((tMul (blockL a) (blockL c)).map U8)]) cal7 rfl (fun w hM => times16_calls _ _ (blockL a) (blockL c) (by simp [length_blockL, length_tMul, length_plusL]) (by simp [length_blockL, length_tMul, length_plusL]) w ((rd_rd (i := 9) rfl) w hM) ((rd_rd (i := 7) rfl) w hM)) (by decide) (fun v11 _ => ?_)
  refine st_v (rv_move rfl) (by decide) ?_
  refine st_v (rv_extract rfl rfl) (by decide) ?_
  refine st_v (rv_extract rfl rfl) (by decide) ?_
  refine st_v (rv_assign rfl) (by decide) ?_
  refine st_v (rv_assign rfl) (by decide) ?_
  refine st_nil ?_
  refine st_then ?_
  refine st_seq ?_
  refine st_region ?_
  refine st_v (rv_move rfl) (by decide) ?_
  refine st_v (rv_move rfl) (by decide) ?_
  refine st_v (rv_move rfl) (by decide) ?_
  refine st_callV cal8 rfl (fun w hM => lplus16_calls _ _ (blockL b) (blockL c) (by simp [length_blockL, length_tMul, length_plusL]) (by simp [length_blockL, length_tMul, length_plusL]) w ((rd_rd (i := 9) rfl) w hM) ((rd_rd (i := 8) rfl) w hM)) (by decide) (fun v12 => ?_)
  refine st_call1 (ρ := Value) (fun v => .tuple #[v, vI 0]) (fun _ => True) (fun v => [rdA v 16 1 ((tMul (blockL a) (plusL (blockL b) (blockL c) 16)).map U8)]) cal7 rfl (fun w hM => times16_calls _ _ (blockL a) (plusL (blockL b) (blockL c) 16) (by simp [length_blockL, length_tMul, length_plusL]) (by simp [length_blockL, length_tMul, length_plusL]) w ((rd_rd (i := 11) rfl) w hM) ((rd_rd (i := 0) rfl) w hM)) (by decide) (fun v13 _ => ?_)
  refine st_v (rv_move rfl) (by decide) ?_
  refine st_v (rv_extract rfl rfl) (by decide) ?_
  refine st_v (rv_extract rfl rfl) (by decide) ?_
  refine st_v (rv_assign rfl) (by decide) ?_
  refine st_v (rv_assign rfl) (by decide) ?_
  refine st_nil ?_
  refine st_then ?_
  refine st_seq ?_
  refine st_region ?_
  refine st_v (rv_move rfl) (by decide) ?_
  refine st_v (rv_move rfl) (by decide) ?_
  refine st_call1 (ρ := Value) (fun v => .tuple #[v, vI 0]) (fun _ => True) (fun v => [rdA v 16 1 ((tMul (blockL a) (blockL [128#8])).map U8)]) cal7 rfl (fun w hM => times16_calls _ _ (blockL a) (blockL [128#8]) (by simp [length_blockL, length_tMul, length_plusL]) (by simp [length_blockL, length_tMul, length_plusL]) w ((rd_rd (i := 12) rfl) w hM) ((rd_rd (i := 9) rfl) w hM)) (by decide) (fun v14 _ => ?_)
  refine st_v (rv_move rfl) (by decide) ?_
  refine st_v (rv_extract rfl rfl) (by decide) ?_
  refine st_v (rv_extract rfl rfl) (by decide) ?_
  refine st_v (rv_assign rfl) (by decide) ?_
  refine st_v (rv_assign rfl) (by decide) ?_
  refine st_nil ?_
  refine st_then ?_
  refine st_seq ?_
  refine st_region ?_
  refine st_v (rv_move rfl) (by decide) ?_
  refine st_v (rv_move rfl) (by decide) ?_
  refine st_call1 (ρ := Value) (fun v => .tuple #[v, vI 0]) (fun _ => True) (fun v => [rdA v 16 1 ((tMul (blockL a) (blockL [])).map U8)]) cal7 rfl (fun w hM => times16_calls _ _ (blockL a) (blockL []) (by simp [length_blockL, length_tMul, length_plusL]) (by simp [length_blockL, length_tMul, length_plusL]) w ((rd_rd (i := 13) rfl) w hM) ((rd_rd (i := 9) rfl) w hM)) (by decide) (fun v15 _ => ?_)
  refine st_v (rv_move rfl) (by decide) ?_
  refine st_v (rv_extract rfl rfl) (by decide) ?_
  refine st_v (rv_extract rfl rfl) (by decide) ?_
  refine st_v (rv_assign rfl) (by decide) ?_
  refine st_v (rv_assign rfl) (by decide) ?_
  refine st_nil ?_
  refine st_then ?_
  refine st_seq ?_
  refine st_seq ?_
  refine st_drawStart mixed ?_
  refine st_drawSeg1 (E0 := [(6, _), (7, _), (8, _), (11, _), (12, _), (14, _), (16, _), (20, _), (22, _), (24, _), (26, _), (28, _)]) [kpeq _, kpeq _, kpeq _, kpeq _] 0 4 [0, 1, 0, 4, 15, 31, 63, 127, 63, 319, 1023, 2047, 4095, 8191, 16383, 8191, 8191, 106495, 237567, 524287, 1048575, 2097151, 4194303, 8388607, 4194303, 20971519, 67108863, 134217727, 268435455, 536870911, 1073741823, 536870911, 2684354559, 8589934591, 17179869183] [6, 7, 8, 11, 12, 14, 16, 20, 22, 24, 26, 28] (by kernel_rfl) (by decide) (by kernel_rfl) (SubE.cons rfl (SubE.cons rfl (SubE.cons rfl (SubE.cons rfl (SubE.cons rfl (SubE.cons rfl (SubE.cons rfl (SubE.cons rfl (SubE.cons rfl (SubE.cons rfl (SubE.cons rfl (SubE.cons rfl (SubE.nil _))))))))))))) rfl rfl (hall_cons (hop_val [] [] rfl rfl rfl (by decide) rfl (jnil) (xnil) (fun _ _ _ _ => does_v (rv_move rfl))) (hall_cons (hop_val [(0, 101, _)] [] rfl rfl rfl (by decide) rfl (jcons rfl rfl rfl rfl rfl (jnil)) (xnil) (fun _ _ _ _ => does_v (rv_string (rd_rd (i := 9) rfl) Try.underlying22 Try.underlying9 Try.underlying5 rfl))) (hall_cons (hop_val [] [] rfl rfl rfl (by decide) rfl (jnil) (xnil) (fun _ _ _ _ => does_v (rv_move rfl))) (hall_cons (hop_val [(2, 103, _)] [] rfl rfl rfl (by decide) rfl (jcons rfl rfl rfl rfl rfl (jnil)) (xnil) (fun _ _ _ _ => does_v (rv_string (rd_rd (i := 8) rfl) Try.underlying22 Try.underlying9 Try.underlying5 rfl))) (hall_nil))))) (draw_end1 [(1, 102, _), (3, 104, _)] (jcons rfl rfl rfl rfl rfl (jcons rfl rfl rfl rfl rfl (jnil))) ?_)
  refine st_drawOp [0, 1, 0, 4, 15, 31, 63, 127, 63, 319, 1023, 2047, 4095, 8191, 16383, 8191, 8191, 106495, 237567, 524287, 1048575, 2097151, 4194303, 8388607, 4194303, 20971519, 67108863, 134217727, 268435455, 536870911, 1073741823, 536870911, 2684354559, 8589934591, 17179869183] (by kernel_rfl) rfl ?_
  refine st_v (rv_to (u := .bool false) (rv_neqB rfl rfl) (by rw [f1]; simp)) (by decide) ?_
  refine st_nil ?_
  refine st_then ?_
  refine st_drawOp [0, 1, 0, 4, 15, 31, 63, 127, 63, 319, 1023, 2047, 4095, 8191, 16383, 8191, 8191, 106495, 237567, 524287, 1048575, 2097151, 4194303, 8388607, 4194303, 20971519, 67108863, 134217727, 268435455, 536870911, 1073741823, 536870911, 2684354559, 8589934591, 17179869183] (by kernel_rfl) rfl ?_
  refine st_v (rv_move rfl) (by decide) ?_
  refine st_nil ?_
  refine st_then ?_
  refine st_drawSeg1 (E0 := [(6, _), (7, _), (8, _), (11, _), (12, _), (16, _), (20, _), (22, _), (24, _), (26, _), (28, _), (106, _)]) [kany, kany, kany, kany, kany, kany, kpeq _, kpeq _, kpeq _, kpeq _] 6 10 [0, 1, 0, 4, 15, 31, 63, 127, 63, 319, 1023, 2047, 4095, 8191, 16383, 8191, 8191, 106495, 237567, 524287, 1048575, 2097151, 4194303, 8388607, 4194303, 20971519, 67108863, 134217727, 268435455, 536870911, 1073741823, 536870911, 2684354559, 8589934591, 17179869183] [6, 7, 8, 11, 12, 16, 20, 22, 24, 26, 28, 106] (by kernel_rfl) (by decide) (by kernel_rfl) (SubE.cons rfl (SubE.cons rfl (SubE.cons rfl (SubE.cons rfl (SubE.cons rfl (SubE.cons rfl (SubE.cons rfl (SubE.cons rfl (SubE.cons rfl (SubE.cons rfl (SubE.cons rfl (SubE.cons rfl (SubE.nil _))))))))))))) rfl rfl (hall_skip rfl (hall_skip rfl (hall_skip rfl (hall_skip rfl (hall_skip rfl (hall_skip rfl (hall_cons (hop_on (j := 5) (b := false) [] [] rfl rfl rfl rfl rfl (by decide) rfl (jnil) (xnil) (fun _ _ _ _ => does_v (rv_move rfl))) (hall_cons (hop_on (j := 5) (b := false) [(6, 107, _)] [] rfl rfl rfl rfl rfl (by decide) rfl (jcons rfl rfl rfl rfl rfl (jnil)) (xnil) (fun _ _ _ _ => does_v (rv_string (rd_rd (i := 7) rfl) Try.underlying22 Try.underlying9 Try.underlying5 rfl))) (hall_cons (hop_on (j := 5) (b := false) [] [] rfl rfl rfl rfl rfl (by decide) rfl (jnil) (xnil) (fun _ _ _ _ => does_v (rv_move rfl))) (hall_cons (hop_on (j := 5) (b := false) [(8, 109, _)] [] rfl rfl rfl rfl rfl (by decide) rfl (jcons rfl rfl rfl rfl rfl (jnil)) (xnil) (fun _ _ _ _ => does_v (rv_string (rd_rd (i := 5) rfl) Try.underlying22 Try.underlying9 Try.underlying5 rfl))) (hall_nil))))))))))) (draw_end1 [(7, 108, _), (9, 110, _)] (jcons rfl rfl rfl rfl rfl (jcons rfl rfl rfl rfl rfl (jnil))) ?_)
  refine st_drawOp [0, 1, 0, 4, 15, 31, 63, 127, 63, 319, 1023, 2047, 4095, 8191, 16383, 8191, 8191, 106495, 237567, 524287, 1048575, 2097151, 4194303, 8388607, 4194303, 20971519, 67108863, 134217727, 268435455, 536870911, 1073741823, 536870911, 2684354559, 8589934591, 17179869183] (by kernel_rfl) rfl ?_
  refine st_gon rfl rfl ?_
  refine st_v (rv_to (u := .bool false) (rv_neqB rfl rfl) (by rw [f2]; simp)) (by decide) ?_
  refine st_nil ?_
  refine st_then ?_
  refine st_drawOp [0, 1, 0, 4, 15, 31, 63, 127, 63, 319, 1023, 2047, 4095, 8191, 16383, 8191, 8191, 106495, 237567, 524287, 1048575, 2097151, 4194303, 8388607, 4194303, 20971519, 67108863, 134217727, 268435455, 536870911, 1073741823, 536870911, 2684354559, 8589934591, 17179869183] (by kernel_rfl) rfl ?_
  first | refine st_v (rv_pick_true rfl rfl) (by decide) ?_ | refine st_v (rv_pick_false rfl rfl) (by decide) ?_ | refine st_v (rv_pick rfl rfl rfl) (by decide) ?_
  refine st_nil ?_
  refine st_then ?_
  refine st_drawOp [0, 1, 0, 4, 15, 31, 63, 127, 63, 319, 1023, 2047, 4095, 8191, 16383, 8191, 8191, 106495, 237567, 524287, 1048575, 2097151, 4194303, 8388607, 4194303, 20971519, 67108863, 134217727, 268435455, 536870911, 1073741823, 536870911, 2684354559, 8589934591, 17179869183] (by kernel_rfl) rfl ?_
  refine st_v (rv_move rfl) (by decide) ?_
  refine st_nil ?_
  refine st_then ?_
  refine st_drawSeg1 (E0 := [(6, _), (7, _), (8, _), (11, _), (12, _), (22, _), (24, _), (26, _), (28, _), (113, _)]) [kany, kany, kany, kany, kany, kany, kany, kany, kany, kany, kany, kany, kany, kpeq _, kpeq _, kpeq _, kpeq _, (fun _ v => rdA v 16 1 ((plusL (tMul (blockL a) (blockL b)) (tMul (blockL a) (blockL c)) 16).map U8)), kpeq _] 13 19 [0, 1, 0, 4, 15, 31, 63, 127, 63, 319, 1023, 2047, 4095, 8191, 16383, 8191, 8191, 106495, 237567, 524287, 1048575, 2097151, 4194303, 8388607, 4194303, 20971519, 67108863, 134217727, 268435455, 536870911, 1073741823, 536870911, 2684354559, 8589934591, 17179869183] [6, 7, 8, 11, 12, 22, 24, 26, 28, 113] (by kernel_rfl) (by decide) (by kernel_rfl) (SubE.cons rfl (SubE.cons rfl (SubE.cons rfl (SubE.cons rfl (SubE.cons rfl (SubE.cons rfl (SubE.cons rfl (SubE.cons rfl (SubE.cons rfl (SubE.cons rfl (SubE.nil _))))))))))) rfl rfl (hall_skip rfl (hall_skip rfl (hall_skip rfl (hall_skip rfl (hall_skip rfl (hall_skip rfl (hall_skip rfl (hall_skip rfl (hall_skip rfl (hall_skip rfl (hall_skip rfl (hall_skip rfl (hall_skip rfl (hall_cons (hop_on (j := 12) (b := false) [] [] rfl rfl rfl rfl rfl (by decide) rfl (jnil) (xnil) (fun _ _ _ _ => does_v (rv_move rfl))) (hall_cons (hop_on (j := 12) (b := false) [(13, 114, _)] [] rfl rfl rfl rfl rfl (by decide) rfl (jcons rfl rfl rfl rfl rfl (jnil)) (xnil) (fun _ _ _ _ => does_v (rv_string (rd_rd (i := 2) rfl) Try.underlying22 Try.underlying9 Try.underlying5 rfl))) (hall_cons (hop_on (j := 12) (b := false) [] [] rfl rfl rfl rfl rfl (by decide) rfl (jnil) (xnil) (fun _ _ _ _ => does_v (rv_move rfl))) (hall_cons (hop_on (j := 12) (b := false) [] [] rfl rfl rfl rfl rfl (by decide) rfl (jnil) (xnil) (fun _ _ _ _ => does_v (rv_move rfl))) (hall_cons (hop_on (j := 12) (b := false) [(15, 116, _), (16, 117, _)] [] rfl rfl rfl rfl rfl (by decide) rfl (jcons rfl rfl rfl rfl rfl (jcons rfl rfl rfl rfl rfl (jnil))) (xnil) (fun _ _ _ _ => does_call cal8 rfl (fun w hM => lplus16_calls _ _ (tMul (blockL a) (blockL b)) (tMul (blockL a) (blockL c)) (by simp [length_blockL, length_tMul, length_plusL]) (by simp [length_blockL, length_tMul, length_plusL]) w ((rd_rd (i := 9) rfl) w hM) ((rd_rd (i := 4) rfl) w hM)))) (hall_cons (hop_on (j := 12) (b := false) [] [(17, 118, _)] rfl rfl rfl rfl rfl (by decide) rfl (jnil) (xcons rfl rfl rfl rfl rfl rfl (xnil)) (fun _ _ _ _ => does_v (rv_string (rd_rd (i := 0) rfl) Try.underlying22 Try.underlying9 Try.underlying5 rfl))) (hall_nil)))))))))))))))))))) (draw_end1 [(14, 115, _), (18, 119, _)] (jcons rfl rfl rfl rfl rfl (jcons rfl rfl rfl rfl rfl (jnil))) ?_)
  refine st_drawOp [0, 1, 0, 4, 15, 31, 63, 127, 63, 319, 1023, 2047, 4095, 8191, 16383, 8191, 8191, 106495, 237567, 524287, 1048575, 2097151, 4194303, 8388607, 4194303, 20971519, 67108863, 134217727, 268435455, 536870911, 1073741823, 536870911, 2684354559, 8589934591, 17179869183] (by kernel_rfl) rfl ?_
  refine st_gon rfl rfl ?_
  refine st_v (rv_to (u := .bool false) (rv_neqB rfl rfl) (by rw [f3]; simp)) (by decide) ?_
  refine st_nil ?_
  refine st_then ?_
  refine st_drawOp [0, 1, 0, 4, 15, 31, 63, 127, 63, 319, 1023, 2047, 4095, 8191, 16383, 8191, 8191, 106495, 237567, 524287, 1048575, 2097151, 4194303, 8388607, 4194303, 20971519, 67108863, 134217727, 268435455, 536870911, 1073741823, 536870911, 2684354559, 8589934591, 17179869183] (by kernel_rfl) rfl ?_
  first | refine st_v (rv_pick_true rfl rfl) (by decide) ?_ | refine st_v (rv_pick_false rfl rfl) (by decide) ?_ | refine st_v (rv_pick rfl rfl rfl) (by decide) ?_
  refine st_nil ?_
  refine st_then ?_
  refine st_drawOp [0, 1, 0, 4, 15, 31, 63, 127, 63, 319, 1023, 2047, 4095, 8191, 16383, 8191, 8191, 106495, 237567, 524287, 1048575, 2097151, 4194303, 8388607, 4194303, 20971519, 67108863, 134217727, 268435455, 536870911, 1073741823, 536870911, 2684354559, 8589934591, 17179869183] (by kernel_rfl) rfl ?_
  refine st_v (rv_move rfl) (by decide) ?_
  refine st_nil ?_
  refine st_then ?_
  refine st_drawSeg1 (E0 := [(6, _), (7, _), (8, _), (11, _), (12, _), (26, _), (28, _), (122, _)]) [kany, kany, kany, kany, kany, kany, kany, kany, kany, kany, kany, kany, kany, kany, kany, kany, kany, kany, kany, kany, kany, kany, kpeq _, kpeq _, kpeq _, kpeq _] 22 26 [0, 1, 0, 4, 15, 31, 63, 127, 63, 319, 1023, 2047, 4095, 8191, 16383, 8191, 8191, 106495, 237567, 524287, 1048575, 2097151, 4194303, 8388607, 4194303, 20971519, 67108863, 134217727, 268435455, 536870911, 1073741823, 536870911, 2684354559, 8589934591, 17179869183] [6, 7, 8, 11, 12, 26, 28, 122] (by kernel_rfl) (by decide) (by kernel_rfl) (SubE.cons rfl (SubE.cons rfl (SubE.cons rfl (SubE.cons rfl (SubE.cons rfl (SubE.cons rfl (SubE.cons rfl (SubE.cons rfl (SubE.nil _))))))))) rfl rfl (hall_skip rfl (hall_skip rfl (hall_skip rfl (hall_skip rfl (hall_skip rfl (hall_skip rfl (hall_skip rfl (hall_skip rfl (hall_skip rfl (hall_skip rfl (hall_skip rfl (hall_skip rfl (hall_skip rfl (hall_skip rfl (hall_skip rfl (hall_skip rfl (hall_skip rfl (hall_skip rfl (hall_skip rfl (hall_skip rfl (hall_skip rfl (hall_skip rfl (hall_cons (hop_on (j := 21) (b := false) [] [] rfl rfl rfl rfl rfl (by decide) rfl (jnil) (xnil) (fun _ _ _ _ => does_v (rv_move rfl))) (hall_cons (hop_on (j := 21) (b := false) [(22, 123, _)] [] rfl rfl rfl rfl rfl (by decide) rfl (jcons rfl rfl rfl rfl rfl (jnil)) (xnil) (fun _ _ _ _ => does_v (rv_string (rd_rd (i := 1) rfl) Try.underlying22 Try.underlying9 Try.underlying5 rfl))) (hall_cons (hop_on (j := 21) (b := false) [] [] rfl rfl rfl rfl rfl (by decide) rfl (jnil) (xnil) (fun _ _ _ _ => does_v (rv_move rfl))) (hall_cons (hop_on (j := 21) (b := false) [(24, 125, _)] [] rfl rfl rfl rfl rfl (by decide) rfl (jcons rfl rfl rfl rfl rfl (jnil)) (xnil) (fun _ _ _ _ => does_v (rv_string (rd_rd (i := 14) rfl) Try.underlying22 Try.underlying9 Try.underlying5 rfl))) (hall_nil))))))))))))))))))))))))))) (draw_end1 [(23, 124, _), (25, 126, _)] (jcons rfl rfl rfl rfl rfl (jcons rfl rfl rfl rfl rfl (jnil))) ?_)
  refine st_drawOp [0, 1, 0, 4, 15, 31, 63, 127, 63, 319, 1023, 2047, 4095, 8191, 16383, 8191, 8191, 106495, 237567, 524287, 1048575, 2097151, 4194303, 8388607, 4194303, 20971519, 67108863, 134217727, 268435455, 536870911, 1073741823, 536870911, 2684354559, 8589934591, 17179869183] (by kernel_rfl) rfl ?_
  refine st_gon rfl rfl ?_
  refine st_v (rv_to (u := .bool false) (rv_neqB rfl rfl) (by rw [f4]; simp)) (by decide) ?_
  refine st_nil ?_
  refine st_then ?_
  refine st_drawOp [0, 1, 0, 4, 15, 31, 63, 127, 63, 319, 1023, 2047, 4095, 8191, 16383, 8191, 8191, 106495, 237567, 524287, 1048575, 2097151, 4194303, 8388607, 4194303, 20971519, 67108863, 134217727, 268435455, 536870911, 1073741823, 536870911, 2684354559, 8589934591, 17179869183] (by kernel_rfl) rfl ?_
  first | refine st_v (rv_pick_true rfl rfl) (by decide) ?_ | refine st_v (rv_pick_false rfl rfl) (by decide) ?_ | refine st_v (rv_pick rfl rfl rfl) (by decide) ?_
  refine st_nil ?_
  refine st_then ?_
  refine st_drawOp [0, 1, 0, 4, 15, 31, 63, 127, 63, 319, 1023, 2047, 4095, 8191, 16383, 8191, 8191, 106495, 237567, 524287, 1048575, 2097151, 4194303, 8388607, 4194303, 20971519, 67108863, 134217727, 268435455, 536870911, 1073741823, 536870911, 2684354559, 8589934591, 17179869183] (by kernel_rfl) rfl ?_
  refine st_v (rv_move rfl) (by decide) ?_
  refine st_nil ?_
  refine st_then ?_
  refine st_drawSeg1 (E0 := [(6, _), (7, _), (8, _), (11, _), (12, _), (28, _), (129, _)]) [kany, kany, kany, kany, kany, kany, kany, kany, kany, kany, kany, kany, kany, kany, kany, kany, kany, kany, kany, kany, kany, kany, kany, kany, kany, kany, kany, kany, kany, kpeq _, kpeq _, kpeq _, kpeq _] 29 33 [0, 1, 0, 4, 15, 31, 63, 127, 63, 319, 1023, 2047, 4095, 8191, 16383, 8191, 8191, 106495, 237567, 524287, 1048575, 2097151, 4194303, 8388607, 4194303, 20971519, 67108863, 134217727, 268435455, 536870911, 1073741823, 536870911, 2684354559, 8589934591, 17179869183] [6, 7, 8, 11, 12, 28, 129] (by kernel_rfl) (by decide) (by kernel_rfl) (SubE.cons rfl (SubE.cons rfl (SubE.cons rfl (SubE.cons rfl (SubE.cons rfl (SubE.cons rfl (SubE.cons rfl (SubE.nil _)))))))) rfl rfl (hall_skip rfl (hall_skip rfl (hall_skip rfl (hall_skip rfl (hall_skip rfl (hall_skip rfl (hall_skip rfl (hall_skip rfl (hall_skip rfl (hall_skip rfl (hall_skip rfl (hall_skip rfl (hall_skip rfl (hall_skip rfl (hall_skip rfl (hall_skip rfl (hall_skip rfl (hall_skip rfl (hall_skip rfl (hall_skip rfl (hall_skip rfl (hall_skip rfl (hall_skip rfl (hall_skip rfl (hall_skip rfl (hall_skip rfl (hall_skip rfl (hall_skip rfl (hall_skip rfl (hall_cons (hop_on (j := 28) (b := false) [] [] rfl rfl rfl rfl rfl (by decide) rfl (jnil) (xnil) (fun _ _ _ _ => does_v (rv_move rfl))) (hall_cons (hop_on (j := 28) (b := false) [(29, 130, _)] [] rfl rfl rfl rfl rfl (by decide) rfl (jcons rfl rfl rfl rfl rfl (jnil)) (xnil) (fun _ _ _ _ => does_v (rv_string (rd_rd (i := 0) rfl) Try.underlying22 Try.underlying9 Try.underlying5 rfl))) (hall_cons (hop_on (j := 28) (b := false) [] [] rfl rfl rfl rfl rfl (by decide) rfl (jnil) (xnil) (fun _ _ _ _ => does_v (rv_move rfl))) (hall_cons (hop_on (j := 28) (b := false) [(31, 132, _)] [] rfl rfl rfl rfl rfl (by decide) rfl (jcons rfl rfl rfl rfl rfl (jnil)) (xnil) (fun _ _ _ _ => does_v (rv_string (rd_rd (i := 10) rfl) Try.underlying22 Try.underlying9 Try.underlying5 rfl))) (hall_nil)))))))))))))))))))))))))))))))))) (draw_end1 [(30, 131, _), (32, 133, _)] (jcons rfl rfl rfl rfl rfl (jcons rfl rfl rfl rfl rfl (jnil))) ?_)
  refine st_drawTail (N := 33) [0, 1, 0, 4, 15, 31, 63, 127, 63, 319, 1023, 2047, 4095, 8191, 16383, 8191, 8191, 106495, 237567, 524287, 1048575, 2097151, 4194303, 8388607, 4194303, 20971519, 67108863, 134217727, 268435455, 536870911, 1073741823, 536870911, 2684354559, 8589934591, 17179869183] (by kernel_rfl) (by kernel_rfl) ?_
  refine st_gon rfl rfl ?_
  refine st_v (rv_to (u := .bool false) (rv_neqB rfl rfl) (by rw [f5]; simp)) (by decide) ?_
  first | refine st_v (rv_pick_true rfl rfl) (by decide) ?_ | refine st_v (rv_pick_false rfl rfl) (by decide) ?_ | refine st_v (rv_pick rfl rfl rfl) (by decide) ?_
  refine st_nil ?_
  refine st_then ?_
  refine st_false rfl ?_
  refine st_skip ?_
  refine st_then ?_
  refine st_seq ?_
  refine st_region ?_
  refine st_v (rv_move rfl) (by decide) ?_
  refine st_v (rv_string (rd_rd (i := 9) rfl) Try.underlying22 Try.underlying9 Try.underlying5 rfl) (by decide) ?_
  refine st_v (rv_move rfl) (by decide) ?_
  refine st_v (rv_string (rd_rd (i := 10) rfl) Try.underlying22 Try.underlying9 Try.underlying5 rfl) (by decide) ?_
  refine st_v (rv_neqB rfl rfl) (by decide) ?_
  refine st_v (rv_move rfl) (by decide) ?_
  refine' st_or 6 (L := _) (s := 141) (d := 147) [6, 8, 11] rfl (fun hg6 => ?_) (fun _ => ?_) ?_; rotate_left
  · -- true
    refine st_gskip rfl rfl rfl (by decide) ?_
    refine st_gskip rfl rfl rfl (by decide) ?_
    refine st_gskip rfl rfl rfl (by decide) ?_
    refine st_gskip rfl rfl rfl (by decide) ?_
    refine st_gskip rfl rfl rfl (by decide) ?_
    first | refine st_v (rv_pick_true rfl rfl) (by decide) ?_ | refine st_v (rv_pick_false rfl rfl) (by decide) ?_ | refine st_v (rv_pick rfl rfl rfl) (by decide) ?_
    refine st_nil ?_
    exact st_meet_b (SubE.cons rfl (SubE.cons rfl (SubE.cons rfl (SubE.cons rfl (SubE.nil _)))))
  · -- false
    refine st_gon rfl rfl ?_
    refine st_v (rv_move rfl) (by decide) ?_
    refine st_gon rfl rfl ?_
    refine st_v (rv_string (rd_rd (i := 14) rfl) Try.underlying22 Try.underlying9 Try.underlying5 rfl) (by decide) ?_
    refine st_gon rfl rfl ?_
    refine st_v (rv_move rfl) (by decide) ?_
    refine st_gon rfl rfl ?_
    refine st_v (rv_string (rd_rd (i := 10) rfl) Try.underlying22 Try.underlying9 Try.underlying5 rfl) (by decide) ?_
    refine st_gon rfl rfl ?_
    refine st_v (rv_eqlB rfl rfl) (by decide) ?_
    first | refine st_v (rv_pick_true rfl rfl) (by decide) ?_ | refine st_v (rv_pick_false rfl rfl) (by decide) ?_ | refine st_v (rv_pick rfl rfl rfl) (by decide) ?_
    refine st_nil ?_
    exact st_meet_b (SubE.cons rfl (SubE.cons rfl (SubE.cons rfl (SubE.cons rfl (SubE.nil _)))))
  refine st_v (rv_move rfl) (by decide) ?_
  refine' st_or 6 (L := _) (s := 148) (d := 154) [6] rfl (fun hg13 => ?_) (fun _ => ?_) ?_; rotate_left
  · -- true
    refine st_gskip rfl rfl rfl (by decide) ?_
    refine st_gskip rfl rfl rfl (by decide) ?_
    refine st_gskip rfl rfl rfl (by decide) ?_
    refine st_gskip rfl rfl rfl (by decide) ?_
    refine st_gskip rfl rfl rfl (by decide) ?_
    first | refine st_v (rv_pick_true rfl rfl) (by decide) ?_ | refine st_v (rv_pick_false rfl rfl) (by decide) ?_ | refine st_v (rv_pick rfl rfl rfl) (by decide) ?_
    refine st_nil ?_
    exact st_meet_b (SubE.cons rfl (SubE.cons rfl (SubE.nil _)))
  · -- false
    refine st_gon rfl rfl ?_
    refine st_v (rv_move rfl) (by decide) ?_
    refine st_gon rfl rfl ?_
    refine st_v (rv_string (rd_rd (i := 13) rfl) Try.underlying22 Try.underlying9 Try.underlying5 rfl) (by decide) ?_
    refine st_gon rfl rfl ?_
    refine st_v (rv_move rfl) (by decide) ?_
    refine st_gon rfl rfl ?_
    refine st_v (rv_string (rd_rd (i := 10) rfl) Try.underlying22 Try.underlying9 Try.underlying5 rfl) (by decide) ?_
    refine st_gon rfl rfl ?_
    refine st_v (rv_eqlB rfl rfl) (by decide) ?_
    first | refine st_v (rv_pick_true rfl rfl) (by decide) ?_ | refine st_v (rv_pick_false rfl rfl) (by decide) ?_ | refine st_v (rv_pick rfl rfl rfl) (by decide) ?_
    refine st_nil ?_
    exact st_meet_b (SubE.cons rfl (SubE.cons rfl (SubE.nil _)))
  refine st_v (rv_assign rfl) (by decide) ?_
  refine st_nil ?_
  refine st_then ?_
  refine st_ret ?_
  exact st_done rfl rfl (fun w hM => ⟨by by_cases h1 : tMul (blockL a) (blockL b) = blockL [] <;> simp [h1]; exact f6 h1, hM.sublist (List.nil_sublist _)⟩)
end Go.Proofs.Ytpihffpdkfkkhaa
