/- Walks: what functions of the given program do, operation by operation. Written by wip/gen. -/
import Derived.Test.YtpihffpdkfkkhaaWS
namespace Go.Proofs.Ytpihffpdkfkkhaa
set_option linter.all false
open Go
theorem errors_calls (w : World) : Calls Try.prog 14 #[] w (fun r w' => r = .returned (.bool true) ∧ Mem (All w) w w' []) := by
  refine calls_of_st (n := 19) (args := []) Try.func14 rfl Try.ntmps14 (Nat.le_of_ble_eq_true rfl) (Mem.all w) ?_
  refine st_seq ?_
  refine st_region ?_
  refine st_v (rv_assign rfl) (by decide) ?_
  refine st_nil ?_
  refine st_then ?_
  refine st_seq ?_
  refine st_region ?_
  refine st_buildSlice Try.underlying51 tyZ24 rfl rfl (by decide) (cs := #[_, _, _, _, _, _, _, _, _, _, _, _, _, _, _, _, _]) rfl (by decide) (fun b1 hb1 => ?_)
  refine st_v (rv_assign rfl) (by decide) ?_
  refine st_nil ?_
  refine st_then ?_
  refine st_seq ?_
  refine st_seq ?_
  refine st_region ?_
  refine st_v (rv_assign rfl) (by decide) ?_
  refine st_nil ?_
  refine st_then ?_
  refine st_block ?_
  refine st_loop (σ := Nat) (fun k => [(1, sl b1 0 17 17), (2, vI k)]) (fun k => [blk b1 #[vI 0, vI 1, vI 2, vI 3, vI 4, vI 5, vI 6, vI 7, vI 8, vI 9, vI 10, vI 11, vI 12, vI 13, vI 14, vI 15, vI 16] 24]) (fun k => k ≤ 17) (fun k => 17 - k) 0 (by omega) (SubE.cons rfl (SubE.cons rfl (SubE.nil _))) (fun _ hM => hM) ?_
  intro k hI
  refine st_seq ?_
  refine st_seq ?_
  refine st_region ?_
  refine st_v (rv_move rfl) (by decide) ?_
  refine st_v (rv_move rfl) (by decide) ?_
  refine st_v (rv_lenS Try.underlying51 rfl) (by decide) ?_
  refine st_v (rv_lssZ rfl rfl) (by decide) ?_
  refine st_nil ?_
  refine st_then ?_
  refine st_cond rfl (fun hc7 => ?_) (fun hc7 => ?_)
  · -- t7 True
    try simp only [decide_eq_true_eq, decide_eq_false_iff_not, Bool.and_eq_true, Bool.or_eq_true, Bool.and_eq_false_iff, Bool.or_eq_false_iff, Bool.not_eq_true, Bool.not_eq_eq_eq_not, Bool.not_true, Bool.not_false, Int.not_lt, Int.not_le, ne_eq, Decidable.not_not] at hc7
    refine st_skip ?_
    refine st_then ?_
    refine st_seq ?_
    refine st_block ?_
    refine st_seq ?_
    refine st_region ?_
    refine st_v (rv_move rfl) (by decide) ?_
    refine st_v (rv_move rfl) (by decide) ?_
    refine st_v (rv_indexS Try.underlying51 sz24 rfl rfl rfl (by omega) (by first | exact (Nat.zero_add _).trans (Nat.mul_one _) | exact congrArg _ (Nat.mul_one _) | rfl)) (by decide) ?_
    refine st_v (rv_load_blk tyS24 rfl (i := 0) rfl (errs_get k (by omega))) (by decide) ?_
    refine st_v (rv_move rfl) (by decide) ?_
    refine st_v (rv_to (u := .bool false) (rv_neqZ rfl rfl) (by simp)) (by decide) ?_
    refine st_nil ?_
    refine st_then ?_
    refine st_false rfl ?_
    refine st_skip ?_
    refine st_in_normal ?_
    refine st_then ?_
    refine st_region ?_
    refine st_v (rv_move rfl) (by decide) ?_
    first | refine st_v (rv_addN (b := 1) rfl rfl (by first | omega | (simp <;> omega))) (by decide) ?_ | refine st_v (rv_addZ rfl rfl (by first | omega | (simp <;> omega))) (by decide) ?_
    refine st_v (rv_assign rfl) (by decide) ?_
    refine st_nil ?_
    refine st_then ?_
    exact st_again (k + 1) (by omega) (by omega) (SubE.cons rfl (SubE.cons rfl (SubE.nil _))) (fun _ hM => hM)
  · -- t7 False
    try simp only [decide_eq_true_eq, decide_eq_false_iff_not, Bool.and_eq_true, Bool.or_eq_true, Bool.and_eq_false_iff, Bool.or_eq_false_iff, Bool.not_eq_true, Bool.not_eq_eq_eq_not, Bool.not_true, Bool.not_false, Int.not_lt, Int.not_le, ne_eq, Decidable.not_not] at hc7
    obtain rfl : k = 17 := by omega
    refine st_exit ?_
    refine st_then_exit ?_
    refine st_then_exit ?_
    refine st_in_exit ?_
    refine st_then ?_
    refine st_seq ?_
    refine st_region ?_
    refine st_v (rv_move rfl) (by decide) ?_
    refine st_v (rv_lenS Try.underlying51 rfl) (by decide) ?_
    refine st_v (rv_eqlZ rfl rfl) (by decide) ?_
    refine st_v (rv_assign rfl) (by decide) ?_
    refine st_nil ?_
    refine st_then ?_
    refine st_ret ?_
    exact st_done rfl rfl (fun w hM => ⟨rfl, hM.sublist (List.nil_sublist _)⟩)
theorem numbers_calls (v u : Value) (l : List Int) (hl : l.length ≤ 1000) (w : World) (hA : Rd w v l.length 1 (l.map fun z => vI z)) (hB : Rd w u l.length 1 (l.map fun z => vI z)) : Calls Try.prog 15 #[v, u] w (fun r w' => r = .returned (.bool true) ∧ Mem (All w) w w' []) := by
  refine calls_of_st (n := 26) (args := [v, u]) Try.func15 rfl Try.ntmps15 (Nat.le_of_ble_eq_true rfl) (Mem.all w) ?_
  refine st_seq ?_
  refine st_region ?_
  refine st_v (rv_assign rfl) (by decide) ?_
  refine st_nil ?_
  refine st_then ?_
  refine st_seq ?_
  refine st_seq ?_
  refine st_region ?_
  refine st_v (rv_move rfl) (by decide) ?_
  refine st_v (rv_lenR (rd_old hA hA.all) Try.underlying36 rfl) (by decide) ?_
  refine st_v (rv_move rfl) (by decide) ?_
  refine st_v (rv_lenR (rd_old hB hB.all) Try.underlying36 rfl) (by decide) ?_
  refine st_v (rv_to (u := .bool false) (rv_neqZ rfl rfl) (by simp)) (by decide) ?_
  refine st_nil ?_
  refine st_then ?_
  refine st_false rfl ?_
  refine st_skip ?_
  refine st_then ?_
  refine st_seq ?_
  refine st_seq ?_
  refine st_region ?_
  refine st_v (rv_assign rfl) (by decide) ?_
  refine st_nil ?_
  refine st_then ?_
  refine st_block ?_
  refine st_loop (σ := Nat) (fun k => [(0, v), (1, u), (5, vI k)]) (fun k => []) (fun k => k ≤ l.length) (fun k => l.length - k) 0 (by omega) (SubE.cons rfl (SubE.cons rfl (SubE.cons rfl (SubE.nil _)))) (fun _ hM => hM) ?_
  intro k hI
  refine st_seq ?_
  refine st_seq ?_
  refine st_region ?_
  refine st_v (rv_move rfl) (by decide) ?_
  refine st_v (rv_move rfl) (by decide) ?_
  refine st_v (rv_lenR (rd_old hA hA.all) Try.underlying36 rfl) (by decide) ?_
  refine st_v (rv_lssZ rfl rfl) (by decide) ?_
  refine st_nil ?_
  refine st_then ?_
  refine st_cond rfl (fun hc14 => ?_) (fun hc14 => ?_)
  · -- t14 True
    try simp only [decide_eq_true_eq, decide_eq_false_iff_not, Bool.and_eq_true, Bool.or_eq_true, Bool.and_eq_false_iff, Bool.or_eq_false_iff, Bool.not_eq_true, Bool.not_eq_eq_eq_not, Bool.not_true, Bool.not_false, Int.not_lt, Int.not_le, ne_eq, Decidable.not_not] at hc14
    refine st_skip ?_
    refine st_then ?_
    refine st_seq ?_
    refine st_block ?_
    refine st_seq ?_
    refine st_drawStart mixed ?_
    refine st_drawSeg1 (E0 := [(0, _), (1, _), (5, _), (11, _), (12, _), (13, _), (14, _)]) [kpeq _, kpeq _, kpeq _, kpeq _, kpeq _, kpeq _, kpeq _, kpeq _] 0 8 [0, 0, 3, 7, 0, 0, 48, 112, 255] [0, 1, 5, 11, 12, 13, 14] (by kernel_rfl) (by decide) (by kernel_rfl) (SubE.cons rfl (SubE.cons rfl (SubE.cons rfl (SubE.cons rfl (SubE.cons rfl (SubE.cons rfl (SubE.cons rfl (SubE.nil _)))))))) rfl rfl (hall_cons (hop_val [] [] rfl rfl rfl (by decide) rfl (jnil) (xnil) (fun _ _ _ _ => does_v (rv_move rfl))) (hall_cons (hop_val [] [] rfl rfl rfl (by decide) rfl (jnil) (xnil) (fun _ _ _ _ => does_v (rv_move rfl))) (hall_cons (hop_val [(0, 17, _), (1, 18, _)] [] rfl rfl rfl (by decide) rfl (jcons rfl rfl rfl rfl rfl (jcons rfl rfl rfl rfl rfl (jnil))) (xnil) (fun _ _ _ _ => does_v (rv_indexR1 (rd_old hA hA.all) Try.underlying36 sz3 rfl rfl rfl (by omega)))) (hall_cons (hop_val [(2, 19, _)] [] rfl rfl rfl (by decide) rfl (jcons rfl rfl rfl rfl rfl (jnil)) (xnil) (fun _ _ _ _ => does_v (rv_load_rd (rd_old hA hA.all) tyS3 rfl (getI (by omega))))) (hall_cons (hop_val [] [] rfl rfl rfl (by decide) rfl (jnil) (xnil) (fun _ _ _ _ => does_v (rv_move rfl))) (hall_cons (hop_val [] [] rfl rfl rfl (by decide) rfl (jnil) (xnil) (fun _ _ _ _ => does_v (rv_move rfl))) (hall_cons (hop_val [(4, 21, _), (5, 22, _)] [] rfl rfl rfl (by decide) rfl (jcons rfl rfl rfl rfl rfl (jcons rfl rfl rfl rfl rfl (jnil))) (xnil) (fun _ _ _ _ => does_v (rv_indexR1 (rd_old hB hB.all) Try.underlying36 sz3 rfl rfl rfl (by omega)))) (hall_cons (hop_val [(6, 23, _)] [] rfl rfl rfl (by decide) rfl (jcons rfl rfl rfl rfl rfl (jnil)) (xnil) (fun _ _ _ _ => does_v (rv_load_rd (rd_old hB hB.all) tyS3 rfl (getI (by omega))))) (hall_nil))))))))) (draw_end1 [(0, 17, _), (1, 18, _), (2, 19, _), (3, 20, _), (4, 21, _), (5, 22, _), (6, 23, _), (7, 24, _)] (jcons rfl rfl rfl rfl rfl (jcons rfl rfl rfl rfl rfl (jcons rfl rfl rfl rfl rfl (jcons rfl rfl rfl rfl rfl (jcons rfl rfl rfl rfl rfl (jcons rfl rfl rfl rfl rfl (jcons rfl rfl rfl rfl rfl (jcons rfl rfl rfl rfl rfl (jnil))))))))) ?_)
    refine st_drawTail (N := 8) [0, 0, 3, 7, 0, 0, 48, 112, 255] (by kernel_rfl) (by kernel_rfl) ?_
    refine st_v (rv_to (u := .bool false) (rv_neqZ rfl rfl) (by simp)) (by decide) ?_
    refine st_nil ?_
    refine st_then ?_
    refine st_false rfl ?_
    refine st_skip ?_
    refine st_in_normal ?_
    refine st_then ?_
    refine st_region ?_
    refine st_v (rv_move rfl) (by decide) ?_
    first | refine st_v (rv_addN (b := 1) rfl rfl (by first | omega | (simp <;> omega))) (by decide) ?_ | refine st_v (rv_addZ rfl rfl (by first | omega | (simp <;> omega))) (by decide) ?_
    refine st_v (rv_assign rfl) (by decide) ?_
    refine st_nil ?_
    refine st_then ?_
    exact st_again (k + 1) (by omega) (by omega) (SubE.cons rfl (SubE.cons rfl (SubE.cons rfl (SubE.nil _)))) (fun _ hM => hM)
  · -- t14 False
    try simp only [decide_eq_true_eq, decide_eq_false_iff_not, Bool.and_eq_true, Bool.or_eq_true, Bool.and_eq_false_iff, Bool.or_eq_false_iff, Bool.not_eq_true, Bool.not_eq_eq_eq_not, Bool.not_true, Bool.not_false, Int.not_lt, Int.not_le, ne_eq, Decidable.not_not] at hc14
    refine st_exit ?_
    refine st_then_exit ?_
    refine st_then_exit ?_
    refine st_in_exit ?_
    refine st_then ?_
    refine st_seq ?_
    refine st_region ?_
    refine st_v (rv_assign rfl) (by decide) ?_
    refine st_nil ?_
    refine st_then ?_
    refine st_ret ?_
    exact st_done rfl rfl (fun w hM => ⟨rfl, hM.sublist (List.nil_sublist _)⟩)
set_option maxRecDepth 100000 in
set_option maxHeartbeats 1000000 in
theorem names_walk (w : World) : Calls Try.prog 5 #[] w (fun e w' => e = .returned (.bool true) ∧ Mem (All w) w w' []) := by
  refine calls_of_st (n := 73) (args := []) Try.func5 rfl Try.ntmps5 (Nat.le_of_ble_eq_true rfl) (Mem.all w) ?_
  refine st_seq ?_
  refine st_region ?_
  refine st_v (rv_assign rfl) (by decide) ?_
  refine st_nil ?_
  refine st_then ?_
  refine st_seq ?_
  refine st_region ?_
  refine st_call0 cal14 rfl (fun w hM => errors_calls w) (by decide) ?_
  refine st_v (rv_assign rfl) (by decide) ?_
  refine st_nil ?_
  refine st_then ?_
  refine st_seq ?_
  refine st_region ?_
  refine st_buildSlice Try.underlying36 tyZ3 rfl rfl (by decide) (cs := #[_, _, _, _, _, _, _, _, _, _, _]) rfl (by decide) (fun b1 hb1 => ?_)
  refine st_buildSlice Try.underlying36 tyZ3 rfl rfl (by decide) (cs := #[_, _, _, _, _, _, _, _, _, _, _]) rfl (by decide) (fun b2 hb2 => ?_)
  refine st_call0 cal15 rfl (fun w hM => numbers_calls _ _ [16384, 12, 6, 16384, 32, 32, 8, 16384, 16640, 1048576, 7200] (by decide) w ((rd_I (q := [_, _, _, _, _, _, _, _, _, _, _]) (len := 11) (i := 1) rfl rfl rfl (by omega)) w hM) ((rd_I (q := [_, _, _, _, _, _, _, _, _, _, _]) (len := 11) (i := 0) rfl rfl rfl (by omega)) w hM)) (by decide) ?_
  refine st_v (rv_assign rfl) (by decide) ?_
  refine st_nil ?_
  refine st_then ?_
  refine st_seq ?_
  refine st_region ?_
  refine st_buildSlice Try.underlying36 tyZ3 rfl rfl (by decide) (cs := #[_, _, _, _, _, _, _, _, _, _, _, _, _, _, _]) rfl (by decide) (fun b3 hb3 => ?_)
  refine st_buildSlice Try.underlying36 tyZ3 rfl rfl (by decide) (cs := #[_, _, _, _, _, _, _, _, _, _, _, _, _, _, _]) rfl (by decide) (fun b4 hb4 => ?_)
  refine st_call0 cal15 rfl (fun w hM => numbers_calls _ _ [1, 2, 3, 4, 5, 6, 12, 19, 22, 23, 24, 32, 48, 49, 128] (by decide) w ((rd_I (q := [_, _, _, _, _, _, _, _, _, _, _, _, _, _, _]) (len := 15) (i := 1) rfl rfl rfl (by omega)) w hM) ((rd_I (q := [_, _, _, _, _, _, _, _, _, _, _, _, _, _, _]) (len := 15) (i := 0) rfl rfl rfl (by omega)) w hM)) (by decide) ?_
  refine st_v (rv_assign rfl) (by decide) ?_
  refine st_nil ?_
  refine st_then ?_
  refine st_seq ?_
  refine st_region ?_
  refine st_buildSlice Try.underlying36 tyZ3 rfl rfl (by decide) (cs := #[_, _, _, _, _, _, _, _, _, _, _]) rfl (by decide) (fun b5 hb5 => ?_)
  refine st_buildSlice Try.underlying36 tyZ3 rfl rfl (by decide) (cs := #[_, _, _, _, _, _, _, _, _, _, _]) rfl (by decide) (fun b6 hb6 => ?_)
  refine st_call0 cal15 rfl (fun w hM => numbers_calls _ _ [0, 1, 2, 0, 1, 2, 3, 0, 1, 1, 32] (by decide) w ((rd_I (q := [_, _, _, _, _, _, _, _, _, _, _]) (len := 11) (i := 1) rfl rfl rfl (by omega)) w hM) ((rd_I (q := [_, _, _, _, _, _, _, _, _, _, _]) (len := 11) (i := 0) rfl rfl rfl (by omega)) w hM)) (by decide) ?_
  refine st_v (rv_assign rfl) (by decide) ?_
  refine st_nil ?_
  refine st_then ?_
  refine st_seq ?_
  refine st_region ?_
  refine st_buildSlice Try.underlying36 tyZ3 rfl rfl (by decide) (cs := #[_, _, _, _, _, _, _, _, _]) rfl (by decide) (fun b7 hb7 => ?_)
  refine st_buildSlice Try.underlying36 tyZ3 rfl rfl (by decide) (cs := #[_, _, _, _, _, _, _, _, _]) rfl (by decide) (fun b8 hb8 => ?_)
  refine st_call0 cal15 rfl (fun w hM => numbers_calls _ _ [1, 2, 4, 8, 11, 13, 15, 20, 24] (by decide) w ((rd_I (q := [_, _, _, _, _, _, _, _, _]) (len := 9) (i := 1) rfl rfl rfl (by omega)) w hM) ((rd_I (q := [_, _, _, _, _, _, _, _, _]) (len := 9) (i := 0) rfl rfl rfl (by omega)) w hM)) (by decide) ?_
  refine st_v (rv_assign rfl) (by decide) ?_
  refine st_nil ?_
  refine st_then ?_
  refine st_seq ?_
  refine st_region ?_
  refine st_buildSlice Try.underlying36 tyZ3 rfl rfl (by decide) (cs := #[_, _, _, _, _, _, _, _, _, _, _, _, _]) rfl (by decide) (fun b9 hb9 => ?_)
  refine st_buildSlice Try.underlying36 tyZ3 rfl rfl (by decide) (cs := #[_, _, _, _, _, _, _, _, _, _, _, _, _]) rfl (by decide) (fun b10 hb10 => ?_)
  refine st_call0 cal15 rfl (fun w hM => numbers_calls _ _ [772, 4865, 4866, 4867, 23, 29, 1027, 2055, 1, 20, 21, 22, 23] (by decide) w ((rd_I (q := [_, _, _, _, _, _, _, _, _, _, _, _, _]) (len := 13) (i := 1) rfl rfl rfl (by omega)) w hM) ((rd_I (q := [_, _, _, _, _, _, _, _, _, _, _, _, _]) (len := 13) (i := 0) rfl rfl rfl (by omega)) w hM)) (by decide) ?_
  refine st_v (rv_assign rfl) (by decide) ?_
  refine st_nil ?_
  refine st_then ?_
  refine st_seq ?_
  refine st_region ?_
  refine st_buildSlice Try.underlying36 tyZ3 rfl rfl (by decide) (cs := #[_, _, _, _, _, _, _, _, _, _, _, _, _, _, _]) rfl (by decide) (fun b11 hb11 => ?_)
  refine st_buildSlice Try.underlying36 tyZ3 rfl rfl (by decide) (cs := #[_, _, _, _, _, _, _, _, _, _, _, _, _, _, _]) rfl (by decide) (fun b12 hb12 => ?_)
  refine st_call0 cal15 rfl (fun w hM => numbers_calls _ _ [0, 10, 20, 22, 40, 42, 47, 48, 50, 51, 70, 80, 109, 116, 120] (by decide) w ((rd_I (q := [_, _, _, _, _, _, _, _, _, _, _, _, _, _, _]) (len := 15) (i := 1) rfl rfl rfl (by omega)) w hM) ((rd_I (q := [_, _, _, _, _, _, _, _, _, _, _, _, _, _, _]) (len := 15) (i := 0) rfl rfl rfl (by omega)) w hM)) (by decide) ?_
  refine st_v (rv_assign rfl) (by decide) ?_
  refine st_nil ?_
  refine st_then ?_
  refine st_seq ?_
  refine st_region ?_
  refine st_buildSlice Try.underlying36 tyZ3 rfl rfl (by decide) (cs := #[_, _, _, _, _, _, _, _, _, _, _, _]) rfl (by decide) (fun b13 hb13 => ?_)
  refine st_buildSlice Try.underlying36 tyZ3 rfl rfl (by decide) (cs := #[_, _, _, _, _, _, _, _, _, _, _, _]) rfl (by decide) (fun b14 hb14 => ?_)
  refine st_call0 cal15 rfl (fun w hM => numbers_calls _ _ [1, 2, 3, 4, 5, 6, 7, 8, 9, 10, 11, 12] (by decide) w ((rd_I (q := [_, _, _, _, _, _, _, _, _, _, _, _]) (len := 12) (i := 1) rfl rfl rfl (by omega)) w hM) ((rd_I (q := [_, _, _, _, _, _, _, _, _, _, _, _]) (len := 12) (i := 0) rfl rfl rfl (by omega)) w hM)) (by decide) ?_
  refine st_v (rv_assign rfl) (by decide) ?_
  refine st_nil ?_
  refine st_then ?_
  refine st_seq ?_
  refine st_region ?_
  refine st_buildSlice Try.underlying37 tyZ9 rfl rfl (by decide) (cs := #[_, _, _]) rfl (by decide) (fun b15 hb15 => ?_)
  refine st_v (rv_assign rfl) (by decide) ?_
  refine st_nil ?_
  refine st_then ?_
  refine st_seq ?_
  refine st_region ?_
  refine st_v (rv_move rfl) (by decide) ?_
  refine st_v (rv_move rfl) (by decide) ?_
  refine st_gon rfl rfl ?_
  refine st_v (rv_move rfl) (by decide) ?_
  first | refine st_v (rv_pick_true rfl rfl) (by decide) ?_ | refine st_v (rv_pick_false rfl rfl) (by decide) ?_ | refine st_v (rv_pick rfl rfl rfl) (by decide) ?_
  refine st_v (rv_move rfl) (by decide) ?_
  refine st_gon rfl rfl ?_
  refine st_v (rv_move rfl) (by decide) ?_
  first | refine st_v (rv_pick_true rfl rfl) (by decide) ?_ | refine st_v (rv_pick_false rfl rfl) (by decide) ?_ | refine st_v (rv_pick rfl rfl rfl) (by decide) ?_
  refine st_v (rv_move rfl) (by decide) ?_
  refine st_gon rfl rfl ?_
  refine st_v (rv_move rfl) (by decide) ?_
  first | refine st_v (rv_pick_true rfl rfl) (by decide) ?_ | refine st_v (rv_pick_false rfl rfl) (by decide) ?_ | refine st_v (rv_pick rfl rfl rfl) (by decide) ?_
  refine st_v (rv_move rfl) (by decide) ?_
  refine st_gon rfl rfl ?_
  refine st_v (rv_move rfl) (by decide) ?_
  first | refine st_v (rv_pick_true rfl rfl) (by decide) ?_ | refine st_v (rv_pick_false rfl rfl) (by decide) ?_ | refine st_v (rv_pick rfl rfl rfl) (by decide) ?_
  refine st_v (rv_move rfl) (by decide) ?_
  refine st_gon rfl rfl ?_
  refine st_v (rv_move rfl) (by decide) ?_
  first | refine st_v (rv_pick_true rfl rfl) (by decide) ?_ | refine st_v (rv_pick_false rfl rfl) (by decide) ?_ | refine st_v (rv_pick rfl rfl rfl) (by decide) ?_
  refine st_v (rv_move rfl) (by decide) ?_
  refine st_gon rfl rfl ?_
  refine st_v (rv_move rfl) (by decide) ?_
  first | refine st_v (rv_pick_true rfl rfl) (by decide) ?_ | refine st_v (rv_pick_false rfl rfl) (by decide) ?_ | refine st_v (rv_pick rfl rfl rfl) (by decide) ?_
  refine st_v (rv_move rfl) (by decide) ?_
  refine st_gon rfl rfl ?_
  refine st_v (rv_move rfl) (by decide) ?_
  first | refine st_v (rv_pick_true rfl rfl) (by decide) ?_ | refine st_v (rv_pick_false rfl rfl) (by decide) ?_ | refine st_v (rv_pick rfl rfl rfl) (by decide) ?_
  refine st_v (rv_move rfl) (by decide) ?_
  refine st_gon rfl rfl ?_
  refine st_v (rv_move rfl) (by decide) ?_
  refine st_gon rfl rfl ?_
  refine st_v (rv_indexS Try.underlying37 sz9 rfl rfl (j := 0) rfl (by omega) (by first | exact (Nat.zero_add _).trans (Nat.mul_one _) | exact congrArg _ (Nat.mul_one _) | rfl)) (by decide) ?_
  refine st_gon rfl rfl ?_
  refine st_v (rv_load_blk tyS9 rfl (i := 0) rfl rfl) (by decide) ?_
  refine st_gon rfl rfl ?_
  refine st_v (rv_to (u := .bool true) (rv_eqlB (a := [49#8, 46#8, 51#8, 46#8, 54#8, 46#8, 49#8, 46#8, 53#8, 46#8, 53#8, 46#8, 55#8, 46#8, 51#8, 46#8, 49#8]) (c := [49#8, 46#8, 51#8, 46#8, 54#8, 46#8, 49#8, 46#8, 53#8, 46#8, 53#8, 46#8, 55#8, 46#8, 51#8, 46#8, 49#8]) rfl rfl) (by simp)) (by decide) ?_
  first | refine st_v (rv_pick_true rfl rfl) (by decide) ?_ | refine st_v (rv_pick_false rfl rfl) (by decide) ?_ | refine st_v (rv_pick rfl rfl rfl) (by decide) ?_
  refine st_v (rv_move rfl) (by decide) ?_
  refine st_gon rfl rfl ?_
  refine st_v (rv_move rfl) (by decide) ?_
  refine st_gon rfl rfl ?_
  refine st_v (rv_indexS Try.underlying37 sz9 rfl rfl (j := 1) rfl (by omega) (by first | exact (Nat.zero_add _).trans (Nat.mul_one _) | exact congrArg _ (Nat.mul_one _) | rfl)) (by decide) ?_
  refine st_gon rfl rfl ?_
  refine st_v (rv_load_blk tyS9 rfl (i := 0) rfl rfl) (by decide) ?_
  refine st_gon rfl rfl ?_
  refine st_v (rv_to (u := .bool true) (rv_eqlB (a := [49#8, 46#8, 51#8, 46#8, 54#8, 46#8, 49#8, 46#8, 53#8, 46#8, 53#8, 46#8, 55#8, 46#8, 51#8, 46#8, 50#8]) (c := [49#8, 46#8, 51#8, 46#8, 54#8, 46#8, 49#8, 46#8, 53#8, 46#8, 53#8, 46#8, 55#8, 46#8, 51#8, 46#8, 50#8]) rfl rfl) (by simp)) (by decide) ?_
  first | refine st_v (rv_pick_true rfl rfl) (by decide) ?_ | refine st_v (rv_pick_false rfl rfl) (by decide) ?_ | refine st_v (rv_pick rfl rfl rfl) (by decide) ?_
  refine st_v (rv_move rfl) (by decide) ?_
  refine st_gon rfl rfl ?_
  refine st_v (rv_move rfl) (by decide) ?_
  refine st_gon rfl rfl ?_
  refine st_v (rv_indexS Try.underlying37 sz9 rfl rfl (j := 2) rfl (by omega) (by first | exact (Nat.zero_add _).trans (Nat.mul_one _) | exact congrArg _ (Nat.mul_one _) | rfl)) (by decide) ?_
  refine st_gon rfl rfl ?_
  refine st_v (rv_load_blk tyS9 rfl (i := 0) rfl rfl) (by decide) ?_
  refine st_gon rfl rfl ?_
  refine st_v (rv_to (u := .bool true) (rv_eqlB (a := [50#8, 46#8, 53#8, 46#8, 50#8, 57#8, 46#8, 51#8, 55#8, 46#8, 48#8]) (c := [50#8, 46#8, 53#8, 46#8, 50#8, 57#8, 46#8, 51#8, 55#8, 46#8, 48#8]) rfl rfl) (by simp)) (by decide) ?_
  first | refine st_v (rv_pick_true rfl rfl) (by decide) ?_ | refine st_v (rv_pick_false rfl rfl) (by decide) ?_ | refine st_v (rv_pick rfl rfl rfl) (by decide) ?_
  refine st_v (rv_assign rfl) (by decide) ?_
  refine st_nil ?_
  refine st_then ?_
  refine st_ret ?_
  exact st_done rfl rfl (fun w hM => ⟨rfl, hM.sublist (List.nil_sublist _)⟩)
end Go.Proofs.Ytpihffpdkfkkhaa
