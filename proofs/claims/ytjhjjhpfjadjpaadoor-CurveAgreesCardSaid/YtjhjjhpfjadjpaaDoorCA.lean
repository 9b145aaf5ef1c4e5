/- Walks: what functions of the given program do, operation by operation. Written by wip/gen. -/
import Derived.Test.YtjhjjhpfjadjpaaDoorTy
import Derived.Test.YtjhjjhpfjadjpaaDoorMZ
namespace Go.Proofs.YtjhjjhpfjadjpaaDoor
set_option linter.all false
open Go
theorem is25 : Is25 Tryd.prog 142 := ⟨_, Tryd.func142, by kernel_rfl, rfl, by kernel_rfl, by kernel_rfl⟩
theorem is26 : Is26 Tryd.prog 143 := ⟨_, Tryd.func143, by kernel_rfl, rfl, by kernel_rfl, by kernel_rfl⟩
set_option maxRecDepth 20000 in
theorem plus_calls (a b : List (BitVec 64)) (ha : a.length = 4) (hb : b.length = 4) (w : World) : Calls Tryd.prog 129 #[.agg (c64 (a)), .agg (c64 (b))] w (fun r w' => r = .returned (.tuple #[.agg (c64 (plusS a b 4)), U64 (plusC a b 4)]) ∧ Mem (All w) w w' []) := by
  refine calls_of_st (n := 26) (args := [.agg (c64 (a)), .agg (c64 (b))]) Tryd.func129 rfl Tryd.ntmps129 (Nat.le_of_ble_eq_true rfl) (Mem.all w) ?_
  refine st_seq ?_
  refine st_region ?_
  refine st_box rfl (by decide) (cs := c64 a) rfl (fun b1 hb1 => ?_)
  refine st_box rfl (by decide) (cs := c64 b) rfl (fun b2 hb2 => ?_)
  refine st_alloc tyZ79 (by decide) (cs := c64 (List.replicate 4 0#64)) (rfl) (fun b3 hb3 => ?_)
  refine st_v (rv_assign rfl) (by decide) ?_
  refine st_nil ?_
  refine st_then ?_
  refine st_seq ?_
  refine st_seq ?_
  refine st_region ?_
  refine st_v (rv_move rfl) (by decide) ?_
  refine st_nil ?_
  refine st_then ?_
  refine st_block ?_
  refine st_loopA (σ := Nat) [(2, kst _), (3, kst _), (4, kst _), (5, fun i => U64 (plusC a b i)), (7, fun i => vI i)] [fun i => blk b3 (c64 (plusS a b i)) 79, kst _, kst _] (fun i => i ≤ 4) (fun i => 4 - i) 0 (by omega) (.cons rfl (.cons rfl (.cons rfl (.cons rfl (.cons rfl (.nil _)))))) (fun _ hM => hM) ?_
  intro i hI
  try dsimp only at hI
  dsimp only [List.map, kst]
  refine st_seq ?_
  refine st_region ?_
  refine st_v (rv_lssZ rfl rfl) (by decide) ?_
  refine st_nil ?_
  refine st_then ?_
  refine st_seq ?_
  refine st_cond rfl (fun hc8 => ?_) (fun hc8 => ?_)
  · -- t8 True
    try simp only [z1, z2, z3, z4, z5, z6, z7, z8, z9, z10, z11, z12, z13, z14] at hc8
    refine st_skip ?_
    refine st_then ?_
    refine st_seq ?_
    refine st_block ?_
    refine st_seq ?_
    refine st_region ?_
    refine st_v (rv_move rfl) (by decide) ?_
    refine st_v (rv_assign rfl) (by decide) ?_
    refine st_nil ?_
    refine st_then ?_
    refine st_drawStart mixed ?_
    refine st_drawSeg (E0 := [(2, _), (3, _), (4, _), (5, _), (6, _), (7, _)]) [13] [kpeq _, kpeq _, kpeq _, kpeq _, kpeq _, kpeq _, kpeq _, kpeq _, kpeq _, kpeq _, kpeq _, kpeq _, kpeq _, kany] (phs [13] [[kst _, kst _, kst _], [kst (blk _ _ _), kst _, kst _]]) 0 14 [0, 0, 2, 6, 0, 16, 48, 0, 254, 510, 1022, 1022, 2047, 6143, 16383] [2, 3, 4, 5, 6, 7] (by kernel_rfl) (by decide) (by decide) (by kernel_rfl) rfl rfl (phs_skip _) (.cons rfl (.cons rfl (.cons rfl (.cons rfl (.cons rfl (.cons rfl (.nil _))))))) (fun _ h => h) (hall_cons (hop_valY [] [] [] rfl rfl rfl (by decide) rfl (jnil) (xnil) (ynil) (fun p h1 h2 vals => by obtain rfl : p = 0 := Nat.le_antisymm h2 h1; exact does_v (rv_move rfl))) (hall_cons (hop_valY [] [] [] rfl rfl rfl (by decide) rfl (jnil) (xnil) (ynil) (fun p h1 h2 vals => by obtain rfl : p = 0 := Nat.le_antisymm h2 h1; exact does_v (rv_move rfl))) (hall_cons (hop_valY [(1, 12, _)] [] [] rfl rfl rfl (by decide) rfl (jcons rfl rfl rfl rfl rfl (jnil)) (xnil) (ynil) (fun p h1 h2 vals => by obtain rfl : p = 0 := Nat.le_antisymm h2 h1; exact does_v (rv_indexA Tryd.underlying79 sz77 rfl rfl rfl (by first | omega | (simp [ha, hb] <;> omega)) (by first | exact (Nat.zero_add _).trans (Nat.mul_one _) | exact congrArg _ (Nat.mul_one _) | exact Nat.zero_add _ | rfl)))) (hall_cons (hop_valY [(2, 13, _)] [] [] rfl rfl rfl (by decide) rfl (jcons rfl rfl rfl rfl rfl (jnil)) (xnil) (ynil) (fun p h1 h2 vals => by obtain rfl : p = 0 := Nat.le_antisymm h2 h1; exact does_v (rv_load_blk tyS77 rfl (i := 2) rfl (cell64 (by first | omega | (simp [ha, hb] <;> omega)))))) (hall_cons (hop_valY [] [] [] rfl rfl rfl (by decide) rfl (jnil) (xnil) (ynil) (fun p h1 h2 vals => by obtain rfl : p = 0 := Nat.le_antisymm h2 h1; exact does_v (rv_move rfl))) (hall_cons (hop_valY [(4, 15, _)] [] [] rfl rfl rfl (by decide) rfl (jcons rfl rfl rfl rfl rfl (jnil)) (xnil) (ynil) (fun p h1 h2 vals => by obtain rfl : p = 0 := Nat.le_antisymm h2 h1; exact does_v (rv_indexA Tryd.underlying79 sz77 rfl rfl rfl (by first | omega | (simp [ha, hb] <;> omega)) (by first | exact (Nat.zero_add _).trans (Nat.mul_one _) | exact congrArg _ (Nat.mul_one _) | exact Nat.zero_add _ | rfl)))) (hall_cons (hop_valY [(5, 16, _)] [] [] rfl rfl rfl (by decide) rfl (jcons rfl rfl rfl rfl rfl (jnil)) (xnil) (ynil) (fun p h1 h2 vals => by obtain rfl : p = 0 := Nat.le_antisymm h2 h1; exact does_v (rv_load_blk tyS77 rfl (i := 1) rfl (cell64 (by first | omega | (simp [ha, hb] <;> omega)))))) (hall_cons (hop_valY [] [] [] rfl rfl rfl (by decide) rfl (jnil) (xnil) (ynil) (fun p h1 h2 vals => by obtain rfl : p = 0 := Nat.le_antisymm h2 h1; exact does_v (rv_move rfl))) (hall_cons (hop_valY [(3, 14, _), (6, 17, _), (7, 18, _)] [] [] rfl rfl rfl (by decide) rfl (jcons rfl rfl rfl rfl rfl (jcons rfl rfl rfl rfl rfl (jcons rfl rfl rfl rfl rfl (jnil)))) (xnil) (ynil) (fun p h1 h2 vals => by obtain rfl : p = 0 := Nat.le_antisymm h2 h1; exact does_v (rv_ext (vs := [U64 _, U64 _, U64 _]) rfl (fun w => run_add 142 is25 _ _ _ (by first | decide | exact plusC_le _ _ _ | exact minC_le _ _ _) w)))) (hall_cons (hop_valY [(8, 19, _)] [] [] rfl rfl rfl (by decide) rfl (jcons rfl rfl rfl rfl rfl (jnil)) (xnil) (ynil) (fun p h1 h2 vals => by obtain rfl : p = 0 := Nat.le_antisymm h2 h1; exact does_v (rv_move rfl))) (hall_cons (hop_valY [(9, 10, _)] [] [] rfl rfl rfl (by decide) rfl (jcons rfl rfl rfl rfl rfl (jnil)) (xnil) (ynil) (fun p h1 h2 vals => by obtain rfl : p = 0 := Nat.le_antisymm h2 h1; exact does_v (rv_extract rfl rfl))) (hall_cons (hop_valY [(9, 10, _)] [] [] rfl rfl rfl (by decide) rfl (jcons rfl rfl rfl rfl rfl (jnil)) (xnil) (ynil) (fun p h1 h2 vals => by
    have h1 : 0 ≤ p := h1
    have h2 : p ≤ 1 := h2
    obtain rfl | rfl : p = 0 ∨ p = 1 := by omega
    all_goals exact does_v (rv_extract rfl rfl))) (hall_cons (hop_valY [(0, 11, _)] [] [] rfl rfl rfl (by decide) rfl (jcons rfl rfl rfl rfl rfl (jnil)) (xnil) (ynil) (fun p h1 h2 vals => by obtain rfl : p = 0 := Nat.le_antisymm h2 h1; exact does_v (rv_indexA Tryd.underlying79 sz77 rfl rfl rfl (by first | omega | (simp [ha, hb] <;> omega)) (by first | exact (Nat.zero_add _).trans (Nat.mul_one _) | exact congrArg _ (Nat.mul_one _) | exact Nat.zero_add _ | rfl)))) (hall_cons (hop_mem [(12, 22, _), (10, 20, _)] [] [] rfl rfl rfl (fun d h => by cases h) (⟨fun _ => rfl, ⟨fun _ => rfl, ⟨fun _ => rfl, ⟨fun _ => rfl, ⟨fun _ => rfl, ⟨fun _ => rfl, ⟨fun _ => rfl, ⟨fun _ => rfl, ⟨fun _ => rfl, ⟨fun _ => rfl, ⟨fun _ => rfl, ⟨fun _ => rfl, ⟨fun _ => rfl, ⟨fun _ => rfl, trivial⟩⟩⟩⟩⟩⟩⟩⟩⟩⟩⟩⟩⟩⟩) (jcons rfl rfl rfl rfl rfl (jcons rfl rfl rfl rfl rfl (jnil))) (xnil) (ynil) (fun vals => dm_store64 rfl rfl (i := 0) rfl sz77 (by first | omega | (simp [ha, hb] <;> omega)) (fun v u => rfl))) (hall_nil))))))))))))))) (draw_endY [(11, 21, _)] [] [] rfl (jcons rfl rfl rfl rfl rfl (jnil)) (xnil) (ynil) (fun vals => ?_))
    refine St.conv (E' := [(21, _), (2, _), (3, _), (4, _), (5, _), (6, _), (7, _)]) (l1 := [_, _, _]) rfl rfl ?_
    try dsimp only [kst]
    refine st_drawTail (N := 14) [0, 0, 2, 6, 0, 16, 48, 0, 254, 510, 1022, 1022, 2047, 6143, 16383] (by kernel_rfl) (by kernel_rfl) ?_
    refine st_v (rv_assign rfl) (by decide) ?_
    refine st_nil ?_
    refine st_in_normal ?_
    refine st_then ?_
    refine st_region ?_
    first | refine st_v (rv_addN (b := 1) rfl rfl (by first | omega | (simp; done) | (simp; omega))) (by decide) ?_ | refine st_v (rv_addZ rfl rfl (by first | omega | (simp; done) | (simp; omega))) (by decide) ?_
    refine st_v (rv_move rfl) (by decide) ?_
    refine st_nil ?_
    refine st_then ?_
    exact st_again (i + 1) (by omega) (by omega) (.cons rfl (.cons rfl (.cons rfl (.cons rfl (.cons rfl (.nil _)))))) (fun _ hM => hM)
  · -- t8 False
    try simp only [z1, z2, z3, z4, z5, z6, z7, z8, z9, z10, z11, z12, z13, z14] at hc8
    obtain rfl : i = 4 := by omega
    refine st_exit ?_
    refine st_then_exit ?_
    refine st_then_exit ?_
    refine st_in_exit ?_
    refine st_then ?_
    refine st_seq ?_
    refine st_region ?_
    refine st_v (rv_loadW_blk tyA79 rfl (i := 0) rfl (by first | omega | (simp [ha, hb]; done) | (simp [ha, hb] <;> omega))) (by decide) ?_
    refine st_v (rv_move rfl) (by decide) ?_
    refine st_storeW64 rfl rfl (i := 0) rfl sz79 (by first | omega | (simp [ha, hb]; done) | (simp [ha, hb] <;> omega)) (by first | omega | (simp [ha, hb]; done) | (simp [ha, hb] <;> omega)) (l' := [_, _, _]) rfl ?_
    refine st_v (rv_assign rfl) (by decide) ?_
    refine st_nil ?_
    refine st_then ?_
    refine st_ret ?_
    exact st_doneCT tyA79 rfl rfl (i := 0) rfl (by first | omega | (simp [ha, hb] <;> omega)) rfl (fun w hM => ⟨rfl, hM.sublist (List.nil_sublist _)⟩)
set_option maxRecDepth 20000 in
theorem minus_calls (a b : List (BitVec 64)) (ha : a.length = 4) (hb : b.length = 4) (w : World) : Calls Tryd.prog 128 #[.agg (c64 (a)), .agg (c64 (b))] w (fun r w' => r = .returned (.tuple #[.agg (c64 (minS a b 4)), U64 (minC a b 4)]) ∧ Mem (All w) w w' []) := by
  refine calls_of_st (n := 26) (args := [.agg (c64 (a)), .agg (c64 (b))]) Tryd.func128 rfl Tryd.ntmps128 (Nat.le_of_ble_eq_true rfl) (Mem.all w) ?_
  refine st_seq ?_
  refine st_region ?_
  refine st_box rfl (by decide) (cs := c64 a) rfl (fun b1 hb1 => ?_)
  refine st_box rfl (by decide) (cs := c64 b) rfl (fun b2 hb2 => ?_)
  refine st_alloc tyZ79 (by decide) (cs := c64 (List.replicate 4 0#64)) (rfl) (fun b3 hb3 => ?_)
  refine st_v (rv_assign rfl) (by decide) ?_
  refine st_nil ?_
  refine st_then ?_
  refine st_seq ?_
  refine st_seq ?_
  refine st_region ?_
  refine st_v (rv_move rfl) (by decide) ?_
  refine st_nil ?_
  refine st_then ?_
  refine st_block ?_
  refine st_loopA (σ := Nat) [(2, kst _), (3, kst _), (4, kst _), (5, fun i => U64 (minC a b i)), (7, fun i => vI i)] [fun i => blk b3 (c64 (minS a b i)) 79, kst _, kst _] (fun i => i ≤ 4) (fun i => 4 - i) 0 (by omega) (.cons rfl (.cons rfl (.cons rfl (.cons rfl (.cons rfl (.nil _)))))) (fun _ hM => hM) ?_
  intro i hI
  try dsimp only at hI
  dsimp only [List.map, kst]
  refine st_seq ?_
  refine st_region ?_
  refine st_v (rv_lssZ rfl rfl) (by decide) ?_
  refine st_nil ?_
  refine st_then ?_
  refine st_seq ?_
  refine st_cond rfl (fun hc8 => ?_) (fun hc8 => ?_)
  · -- t8 True
    try simp only [z1, z2, z3, z4, z5, z6, z7, z8, z9, z10, z11, z12, z13, z14] at hc8
    refine st_skip ?_
    refine st_then ?_
    refine st_seq ?_
    refine st_block ?_
    refine st_seq ?_
    refine st_region ?_
    refine st_v (rv_move rfl) (by decide) ?_
    refine st_v (rv_assign rfl) (by decide) ?_
    refine st_nil ?_
    refine st_then ?_
    refine st_drawStart mixed ?_
    refine st_drawSeg (E0 := [(2, _), (3, _), (4, _), (5, _), (6, _), (7, _)]) [13] [kpeq _, kpeq _, kpeq _, kpeq _, kpeq _, kpeq _, kpeq _, kpeq _, kpeq _, kpeq _, kpeq _, kpeq _, kpeq _, kany] (phs [13] [[kst _, kst _, kst _], [kst (blk _ _ _), kst _, kst _]]) 0 14 [0, 0, 2, 6, 0, 16, 48, 0, 254, 510, 1022, 1022, 2047, 6143, 16383] [2, 3, 4, 5, 6, 7] (by kernel_rfl) (by decide) (by decide) (by kernel_rfl) rfl rfl (phs_skip _) (.cons rfl (.cons rfl (.cons rfl (.cons rfl (.cons rfl (.cons rfl (.nil _))))))) (fun _ h => h) (hall_cons (hop_valY [] [] [] rfl rfl rfl (by decide) rfl (jnil) (xnil) (ynil) (fun p h1 h2 vals => by obtain rfl : p = 0 := Nat.le_antisymm h2 h1; exact does_v (rv_move rfl))) (hall_cons (hop_valY [] [] [] rfl rfl rfl (by decide) rfl (jnil) (xnil) (ynil) (fun p h1 h2 vals => by obtain rfl : p = 0 := Nat.le_antisymm h2 h1; exact does_v (rv_move rfl))) (hall_cons (hop_valY [(1, 12, _)] [] [] rfl rfl rfl (by decide) rfl (jcons rfl rfl rfl rfl rfl (jnil)) (xnil) (ynil) (fun p h1 h2 vals => by obtain rfl : p = 0 := Nat.le_antisymm h2 h1; exact does_v (rv_indexA Tryd.underlying79 sz77 rfl rfl rfl (by first | omega | (simp [ha, hb] <;> omega)) (by first | exact (Nat.zero_add _).trans (Nat.mul_one _) | exact congrArg _ (Nat.mul_one _) | exact Nat.zero_add _ | rfl)))) (hall_cons (hop_valY [(2, 13, _)] [] [] rfl rfl rfl (by decide) rfl (jcons rfl rfl rfl rfl rfl (jnil)) (xnil) (ynil) (fun p h1 h2 vals => by obtain rfl : p = 0 := Nat.le_antisymm h2 h1; exact does_v (rv_load_blk tyS77 rfl (i := 2) rfl (cell64 (by first | omega | (simp [ha, hb] <;> omega)))))) (hall_cons (hop_valY [] [] [] rfl rfl rfl (by decide) rfl (jnil) (xnil) (ynil) (fun p h1 h2 vals => by obtain rfl : p = 0 := Nat.le_antisymm h2 h1; exact does_v (rv_move rfl))) (hall_cons (hop_valY [(4, 15, _)] [] [] rfl rfl rfl (by decide) rfl (jcons rfl rfl rfl rfl rfl (jnil)) (xnil) (ynil) (fun p h1 h2 vals => by obtain rfl : p = 0 := Nat.le_antisymm h2 h1; exact does_v (rv_indexA Tryd.underlying79 sz77 rfl rfl rfl (by first | omega | (simp [ha, hb] <;> omega)) (by first | exact (Nat.zero_add _).trans (Nat.mul_one _) | exact congrArg _ (Nat.mul_one _) | exact Nat.zero_add _ | rfl)))) (hall_cons (hop_valY [(5, 16, _)] [] [] rfl rfl rfl (by decide) rfl (jcons rfl rfl rfl rfl rfl (jnil)) (xnil) (ynil) (fun p h1 h2 vals => by obtain rfl : p = 0 := Nat.le_antisymm h2 h1; exact does_v (rv_load_blk tyS77 rfl (i := 1) rfl (cell64 (by first | omega | (simp [ha, hb] <;> omega)))))) (hall_cons (hop_valY [] [] [] rfl rfl rfl (by decide) rfl (jnil) (xnil) (ynil) (fun p h1 h2 vals => by obtain rfl : p = 0 := Nat.le_antisymm h2 h1; exact does_v (rv_move rfl))) (hall_cons (hop_valY [(3, 14, _), (6, 17, _), (7, 18, _)] [] [] rfl rfl rfl (by decide) rfl (jcons rfl rfl rfl rfl rfl (jcons rfl rfl rfl rfl rfl (jcons rfl rfl rfl rfl rfl (jnil)))) (xnil) (ynil) (fun p h1 h2 vals => by obtain rfl : p = 0 := Nat.le_antisymm h2 h1; exact does_v (rv_ext (vs := [U64 _, U64 _, U64 _]) rfl (fun w => run_sub 143 is26 _ _ _ (by first | decide | exact plusC_le _ _ _ | exact minC_le _ _ _) w)))) (hall_cons (hop_valY [(8, 19, _)] [] [] rfl rfl rfl (by decide) rfl (jcons rfl rfl rfl rfl rfl (jnil)) (xnil) (ynil) (fun p h1 h2 vals => by obtain rfl : p = 0 := Nat.le_antisymm h2 h1; exact does_v (rv_move rfl))) (hall_cons (hop_valY [(9, 10, _)] [] [] rfl rfl rfl (by decide) rfl (jcons rfl rfl rfl rfl rfl (jnil)) (xnil) (ynil) (fun p h1 h2 vals => by obtain rfl : p = 0 := Nat.le_antisymm h2 h1; exact does_v (rv_extract rfl rfl))) (hall_cons (hop_valY [(9, 10, _)] [] [] rfl rfl rfl (by decide) rfl (jcons rfl rfl rfl rfl rfl (jnil)) (xnil) (ynil) (fun p h1 h2 vals => by
    have h1 : 0 ≤ p := h1
    have h2 : p ≤ 1 := h2
    obtain rfl | rfl : p = 0 ∨ p = 1 := by omega
    all_goals exact does_v (rv_extract rfl rfl))) (hall_cons (hop_valY [(0, 11, _)] [] [] rfl rfl rfl (by decide) rfl (jcons rfl rfl rfl rfl rfl (jnil)) (xnil) (ynil) (fun p h1 h2 vals => by obtain rfl : p = 0 := Nat.le_antisymm h2 h1; exact does_v (rv_indexA Tryd.underlying79 sz77 rfl rfl rfl (by first | omega | (simp [ha, hb] <;> omega)) (by first | exact (Nat.zero_add _).trans (Nat.mul_one _) | exact congrArg _ (Nat.mul_one _) | exact Nat.zero_add _ | rfl)))) (hall_cons (hop_mem [(12, 22, _), (10, 20, _)] [] [] rfl rfl rfl (fun d h => by cases h) (⟨fun _ => rfl, ⟨fun _ => rfl, ⟨fun _ => rfl, ⟨fun _ => rfl, ⟨fun _ => rfl, ⟨fun _ => rfl, ⟨fun _ => rfl, ⟨fun _ => rfl, ⟨fun _ => rfl, ⟨fun _ => rfl, ⟨fun _ => rfl, ⟨fun _ => rfl, ⟨fun _ => rfl, ⟨fun _ => rfl, trivial⟩⟩⟩⟩⟩⟩⟩⟩⟩⟩⟩⟩⟩⟩) (jcons rfl rfl rfl rfl rfl (jcons rfl rfl rfl rfl rfl (jnil))) (xnil) (ynil) (fun vals => dm_store64 rfl rfl (i := 0) rfl sz77 (by first | omega | (simp [ha, hb] <;> omega)) (fun v u => rfl))) (hall_nil))))))))))))))) (draw_endY [(11, 21, _)] [] [] rfl (jcons rfl rfl rfl rfl rfl (jnil)) (xnil) (ynil) (fun vals => ?_))
    refine St.conv (E' := [(21, _), (2, _), (3, _), (4, _), (5, _), (6, _), (7, _)]) (l1 := [_, _, _]) rfl rfl ?_
    try dsimp only [kst]
    refine st_drawTail (N := 14) [0, 0, 2, 6, 0, 16, 48, 0, 254, 510, 1022, 1022, 2047, 6143, 16383] (by kernel_rfl) (by kernel_rfl) ?_
    refine st_v (rv_assign rfl) (by decide) ?_
    refine st_nil ?_
    refine st_in_normal ?_
    refine st_then ?_
    refine st_region ?_
    first | refine st_v (rv_addN (b := 1) rfl rfl (by first | omega | (simp; done) | (simp; omega))) (by decide) ?_ | refine st_v (rv_addZ rfl rfl (by first | omega | (simp; done) | (simp; omega))) (by decide) ?_
    refine st_v (rv_move rfl) (by decide) ?_
    refine st_nil ?_
    refine st_then ?_
    exact st_again (i + 1) (by omega) (by omega) (.cons rfl (.cons rfl (.cons rfl (.cons rfl (.cons rfl (.nil _)))))) (fun _ hM => hM)
  · -- t8 False
    try simp only [z1, z2, z3, z4, z5, z6, z7, z8, z9, z10, z11, z12, z13, z14] at hc8
    obtain rfl : i = 4 := by omega
    refine st_exit ?_
    refine st_then_exit ?_
    refine st_then_exit ?_
    refine st_in_exit ?_
    refine st_then ?_
    refine st_seq ?_
    refine st_region ?_
    refine st_v (rv_loadW_blk tyA79 rfl (i := 0) rfl (by first | omega | (simp [ha, hb]; done) | (simp [ha, hb] <;> omega))) (by decide) ?_
    refine st_v (rv_move rfl) (by decide) ?_
    refine st_storeW64 rfl rfl (i := 0) rfl sz79 (by first | omega | (simp [ha, hb]; done) | (simp [ha, hb] <;> omega)) (by first | omega | (simp [ha, hb]; done) | (simp [ha, hb] <;> omega)) (l' := [_, _, _]) rfl ?_
    refine st_v (rv_assign rfl) (by decide) ?_
    refine st_nil ?_
    refine st_then ?_
    refine st_ret ?_
    exact st_doneCT tyA79 rfl rfl (i := 0) rfl (by first | omega | (simp [ha, hb] <;> omega)) rfl (fun w hM => ⟨rfl, hM.sublist (List.nil_sublist _)⟩)
set_option maxRecDepth 20000 in
theorem mul64_calls (x y : BitVec 64) (w : World) : Calls Tryd.prog 141 #[U64 x, U64 y] w (fun r w' => r = .returned (.tuple #[U64 (mulH x y), U64 (x * y)]) ∧ Mem (All w) w w' []) := by
  refine calls_of_st (n := 51) (args := [U64 x, U64 y]) Tryd.func141 rfl Tryd.ntmps141 (Nat.le_of_ble_eq_true rfl) (Mem.all w) ?_
  refine st_seq ?_
  refine st_region ?_
  refine st_v (rv_assign rfl) (by decide) ?_
  refine st_v (rv_assign rfl) (by decide) ?_
  refine st_nil ?_
  refine st_then ?_
  refine st_seq ?_
  refine st_region ?_
  refine st_v (rv_move rfl) (by decide) ?_
  refine st_v (rv_and64 (b := 4294967295#64) rfl rfl) (by decide) ?_
  refine st_v (rv_assign rfl) (by decide) ?_
  refine st_nil ?_
  refine st_then ?_
  refine st_seq ?_
  refine st_region ?_
  refine st_v (rv_move rfl) (by decide) ?_
  refine st_v (rv_shr64 (s := 32) rfl rfl rfl) (by decide) ?_
  refine st_v (rv_assign rfl) (by decide) ?_
  refine st_nil ?_
  refine st_then ?_
  refine st_seq ?_
  refine st_region ?_
  refine st_v (rv_move rfl) (by decide) ?_
  refine st_v (rv_and64 (b := 4294967295#64) rfl rfl) (by decide) ?_
  refine st_v (rv_assign rfl) (by decide) ?_
  refine st_nil ?_
  refine st_then ?_
  refine st_seq ?_
  refine st_region ?_
  refine st_v (rv_move rfl) (by decide) ?_
  refine st_v (rv_shr64 (s := 32) rfl rfl rfl) (by decide) ?_
  refine st_v (rv_assign rfl) (by decide) ?_
  refine st_nil ?_
  refine st_then ?_
  refine st_seq ?_
  refine st_region ?_
  refine st_v (rv_move rfl) (by decide) ?_
  refine st_v (rv_move rfl) (by decide) ?_
  refine st_v (rv_mul64 rfl rfl) (by decide) ?_
  refine st_v (rv_assign rfl) (by decide) ?_
  refine st_nil ?_
  refine st_then ?_
  refine st_seq ?_
  refine st_region ?_
  refine st_v (rv_move rfl) (by decide) ?_
  refine st_v (rv_move rfl) (by decide) ?_
  refine st_v (rv_mul64 rfl rfl) (by decide) ?_
  refine st_v (rv_move rfl) (by decide) ?_
  refine st_v (rv_shr64 (s := 32) rfl rfl rfl) (by decide) ?_
  refine st_v (rv_add64 rfl rfl) (by decide) ?_
  refine st_v (rv_assign rfl) (by decide) ?_
  refine st_nil ?_
  refine st_then ?_
  refine st_seq ?_
  refine st_region ?_
  refine st_v (rv_move rfl) (by decide) ?_
  refine st_v (rv_and64 (b := 4294967295#64) rfl rfl) (by decide) ?_
  refine st_v (rv_assign rfl) (by decide) ?_
  refine st_nil ?_
  refine st_then ?_
  refine st_seq ?_
  refine st_region ?_
  refine st_v (rv_move rfl) (by decide) ?_
  refine st_v (rv_shr64 (s := 32) rfl rfl rfl) (by decide) ?_
  refine st_v (rv_assign rfl) (by decide) ?_
  refine st_nil ?_
  refine st_then ?_
  refine st_seq ?_
  refine st_region ?_
  refine st_v (rv_move rfl) (by decide) ?_
  refine st_v (rv_move rfl) (by decide) ?_
  refine st_v (rv_move rfl) (by decide) ?_
  refine st_v (rv_mul64 rfl rfl) (by decide) ?_
  refine st_v (rv_add64 rfl rfl) (by decide) ?_
  refine st_v (rv_assign rfl) (by decide) ?_
  refine st_nil ?_
  refine st_then ?_
  refine st_seq ?_
  refine st_region ?_
  refine st_v (rv_move rfl) (by decide) ?_
  refine st_v (rv_move rfl) (by decide) ?_
  refine st_v (rv_mul64 rfl rfl) (by decide) ?_
  refine st_v (rv_move rfl) (by decide) ?_
  refine st_v (rv_add64 rfl rfl) (by decide) ?_
  refine st_v (rv_move rfl) (by decide) ?_
  refine st_v (rv_shr64 (s := 32) rfl rfl rfl) (by decide) ?_
  refine st_v (rv_add64 rfl rfl) (by decide) ?_
  refine st_v (rv_assign rfl) (by decide) ?_
  refine st_nil ?_
  refine st_then ?_
  refine st_seq ?_
  refine st_region ?_
  refine st_v (rv_move rfl) (by decide) ?_
  refine st_v (rv_move rfl) (by decide) ?_
  refine st_v (rv_mul64 rfl rfl) (by decide) ?_
  refine st_v (rv_assign rfl) (by decide) ?_
  refine st_nil ?_
  refine st_then ?_
  refine st_ret ?_
  exact st_done2 rfl rfl rfl (fun w hM => ⟨rfl, hM.sublist (List.nil_sublist _)⟩)
set_option maxRecDepth 20000 in
set_option maxHeartbeats 1000000 in
theorem line_calls (bt : Nat) (t n : List (BitVec 64)) (x top : BitVec 64) (ht : t.length = 6) (hn : n.length = 4) (w : World) (hT : (blk bt (c64 t) 175).holds w) : Calls Tryd.prog 126 #[pt bt 0, U64 x, .agg (c64 (n)), U64 top] w (fun e w' => e = .returned (.tuple #[U64 (adcS top (ln t n x 4).2 0#64), U64 (adcC top (ln t n x 4).2 0#64)]) ∧ Mem (Old w (fun b' => b' = bt)) w w' [blk bt (c64 (ln t n x 4).1) 175]) := by
  refine calls_of_st (n := 59) (args := [pt bt 0, U64 x, .agg (c64 (n)), U64 top]) Tryd.func126 rfl Tryd.ntmps126 (Nat.le_of_ble_eq_true rfl) (Mem.param hT) ?_
  refine st_seq ?_
  refine st_region ?_
  refine st_box rfl (by decide) (cs := c64 n) rfl (fun b1 hb1 => ?_)
  refine st_v (rv_assign rfl) (by decide) ?_
  refine st_v (rv_assign rfl) (by decide) ?_
  refine st_nil ?_
  refine st_then ?_
  refine st_seq ?_
  refine st_region ?_
  refine st_v (rv_assign rfl) (by decide) ?_
  refine st_nil ?_
  refine st_then ?_
  refine st_seq ?_
  refine st_seq ?_
  refine st_region ?_
  refine st_v (rv_loadW_blk tyA79 rfl (i := 0) rfl (by first | omega | (simp [ht, hn]; done) | (simp [ht, hn] <;> omega))) (by decide) ?_
  refine st_v (rv_move rfl) (by decide) ?_
  refine st_nil ?_
  refine st_then ?_
  refine st_block ?_
  refine st_loopA (σ := Nat) [(0, kst _), (1, kst _), (3, kst _), (10, fun i => U64 (ln t n x i).2), (16, kst _), (17, fun i => vI i)] [kst _, fun i => blk bt (c64 (ln t n x i).1) 175] (fun i => i ≤ 4) (fun i => 4 - i) 0 (by omega) (.cons rfl (.cons rfl (.cons rfl (.cons rfl (.cons rfl (.cons rfl (.nil _))))))) (fun _ hM => hM) ?_
  intro i hI
  try dsimp only at hI
  dsimp only [List.map, kst]
  refine st_seq ?_
  refine st_region ?_
  refine st_v (rv_lssZ rfl rfl) (by decide) ?_
  refine st_nil ?_
  refine st_then ?_
  refine st_seq ?_
  refine st_cond rfl (fun hc18 => ?_) (fun hc18 => ?_)
  · -- t18 True
    try simp only [z1, z2, z3, z4, z5, z6, z7, z8, z9, z10, z11, z12, z13, z14] at hc18
    refine st_skip ?_
    refine st_then ?_
    refine st_seq ?_
    refine st_block ?_
    refine st_seq ?_
    refine st_region ?_
    refine st_v (rv_move rfl) (by decide) ?_
    refine st_v (rv_indexV Tryd.underlying79 tyS77 rfl rfl rfl (by first | omega | (simp [ht, hn] <;> omega)) (cell64 (by first | omega | (simp [ht, hn] <;> omega)))) (by decide) ?_
    refine st_v (rv_assign rfl) (by decide) ?_
    refine st_v (rv_assign rfl) (by decide) ?_
    refine st_nil ?_
    refine st_then ?_
    refine st_seq ?_
    refine st_region ?_
    refine st_v (rv_move rfl) (by decide) ?_
    refine st_v (rv_move rfl) (by decide) ?_
    refine st_call0 cal141 rfl (fun w hM => (mul64_calls _ _ w)) (by decide) ?_
    refine st_v (rv_move rfl) (by decide) ?_
    refine st_v (rv_extract rfl rfl) (by decide) ?_
    refine st_v (rv_extract rfl rfl) (by decide) ?_
    refine st_v (rv_assign rfl) (by decide) ?_
    refine st_v (rv_assign rfl) (by decide) ?_
    refine st_nil ?_
    refine st_then ?_
    refine st_seq ?_
    refine st_region ?_
    refine st_v (rv_assign rfl) (by decide) ?_
    refine st_nil ?_
    refine st_then ?_
    refine st_seq ?_
    refine st_region ?_
    refine st_v (rv_move rfl) (by decide) ?_
    refine st_v (rv_move rfl) (by decide) ?_
    refine st_v (rv_ext (vs := [U64 _, U64 _, U64 0#64]) rfl (fun w => run_add 142 is25 _ _ _ (by first | decide | exact plusC_le _ _ _ | exact minC_le _ _ _) w)) (by decide) ?_
    refine st_v (rv_move rfl) (by decide) ?_
    refine st_v (rv_extract rfl rfl) (by decide) ?_
    refine st_v (rv_extract rfl rfl) (by decide) ?_
    refine st_v (rv_assign rfl) (by decide) ?_
    refine st_v (rv_assign rfl) (by decide) ?_
    refine st_nil ?_
    refine st_then ?_
    refine st_seq ?_
    refine st_region ?_
    refine st_v (rv_move rfl) (by decide) ?_
    refine st_v (rv_move rfl) (by decide) ?_
    refine st_v (rv_add64 rfl rfl) (by decide) ?_
    refine st_v (rv_assign rfl) (by decide) ?_
    refine st_nil ?_
    refine st_then ?_
    refine st_seq ?_
    refine st_drawStart mixed ?_
    refine st_drawSeg (E0 := [(0, _), (1, _), (3, _), (11, _), (13, _), (14, _), (15, _), (16, _), (17, _)]) [14] [kpeq _, kpeq _, kpeq _, kpeq _, kpeq _, kpeq _, kpeq _, kpeq _, kpeq _, kpeq _, kpeq _, kpeq _, kpeq _, kpeq _, kany] (phs [14] [[kst _, kst _], [kst _, kst (blk _ _ _)]]) 0 15 [0, 0, 0, 0, 4, 28, 60, 0, 252, 508, 1020, 1020, 1, 6143, 14335, 32767] [0, 1, 3, 11, 13, 14, 15, 16, 17] (by kernel_rfl) (by decide) (by decide) (by kernel_rfl) rfl rfl (phs_skip _) (.cons rfl (.cons rfl (.cons rfl (.cons rfl (.cons rfl (.cons rfl (.cons rfl (.cons rfl (.cons rfl (.nil _)))))))))) (fun _ h => h) (hall_cons (hop_valY [] [] [] rfl rfl rfl (by decide) rfl (jnil) (xnil) (ynil) (fun p h1 h2 vals => by obtain rfl : p = 0 := Nat.le_antisymm h2 h1; exact does_v (rv_move rfl))) (hall_cons (hop_valY [] [] [] rfl rfl rfl (by decide) rfl (jnil) (xnil) (ynil) (fun p h1 h2 vals => by obtain rfl : p = 0 := Nat.le_antisymm h2 h1; exact does_v (rv_move rfl))) (hall_cons (hop_valY [] [] [] rfl rfl rfl (by decide) rfl (jnil) (xnil) (ynil) (fun p h1 h2 vals => by obtain rfl : p = 0 := Nat.le_antisymm h2 h1; exact does_v (rv_move rfl))) (hall_cons (hop_valY [] [] [] rfl rfl rfl (by decide) rfl (jnil) (xnil) (ynil) (fun p h1 h2 vals => by obtain rfl : p = 0 := Nat.le_antisymm h2 h1; exact does_v (rv_move rfl))) (hall_cons (hop_valY [(2, 39, _)] [] [] rfl rfl rfl (by decide) rfl (jcons rfl rfl rfl rfl rfl (jnil)) (xnil) (ynil) (fun p h1 h2 vals => by obtain rfl : p = 0 := Nat.le_antisymm h2 h1; exact does_v (rv_nilCheck rfl))) (hall_cons (hop_valY [(4, 41, _), (3, 40, _)] [] [] rfl rfl rfl (by decide) rfl (jcons rfl rfl rfl rfl rfl (jcons rfl rfl rfl rfl rfl (jnil))) (xnil) (ynil) (fun p h1 h2 vals => by obtain rfl : p = 0 := Nat.le_antisymm h2 h1; exact does_v (rv_indexA Tryd.underlying175 sz77 rfl rfl rfl (by first | omega | (simp [ht, hn] <;> omega)) (by first | exact (Nat.zero_add _).trans (Nat.mul_one _) | exact congrArg _ (Nat.mul_one _) | exact Nat.zero_add _ | rfl)))) (hall_cons (hop_valY [(5, 42, _)] [] [] rfl rfl rfl (by decide) rfl (jcons rfl rfl rfl rfl rfl (jnil)) (xnil) (ynil) (fun p h1 h2 vals => by obtain rfl : p = 0 := Nat.le_antisymm h2 h1; exact does_v (rv_load_blk tyS77 rfl (i := 1) rfl (cell64 (by first | omega | (simp [ht, hn] <;> omega)))))) (hall_cons (hop_valY [] [] [] rfl rfl rfl (by decide) rfl (jnil) (xnil) (ynil) (fun p h1 h2 vals => by obtain rfl : p = 0 := Nat.le_antisymm h2 h1; exact does_v (rv_move rfl))) (hall_cons (hop_valY [(6, 43, _), (7, 44, _)] [] [] rfl rfl rfl (by decide) rfl (jcons rfl rfl rfl rfl rfl (jcons rfl rfl rfl rfl rfl (jnil))) (xnil) (ynil) (fun p h1 h2 vals => by obtain rfl : p = 0 := Nat.le_antisymm h2 h1; exact does_v (rv_ext (vs := [U64 _, U64 _, U64 0#64]) rfl (fun w => run_add 142 is25 _ _ _ (by first | decide | exact plusC_le _ _ _ | exact minC_le _ _ _) w)))) (hall_cons (hop_valY [(8, 45, _)] [] [] rfl rfl rfl (by decide) rfl (jcons rfl rfl rfl rfl rfl (jnil)) (xnil) (ynil) (fun p h1 h2 vals => by obtain rfl : p = 0 := Nat.le_antisymm h2 h1; exact does_v (rv_move rfl))) (hall_cons (hop_valY [(9, 36, _)] [] [] rfl rfl rfl (by decide) rfl (jcons rfl rfl rfl rfl rfl (jnil)) (xnil) (ynil) (fun p h1 h2 vals => by obtain rfl : p = 0 := Nat.le_antisymm h2 h1; exact does_v (rv_extract rfl rfl))) (hall_cons (hop_valY [(9, 36, _)] [] [] rfl rfl rfl (by decide) rfl (jcons rfl rfl rfl rfl rfl (jnil)) (xnil) (ynil) (fun p h1 h2 vals => by
    have h1 : 0 ≤ p := h1
    have h2 : p ≤ 1 := h2
    obtain rfl | rfl : p = 0 ∨ p = 1 := by omega
    all_goals exact does_v (rv_extract rfl rfl))) (hall_cons (hop_valY [(0, 37, _)] [] [] rfl rfl rfl (by decide) rfl (jcons rfl rfl rfl rfl rfl (jnil)) (xnil) (ynil) (fun p h1 h2 vals => by obtain rfl : p = 0 := Nat.le_antisymm h2 h1; exact does_v (rv_nilCheck rfl))) (hall_cons (hop_valY [(12, 48, _), (1, 38, _)] [] [] rfl rfl rfl (by decide) rfl (jcons rfl rfl rfl rfl rfl (jcons rfl rfl rfl rfl rfl (jnil))) (xnil) (ynil) (fun p h1 h2 vals => by obtain rfl : p = 0 := Nat.le_antisymm h2 h1; exact does_v (rv_indexA Tryd.underlying175 sz77 rfl rfl rfl (by first | omega | (simp [ht, hn] <;> omega)) (by first | exact (Nat.zero_add _).trans (Nat.mul_one _) | exact congrArg _ (Nat.mul_one _) | exact Nat.zero_add _ | rfl)))) (hall_cons (hop_mem [(13, 49, _), (10, 46, _)] [] [] rfl rfl rfl (fun d h => by cases h) (⟨fun _ => rfl, ⟨fun _ => rfl, ⟨fun _ => rfl, ⟨fun _ => rfl, ⟨fun _ => rfl, ⟨fun _ => rfl, ⟨fun _ => rfl, ⟨fun _ => rfl, ⟨fun _ => rfl, ⟨fun _ => rfl, ⟨fun _ => rfl, ⟨fun _ => rfl, ⟨fun _ => rfl, ⟨fun _ => rfl, ⟨fun _ => rfl, trivial⟩⟩⟩⟩⟩⟩⟩⟩⟩⟩⟩⟩⟩⟩⟩) (jcons rfl rfl rfl rfl rfl (jcons rfl rfl rfl rfl rfl (jnil))) (xnil) (ynil) (fun vals => dm_store64 rfl rfl (i := 1) rfl sz77 (by first | omega | (simp [ht, hn] <;> omega)) (fun v u => rfl))) (hall_nil)))))))))))))))) (draw_endY [(11, 47, _)] [] [] rfl (jcons rfl rfl rfl rfl rfl (jnil)) (xnil) (ynil) (fun vals => ?_))
    refine St.conv (E' := [(47, _), (0, _), (1, _), (3, _), (11, _), (13, _), (14, _), (15, _), (16, _), (17, _)]) (l1 := [_, _]) rfl rfl ?_
    try dsimp only [kst]
    refine st_drawTail (N := 15) [0, 0, 0, 0, 4, 28, 60, 0, 252, 508, 1020, 1020, 1, 6143, 14335, 32767] (by kernel_rfl) (by kernel_rfl) ?_
    refine st_v (rv_assign rfl) (by decide) ?_
    refine st_nil ?_
    refine st_then ?_
    refine st_region ?_
    refine st_v (rv_move rfl) (by decide) ?_
    refine st_v (rv_move rfl) (by decide) ?_
    refine st_v (rv_add64 rfl rfl) (by decide) ?_
    refine st_v (rv_assign rfl) (by decide) ?_
    refine st_nil ?_
    refine st_in_normal ?_
    refine st_then ?_
    refine st_region ?_
    first | refine st_v (rv_addN (b := 1) rfl rfl (by first | omega | (simp; done) | (simp; omega))) (by decide) ?_ | refine st_v (rv_addZ rfl rfl (by first | omega | (simp; done) | (simp; omega))) (by decide) ?_
    refine st_v (rv_move rfl) (by decide) ?_
    refine st_nil ?_
    refine st_then ?_
    exact st_again (i + 1) (by omega) (by omega) (.cons rfl (.cons rfl (.cons rfl (.cons rfl (.cons rfl (.cons rfl (.nil _))))))) (fun _ hM => hM)
  · -- t18 False
    try simp only [z1, z2, z3, z4, z5, z6, z7, z8, z9, z10, z11, z12, z13, z14] at hc18
    obtain rfl : i = 4 := by omega
    refine st_exit ?_
    refine st_then_exit ?_
    refine st_then_exit ?_
    refine st_in_exit ?_
    refine st_then ?_
    refine st_seq ?_
    refine st_region ?_
    refine st_v (rv_move rfl) (by decide) ?_
    refine st_v (rv_move rfl) (by decide) ?_
    refine st_v (rv_ext (vs := [U64 _, U64 _, U64 0#64]) rfl (fun w => run_add 142 is25 _ _ _ (by first | decide | exact plusC_le _ _ _ | exact minC_le _ _ _) w)) (by decide) ?_
    refine st_v (rv_extract rfl rfl) (by decide) ?_
    refine st_v (rv_extract rfl rfl) (by decide) ?_
    refine st_v (rv_assign rfl) (by decide) ?_
    refine st_v (rv_assign rfl) (by decide) ?_
    refine st_nil ?_
    refine st_then ?_
    refine st_ret ?_
    exact st_done2 rfl rfl rfl (fun w hM => ⟨rfl, hM.sublist (List.Sublist.cons _ (List.Sublist.cons_cons _ (List.Sublist.slnil)))⟩)
set_option maxRecDepth 20000 in
set_option maxHeartbeats 1000000 in
theorem lineTop_calls (bt : Nat) (t n : List (BitVec 64)) (x : BitVec 64) (ht : t.length = 6) (hn : n.length = 4) (w : World) (hT : (blk bt (c64 t) 175).holds w) : Calls Tryd.prog 127 #[pt bt 0, U64 x, .agg (c64 (n))] w (fun e w' => e = .returned (.tuple #[U64 (adcS (t.getD 4 0#64) (ln t n x 4).2 0#64), U64 (t.getD 5 0#64 + adcC (t.getD 4 0#64) (ln t n x 4).2 0#64)]) ∧ Mem (Old w (fun b' => b' = bt)) w w' [blk bt (c64 (ln t n x 4).1) 175]) := by
  refine calls_of_st (n := 30) (args := [pt bt 0, U64 x, .agg (c64 (n))]) Tryd.func127 rfl Tryd.ntmps127 (Nat.le_of_ble_eq_true rfl) (Mem.param hT) ?_
  refine st_seq ?_
  refine st_region ?_
  refine st_box rfl (by decide) (cs := c64 n) rfl (fun b1 hb1 => ?_)
  refine st_v (rv_assign rfl) (by decide) ?_
  refine st_v (rv_assign rfl) (by decide) ?_
  refine st_nil ?_
  refine st_then ?_
  refine st_seq ?_
  refine st_region ?_
  refine st_v (rv_move rfl) (by decide) ?_
  refine st_v (rv_nilCheck rfl) (by decide) ?_
  refine st_v (rv_indexA (k := 5) Tryd.underlying175 sz77 rfl rfl (j := 5) rfl (by decide) rfl) (by decide) ?_
  refine st_v (rv_load_blk tyS77 rfl (i := 1) rfl (cell64 (by first | omega | (simp [ht, hn] <;> omega)))) (by decide) ?_
  refine st_v (rv_assign rfl) (by decide) ?_
  refine st_nil ?_
  refine st_then ?_
  refine st_seq ?_
  refine st_drawStart mixed ?_
  refine st_drawSeg1 (E0 := [(0, _), (1, _), (5, _), (8, _)]) [kpeq _, kpeq _, kpeq _, kpeq _, kpeq _, kpeq _, kpeq _] 0 7 [0, 0, 0, 0, 8, 24, 56, 127, 255, 511, 511, 1023, 4095] [0, 1, 5, 8] (by kernel_rfl) (by decide) (by kernel_rfl) (.cons rfl (.cons rfl (.cons rfl (.cons rfl (.nil _))))) rfl rfl (hall_cons (hop_mv rfl (by decide) rfl rfl) (hall_cons (hop_mv rfl (by decide) rfl rfl) (hall_cons (hop_val [] [] rfl rfl rfl (by decide) rfl (jnil) (xnil) (fun _ _ _ _ => does_v (rv_loadW_blk tyA79 rfl (i := 0) rfl (by first | omega | (simp [ht, hn]; done) | (simp [ht, hn] <;> omega))))) (hall_cons (hop_mv rfl (by decide) rfl rfl) (hall_cons (hop_val [(3, 19, _)] [] rfl rfl rfl (by decide) rfl (jcons rfl rfl rfl rfl rfl (jnil)) (xnil) (fun _ _ _ _ => does_v (rv_nilCheck rfl))) (hall_cons (hop_val [(4, 20, _)] [] rfl rfl rfl (by decide) rfl (jcons rfl rfl rfl rfl rfl (jnil)) (xnil) (fun _ _ _ _ => does_v (rv_indexA (k := 4) Tryd.underlying175 sz77 rfl rfl (j := 4) rfl (by decide) rfl))) (hall_cons (hop_val [(5, 21, _)] [] rfl rfl rfl (by decide) rfl (jcons rfl rfl rfl rfl rfl (jnil)) (xnil) (fun _ _ _ _ => does_v (rv_load_blk tyS77 rfl (i := 1) rfl (cell64 (by first | omega | (simp [ht, hn] <;> omega)))))) (hall_nil)))))))) (draw_end1 [(0, 16, _), (1, 17, _), (2, 18, _), (6, 22, _)] (jcons rfl rfl rfl rfl rfl (jcons rfl rfl rfl rfl rfl (jcons rfl rfl rfl rfl rfl (jcons rfl rfl rfl rfl rfl (jnil))))) ?_)
  refine st_drawOp [0, 0, 0, 0, 8, 24, 56, 127, 255, 511, 511, 1023, 4095] (by kernel_rfl) rfl ?_
  refine st_callB (v := .tuple #[U64 _, U64 _]) cal126 rfl (i := 1) rfl (fun w hM => line_calls bt t n x _ ht hn w (hM.holdsAt (i := 1) rfl)) (by decide) (l' := [_, _]) rfl ?_
  refine st_nil ?_
  refine st_then ?_
  refine st_drawOp [0, 0, 0, 0, 8, 24, 56, 127, 255, 511, 511, 1023, 4095] (by kernel_rfl) rfl ?_
  refine st_v (rv_move rfl) (by decide) ?_
  refine st_nil ?_
  refine st_then ?_
  refine st_drawSeg1 (E0 := [(8, _), (15, _)]) [kany, kany, kany, kany, kany, kany, kany, kany, kany, kpeq _, kpeq _, kpeq _] 9 12 [0, 0, 0, 0, 8, 24, 56, 127, 255, 511, 511, 1023, 4095] [8, 15] (by kernel_rfl) (by decide) (by kernel_rfl) (.cons rfl (.cons rfl (.nil _))) rfl rfl (hall_skip rfl (hall_skip rfl (hall_skip rfl (hall_skip rfl (hall_skip rfl (hall_skip rfl (hall_skip rfl (hall_skip rfl (hall_skip rfl (hall_cons (hop_val [] [] rfl rfl rfl (by decide) rfl (jnil) (xnil) (fun _ _ _ _ => does_v (rv_extract rfl rfl))) (hall_cons (hop_val [] [] rfl rfl rfl (by decide) rfl (jnil) (xnil) (fun _ _ _ _ => does_v (rv_extract rfl rfl))) (hall_cons (hop_val [(9, 24, _)] [] rfl rfl rfl (by decide) rfl (jcons rfl rfl rfl rfl rfl (jnil)) (xnil) (fun _ _ _ _ => does_v (rv_assign rfl))) (hall_nil))))))))))))) (draw_end1 [(10, 25, _), (11, 9, _)] (jcons rfl rfl rfl rfl rfl (jcons rfl rfl rfl rfl rfl (jnil))) ?_)
  refine st_drawTail (N := 12) [0, 0, 0, 0, 8, 24, 56, 127, 255, 511, 511, 1023, 4095] (by kernel_rfl) (by kernel_rfl) ?_
  refine st_v (rv_assign rfl) (by decide) ?_
  refine st_nil ?_
  refine st_then ?_
  refine st_seq ?_
  refine st_region ?_
  refine st_v (rv_move rfl) (by decide) ?_
  refine st_v (rv_move rfl) (by decide) ?_
  refine st_v (rv_move rfl) (by decide) ?_
  refine st_v (rv_add64 rfl rfl) (by decide) ?_
  refine st_v (rv_assign rfl) (by decide) ?_
  refine st_v (rv_assign rfl) (by decide) ?_
  refine st_nil ?_
  refine st_then ?_
  refine st_ret ?_
  exact st_done2 rfl rfl rfl (fun w hM => ⟨rfl, hM.sublist (List.Sublist.cons _ (List.Sublist.cons_cons _ (List.Sublist.slnil)))⟩)
end Go.Proofs.YtjhjjhpfjadjpaaDoor
