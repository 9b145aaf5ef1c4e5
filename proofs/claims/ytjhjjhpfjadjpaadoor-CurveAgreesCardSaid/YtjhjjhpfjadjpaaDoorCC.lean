/- Walks: what functions of the given program do, operation by operation. Written by wip/gen. -/
import Derived.Test.YtjhjjhpfjadjpaaDoorCB
namespace Go.Proofs.YtjhjjhpfjadjpaaDoor
set_option linter.all false
open Go
set_option maxRecDepth 20000 in
theorem FromBytes_calls (v : Value) (q : List (BitVec 8)) (hq : q.length ≤ 32) (w : World) (hR : Rd w v q.length 1 (q.map U8)) : Calls Tryd.prog 118 #[v] w (fun r w' => r = .returned (.agg (c64 (w64 4 (beN q)))) ∧ Mem (All w) w w' []) := by
  refine calls_of_st (n := 32) (args := [v]) Tryd.func118 rfl Tryd.ntmps118 (Nat.le_of_ble_eq_true rfl) (Mem.all w) ?_
  refine st_seq ?_
  refine st_region ?_
  refine st_alloc tyZ79 (by decide) (cs := c64 (List.replicate 4 0#64)) (rfl) (fun b1 hb1 => ?_)
  rw [fb_start q]
  refine st_nil ?_
  refine st_then ?_
  refine st_seq ?_
  refine st_seq ?_
  refine st_region ?_
  refine st_v (rv_move rfl) (by decide) ?_
  refine st_v (rv_lenR (rd_old hR hR.all) Tryd.underlying22 rfl) (by decide) ?_
  refine st_v (rv_move rfl) (by decide) ?_
  refine st_nil ?_
  refine st_then ?_
  refine st_block ?_
  refine st_loopA (σ := Nat) [(0, kst _), (2, kst _), (6, kst _), (7, kst _), (8, fun i => vI i)] [fun i => blk b1 (c64 (w64 4 (beN (q.take i) * 256 ^ (q.length - i)))) 79] (fun i => i ≤ q.length) (fun i => q.length - i) 0 (by omega) (.cons rfl (.cons rfl (.cons rfl (.cons rfl (.cons rfl (.nil _)))))) (fun _ hM => hM) ?_
  intro i hI
  try dsimp only at hI
  dsimp only [List.map, kst]
  refine st_seq ?_
  refine st_region ?_
  refine st_v (rv_lssZ rfl rfl) (by decide) ?_
  refine st_nil ?_
  refine st_then ?_
  refine st_seq ?_
  refine st_cond rfl (fun hc9 => ?_) (fun hc9 => ?_)
  · -- t9 True
    try simp only [z1, z2, z3, z4, z5, z6, z7, z8, z9, z10, z11, z12, z13, z14] at hc9
    refine st_skip ?_
    refine st_then ?_
    refine st_seq ?_
    refine st_block ?_
    refine st_seq ?_
    refine st_region ?_
    refine st_v (rv_move rfl) (by decide) ?_
    refine st_v (rv_indexR1 (rd_old hR hR.all) Tryd.underlying22 sz5 rfl rfl rfl (by first | omega | (simp <;> omega))) (by decide) ?_
    refine st_v (rv_load_rd (rd_old hR hR.all) tyS5 rfl (get8 (by first | omega | (simp <;> omega)))) (by decide) ?_
    refine st_v (rv_assign rfl) (by decide) ?_
    refine st_v (rv_assign rfl) (by decide) ?_
    refine st_nil ?_
    refine st_then ?_
    refine st_seq ?_
    refine st_region ?_
    refine st_v (rv_move rfl) (by decide) ?_
    refine st_v (rv_lenR (rd_old hR hR.all) Tryd.underlying22 rfl) (by decide) ?_
    first | refine st_v (rv_subN (b := 1) rfl rfl (by first | omega | (simp; done) | (simp; omega))) (by decide) ?_ | refine st_v (rv_subZ rfl rfl (by first | omega | (simp; done) | (simp; omega))) (by decide) ?_
    refine st_v (rv_move rfl) (by decide) ?_
    first | refine st_v (rv_subN rfl rfl (by first | omega | (simp; done) | (simp; omega))) (by decide) ?_ | refine st_v (rv_subZ rfl rfl (by first | omega | (simp; done) | (simp; omega))) (by decide) ?_
    refine st_v (rv_assign rfl) (by decide) ?_
    refine st_nil ?_
    refine st_then ?_
    refine st_drawStart mixed ?_
    refine st_drawSeg1 (E0 := [(0, _), (2, _), (4, _), (5, _), (6, _), (7, _), (8, _)]) [kpeq _, kpeq _, kpeq _, kpeq _, kpeq _, kpeq _, kpeq _, kpeq _, kpeq _, kpeq _] 0 10 [0, 1, 3, 7, 0, 16, 0, 64, 192, 496, 1023, 2047, 4095] [0, 2, 4, 5, 6, 7, 8] (by kernel_rfl) (by decide) (by kernel_rfl) (.cons rfl (.cons rfl (.cons rfl (.cons rfl (.cons rfl (.cons rfl (.cons rfl (.nil _)))))))) rfl rfl (hall_cons (hop_mv rfl (by decide) rfl rfl) (hall_cons (hop_val [(0, 18, _)] [] rfl rfl rfl (by decide) rfl (jcons rfl rfl rfl rfl rfl (jnil)) (xnil) (fun _ _ _ _ => does_v (rv_quoN (b := 8) rfl rfl (by first | omega | (simp; done) | (simp; omega))))) (hall_cons (hop_val [(1, 19, _)] [] rfl rfl rfl (by decide) rfl (jcons rfl rfl rfl rfl rfl (jnil)) (xnil) (fun _ _ _ _ => does_v (rv_indexA Tryd.underlying79 sz77 rfl rfl rfl (by first | omega | (simp <;> omega)) (by first | exact (Nat.zero_add _).trans (Nat.mul_one _) | exact congrArg _ (Nat.mul_one _) | exact Nat.zero_add _ | rfl)))) (hall_cons (hop_val [(2, 20, _)] [] rfl rfl rfl (by decide) rfl (jcons rfl rfl rfl rfl rfl (jnil)) (xnil) (fun _ _ _ _ => does_v (rv_load_blk tyS77 rfl (i := 0) rfl (cell64 (by first | omega | (simp <;> omega)))))) (hall_cons (hop_mv rfl (by decide) rfl rfl) (hall_cons (hop_val [(4, 22, _)] [] rfl rfl rfl (by decide) rfl (jcons rfl rfl rfl rfl rfl (jnil)) (xnil) (fun _ _ _ _ => does_v (rv_conv8to64 Tryd.underlying5 Tryd.underlying77 rfl))) (hall_cons (hop_mv rfl (by decide) rfl rfl) (hall_cons (hop_val [(6, 24, _)] [] rfl rfl rfl (by decide) rfl (jcons rfl rfl rfl rfl rfl (jnil)) (xnil) (fun _ _ _ _ => does_v (rv_remN (b := 8) rfl rfl (by first | omega | (simp; done) | (simp; omega))))) (hall_cons (hop_val [(7, 25, _)] [] rfl rfl rfl (by decide) rfl (jcons rfl rfl rfl rfl rfl (jnil)) (xnil) (fun _ _ _ _ => does_v (rv_mulN (a := 8) rfl rfl (by first | omega | (simp; done) | (simp; omega))))) (hall_cons (hop_val [(5, 23, _), (8, 26, _)] [] rfl rfl rfl (by decide) rfl (jcons rfl rfl rfl rfl rfl (jcons rfl rfl rfl rfl rfl (jnil))) (xnil) (fun _ _ _ _ => does_v (rv_shl64 rfl rfl rfl))) (hall_nil))))))))))) (draw_end1 [(1, 19, _), (3, 21, _), (9, 27, _)] (jcons rfl rfl rfl rfl rfl (jcons rfl rfl rfl rfl rfl (jcons rfl rfl rfl rfl rfl (jnil)))) ?_)
    refine st_drawTail (N := 10) [0, 1, 3, 7, 0, 16, 0, 64, 192, 496, 1023, 2047, 4095] (by kernel_rfl) (by kernel_rfl) ?_
    refine st_v (rv_or64 rfl rfl) (by decide) ?_
    refine st_v (rv_indexA Tryd.underlying79 sz77 rfl rfl rfl (by first | omega | (simp <;> omega)) (by first | exact (Nat.zero_add _).trans (Nat.mul_one _) | exact congrArg _ (Nat.mul_one _) | exact Nat.zero_add _ | rfl)) (by decide) ?_
    refine st_store64 rfl rfl (i := 0) rfl sz77 (by first | omega | (simp <;> omega)) (l' := [_]) rfl ?_
    refine st_nil ?_
    refine st_in_normal ?_
    refine st_then ?_
    refine st_region ?_
    first | refine st_v (rv_addN (b := 1) rfl rfl (by first | omega | (simp; done) | (simp; omega))) (by decide) ?_ | refine st_v (rv_addZ rfl rfl (by first | omega | (simp; done) | (simp; omega))) (by decide) ?_
    refine st_v (rv_move rfl) (by decide) ?_
    refine st_nil ?_
    refine st_then ?_
    rw [fb_step hq (by omega)]
    exact st_again (i + 1) (by omega) (by omega) (.cons rfl (.cons rfl (.cons rfl (.cons rfl (.cons rfl (.nil _)))))) (fun _ hM => hM)
  · -- t9 False
    try simp only [z1, z2, z3, z4, z5, z6, z7, z8, z9, z10, z11, z12, z13, z14] at hc9
    obtain rfl : i = q.length := by omega
    refine st_exit ?_
    refine st_then_exit ?_
    refine st_then_exit ?_
    refine st_in_exit ?_
    refine st_then ?_
    refine st_seq ?_
    refine st_region ?_
    refine st_v (rv_loadW_blk tyA79 rfl (i := 0) rfl (by first | omega | (simp; done) | (simp <;> omega))) (by decide) ?_
    refine st_storeW64 rfl rfl (i := 0) rfl sz79 (by first | omega | (simp; done) | (simp <;> omega)) (by first | omega | (simp; done) | (simp <;> omega)) (l' := [_]) rfl ?_
    refine st_nil ?_
    refine st_then ?_
    refine st_ret ?_
    exact st_doneC tyA79 rfl rfl (i := 0) rfl (by first | omega | (simp <;> omega)) (fun w hM => ⟨by rw [List.take_length, Nat.sub_self, Nat.pow_zero, Nat.mul_one], hM.sublist (List.nil_sublist _)⟩)
set_option maxRecDepth 20000 in
theorem IBytes_calls (n : Nat) (w : World) : Calls Tryd.prog 93 #[.agg (c64 (w64 4 (n)))] w (fun e w' => ∃ r, e = .returned r ∧ Mem (All w) w w' [own r 5 1 32 ((beB 32 n).map U8)]) := by
  refine calls_of_st (n := 28) (args := [.agg (c64 (w64 4 (n)))]) Tryd.func93 rfl Tryd.ntmps93 (Nat.le_of_ble_eq_true rfl) (Mem.all w) ?_
  refine st_seq ?_
  refine st_region ?_
  refine st_box rfl (by decide) (cs := c64 (w64 4 n)) rfl (fun b1 hb1 => ?_)
  refine st_v (rv_assign rfl) (by decide) ?_
  refine st_nil ?_
  refine st_then ?_
  refine st_seq ?_
  refine st_region ?_
  refine st_makeO8 Tryd.underlying22 tyZ5 (len := 32) rfl rfl (by omega) (by omega) (by decide) (fun v2 => ?_)
  rw [bW_zero n]
  refine st_v (rv_assign rfl) (by decide) ?_
  refine st_nil ?_
  refine st_then ?_
  refine st_seq ?_
  refine st_seq ?_
  refine st_region ?_
  refine st_v (rv_move rfl) (by decide) ?_
  refine st_v (rv_lenR (rd_own (i := 0) rfl) Tryd.underlying22 rfl) (by decide) ?_
  refine st_v (rv_move rfl) (by decide) ?_
  refine st_nil ?_
  refine st_then ?_
  refine st_block ?_
  refine st_loopA (σ := Nat) [(1, kst _), (3, kst _), (8, kst _), (9, fun i => vI i)] [fun i => own v2 5 1 32 ((bW n i).map U8), kst _] (fun i => i ≤ 32) (fun i => 32 - i) 0 (by omega) (.cons rfl (.cons rfl (.cons rfl (.cons rfl (.nil _))))) (fun _ hM => hM) ?_
  intro i hI
  try dsimp only at hI
  dsimp only [List.map, kst]
  refine st_seq ?_
  refine st_region ?_
  refine st_v (rv_lssZ rfl rfl) (by decide) ?_
  refine st_nil ?_
  refine st_then ?_
  refine st_seq ?_
  refine st_cond rfl (fun hc10 => ?_) (fun hc10 => ?_)
  · -- t10 True
    try simp only [z1, z2, z3, z4, z5, z6, z7, z8, z9, z10, z11, z12, z13, z14] at hc10
    refine st_skip ?_
    refine st_then ?_
    refine st_seq ?_
    refine st_block ?_
    refine st_seq ?_
    refine st_region ?_
    refine st_v (rv_move rfl) (by decide) ?_
    refine st_v (rv_assign rfl) (by decide) ?_
    refine st_nil ?_
    refine st_then ?_
    refine st_seq ?_
    refine st_region ?_
    refine st_v (rv_move rfl) (by decide) ?_
    first | refine st_v (rv_subN (a := 31) rfl rfl (by first | omega | (simp; done) | (simp; omega))) (by decide) ?_ | refine st_v (rv_subZ rfl rfl (by first | omega | (simp; done) | (simp; omega))) (by decide) ?_
    refine st_v (rv_assign rfl) (by decide) ?_
    refine st_nil ?_
    refine st_then ?_
    refine st_region ?_
    refine st_v (rv_move rfl) (by decide) ?_
    refine st_v (rv_move rfl) (by decide) ?_
    refine st_v (rv_move rfl) (by decide) ?_
    refine st_v (rv_quoN (b := 8) rfl rfl (by first | omega | (simp; done) | (simp; omega))) (by decide) ?_
    refine st_v (rv_indexA Tryd.underlying79 sz77 rfl rfl rfl (by first | omega | (simp [length_bW (by omega : i ≤ 32)] <;> omega)) (by first | exact (Nat.zero_add _).trans (Nat.mul_one _) | exact congrArg _ (Nat.mul_one _) | exact Nat.zero_add _ | rfl)) (by decide) ?_
    refine st_v (rv_load_blk tyS77 rfl (i := 1) rfl (cell64 (by first | omega | (simp [length_bW (by omega : i ≤ 32)] <;> omega)))) (by decide) ?_
    refine st_v (rv_move rfl) (by decide) ?_
    refine st_v (rv_remN (b := 8) rfl rfl (by first | omega | (simp; done) | (simp; omega))) (by decide) ?_
    first | refine st_v (rv_mulN (a := 8) rfl rfl (by first | omega | (simp; done) | (simp; omega))) (by decide) ?_ | refine st_v (rv_mulZ rfl rfl (by first | omega | (simp; done) | (simp; omega))) (by decide) ?_
    refine st_v (rv_shr64 rfl rfl rfl) (by decide) ?_
    refine st_v (rv_conv64to8 Tryd.underlying77 Tryd.underlying5 rfl) (by decide) ?_
    refine st_v (rv_indexR1 (rd_own (i := 0) rfl) Tryd.underlying22 sz5 rfl rfl rfl (by first | omega | (simp [length_bW (by omega : i ≤ 32)] <;> omega))) (by decide) ?_
    refine st_storeOwn8 rfl rfl (i := 0) rfl sz5 (by first | omega | (simp [length_bW (by omega : i ≤ 32)] <;> omega)) rfl ?_
    refine st_nil ?_
    refine st_in_normal ?_
    refine st_then ?_
    refine st_region ?_
    first | refine st_v (rv_addN (b := 1) rfl rfl (by first | omega | (simp; done) | (simp; omega))) (by decide) ?_ | refine st_v (rv_addZ rfl rfl (by first | omega | (simp; done) | (simp; omega))) (by decide) ?_
    refine st_v (rv_move rfl) (by decide) ?_
    refine st_nil ?_
    refine st_then ?_
    rw [bW_step (by omega)]
    exact st_again (i + 1) (by omega) (by omega) (.cons rfl (.cons rfl (.cons rfl (.cons rfl (.nil _))))) (fun _ hM => hM)
  · -- t10 False
    try simp only [z1, z2, z3, z4, z5, z6, z7, z8, z9, z10, z11, z12, z13, z14] at hc10
    obtain rfl : i = 32 := by omega
    refine st_exit ?_
    refine st_then_exit ?_
    refine st_then_exit ?_
    refine st_in_exit ?_
    refine st_then ?_
    refine st_seq ?_
    refine st_region ?_
    refine st_v (rv_move rfl) (by decide) ?_
    refine st_v (rv_assign rfl) (by decide) ?_
    refine st_nil ?_
    refine st_then ?_
    refine st_ret ?_
    exact st_done rfl rfl (fun w hM => ⟨_, rfl, by rw [bW_all] at hM; exact hM.sublist (List.Sublist.cons_cons _ (List.Sublist.cons _ (List.Sublist.slnil)))⟩)
set_option maxRecDepth 20000 in
set_option maxHeartbeats 1000000 in
theorem Pow_calls {m : Nat} [NeZero m] (hg : Good m) (mb : Nat) (x : Fin m) (n : Nat) (hn : n < R256) (w : World) (hm : ModAt w mb m) : Calls Tryd.prog 130 #[pt mb 0, .agg (c64 (El (x))), .agg (c64 (w64 4 (n)))] w (fun r w' => r = .returned (.agg (c64 (El (x ^ n)))) ∧ Mem (All w) w w' []) := by
  have hm0 := hm
  obtain ⟨fr, hrow⟩ := hm0
  have hS : All w mb := hm.S
  refine calls_of_st (n := 27) (args := [pt mb 0, .agg (c64 (El (x))), .agg (c64 (w64 4 (n)))]) Tryd.func130 rfl Tryd.ntmps130 (Nat.le_of_ble_eq_true rfl) (Mem.all w) ?_
  refine st_seq ?_
  refine st_region ?_
  refine st_box rfl (by decide) (cs := c64 (El x)) rfl (fun b1 hb1 => ?_)
  refine st_box rfl (by decide) (cs := c64 (w64 4 n)) rfl (fun b2 hb2 => ?_)
  refine st_alloc tyZ81 (by decide) (cs := c64 (List.replicate 4 0#64)) (rfl) (fun b3 hb3 => ?_)
  refine st_nil ?_
  refine st_then ?_
  refine st_seq ?_
  refine st_region ?_
  refine st_v (rv_move rfl) (by decide) ?_
  refine st_call0 cal96 rfl (fun w hM => (One_calls hg mb w (hm.at hM))) (by decide) ?_
  rw [powE_start x hn]
  refine st_alloc tyZ81 (by decide) (cs := c64 (List.replicate 4 0#64)) (rfl) (fun b4 hb4 => ?_)
  refine st_storeW64 rfl rfl (i := 0) rfl sz81 (by first | omega | (simp; done) | (simp <;> omega)) (by first | omega | (simp; done) | (simp <;> omega)) (l' := [_, _, _, _]) rfl ?_
  refine st_nil ?_
  refine st_then ?_
  refine st_seq ?_
  refine st_seq ?_
  refine st_region ?_
  refine st_v (rv_assign rfl) (by decide) ?_
  refine st_nil ?_
  refine st_then ?_
  refine st_block ?_
  refine st_loopA (σ := Nat) [(0, kst _), (4, kst _), (5, kst _), (6, kst _), (7, kst _), (8, fun k => vI ((k : Nat) - 1 : Int))] [fun k => blk b4 (c64 (El (x ^ (n / 2 ^ k)))) 81, kst _, kst _, kst _] (fun k => k ≤ 256) (fun k => k) 256 (by omega) (.cons rfl (.cons rfl (.cons rfl (.cons rfl (.cons rfl (.cons rfl (.nil _))))))) (fun _ hM => hM) ?_
  intro k hI
  try dsimp only at hI
  dsimp only [List.map, kst]
  refine st_seq ?_
  refine st_seq ?_
  refine st_region ?_
  refine st_v (rv_move rfl) (by decide) ?_
  refine st_v (rv_geqZ rfl rfl) (by decide) ?_
  refine st_nil ?_
  refine st_then ?_
  refine st_cond rfl (fun hc12 => ?_) (fun hc12 => ?_)
  · -- t12 True
    try simp only [z1, z2, z3, z4, z5, z6, z7, z8, z9, z10, z11, z12, z13, z14] at hc12
    obtain ⟨j, rfl⟩ : ∃ j, k = j + 1 := ⟨k - 1, by omega⟩
    rw [dn_succ]
    refine st_skip ?_
    refine st_then ?_
    refine st_seq ?_
    refine st_block ?_
    refine st_seq ?_
    refine st_region ?_
    refine st_v (rv_move rfl) (by decide) ?_
    refine st_v (rv_loadW_blk tyA81 rfl (i := 0) rfl (by first | omega | (simp; done) | (simp <;> omega))) (by decide) ?_
    refine st_call0 cal100 rfl (fun w hM => (Square_calls hg mb _ w (hm.at hM))) (by decide) ?_
    refine st_storeW64 rfl rfl (i := 0) rfl sz81 (by first | omega | (simp; done) | (simp <;> omega)) (by first | omega | (simp; done) | (simp <;> omega)) (l' := [_, _, _, _]) rfl ?_
    refine st_nil ?_
    refine st_then ?_
    refine st_seq ?_
    refine st_region ?_
    refine st_v (rv_loadW_blk tyA79 rfl (i := 2) rfl (by first | omega | (simp; done) | (simp <;> omega))) (by decide) ?_
    refine st_v (rv_move rfl) (by decide) ?_
    refine st_call0 cal97 rfl (fun w hM => (Bit_calls _ j (by omega) w)) (by decide) ?_
    refine st_v (rv_eql64 (b := 1#64) rfl rfl) (by decide) ?_
    refine st_nil ?_
    refine st_then ?_
    refine st_cond rfl (fun hc21 => ?_) (fun hc21 => ?_)
    · -- t21 True
      try simp only [z1, z2, z3, z4, z5, z6, z7, z8, z9, z10, z11, z12, z13, z14] at hc21
      refine st_region ?_
      refine st_v (rv_move rfl) (by decide) ?_
      refine st_v (rv_loadW_blk tyA81 rfl (i := 0) rfl (by first | omega | (simp; done) | (simp <;> omega))) (by decide) ?_
      refine st_v (rv_loadW_blk tyA81 rfl (i := 3) rfl (by first | omega | (simp; done) | (simp <;> omega))) (by decide) ?_
      refine st_call0 cal94 rfl (fun w hM => (Mul_calls hg mb _ _ w (hm.at hM))) (by decide) ?_
      refine st_storeW64 rfl rfl (i := 0) rfl sz81 (by first | omega | (simp; done) | (simp <;> omega)) (by first | omega | (simp; done) | (simp <;> omega)) (l' := [_, _, _, _]) rfl ?_
      refine st_nil ?_
      refine st_in_normal ?_
      refine st_then ?_
      refine st_region ?_
      refine st_v (rv_move rfl) (by decide) ?_
      first | refine st_v (rv_subN (b := 1) rfl rfl (by first | omega | (simp; done) | (simp; omega))) (by decide) ?_ | refine st_v (rv_subZ rfl rfl (by first | omega | (simp; done) | (simp; omega))) (by decide) ?_
      refine st_v (rv_assign rfl) (by decide) ?_
      refine st_nil ?_
      refine st_then ?_
      exact st_again j (by omega) (by omega) (.cons rfl (.cons rfl (.cons rfl (.cons rfl (.cons rfl (.cons rfl (.nil _))))))) (by intro w hM; (first | rw [powE1 x n j (bit1 hc21)] at hM | rw [powE0 x n j (bit0 hc21)] at hM); exact hM)
    · -- t21 False
      try simp only [z1, z2, z3, z4, z5, z6, z7, z8, z9, z10, z11, z12, z13, z14] at hc21
      refine st_skip ?_
      refine st_in_normal ?_
      refine st_then ?_
      refine st_region ?_
      refine st_v (rv_move rfl) (by decide) ?_
      first | refine st_v (rv_subN (b := 1) rfl rfl (by first | omega | (simp; done) | (simp; omega))) (by decide) ?_ | refine st_v (rv_subZ rfl rfl (by first | omega | (simp; done) | (simp; omega))) (by decide) ?_
      refine st_v (rv_assign rfl) (by decide) ?_
      refine st_nil ?_
      refine st_then ?_
      exact st_again j (by omega) (by omega) (.cons rfl (.cons rfl (.cons rfl (.cons rfl (.cons rfl (.cons rfl (.nil _))))))) (by intro w hM; (first | rw [powE1 x n j (bit1 hc21)] at hM | rw [powE0 x n j (bit0 hc21)] at hM); exact hM)
  · -- t12 False
    try simp only [z1, z2, z3, z4, z5, z6, z7, z8, z9, z10, z11, z12, z13, z14] at hc12
    obtain rfl : k = 0 := by omega
    refine st_exit ?_
    refine st_then_exit ?_
    refine st_then_exit ?_
    refine st_in_exit ?_
    refine st_then ?_
    refine st_seq ?_
    refine st_region ?_
    refine st_v (rv_loadW_blk tyA81 rfl (i := 0) rfl (by first | omega | (simp; done) | (simp <;> omega))) (by decide) ?_
    refine st_storeW64 rfl rfl (i := 1) rfl sz81 (by first | omega | (simp; done) | (simp <;> omega)) (by first | omega | (simp; done) | (simp <;> omega)) (l' := [_, _, _, _]) rfl ?_
    refine st_nil ?_
    refine st_then ?_
    refine st_ret ?_
    exact st_doneC tyA81 rfl rfl (i := 1) rfl (by first | omega | (simp <;> omega)) (fun w hM => ⟨by rw [Nat.pow_zero, Nat.div_one], hM.sublist (List.nil_sublist _)⟩)
set_option maxRecDepth 20000 in
theorem Inv_calls {m : Nat} [NeZero m] (hg : Good m) (mb : Nat) (x : Fin m) (w : World) (hm : ModAt w mb m) : Calls Tryd.prog 101 #[pt mb 0, .agg (c64 (El (x)))] w (fun r w' => r = .returned (.agg (c64 (El (finv x)))) ∧ Mem (All w) w w' []) := by
  have hm0 := hm
  obtain ⟨fr, hrow⟩ := hm0
  have hS : All w mb := hm.S
  have hlt : m - 2 < R256 := by have := hg.r256; omega
  refine calls_of_st (n := 20) (args := [pt mb 0, .agg (c64 (El (x)))]) Tryd.func101 rfl Tryd.ntmps101 (Nat.le_of_ble_eq_true rfl) (Mem.all w) ?_
  refine st_seq ?_
  refine st_region ?_
  refine st_box rfl (by decide) (cs := c64 (El x)) rfl (fun b1 hb1 => ?_)
  refine st_alloc tyZ81 (by decide) (cs := c64 (List.replicate 4 0#64)) (rfl) (fun b2 hb2 => ?_)
  refine st_nil ?_
  refine st_then ?_
  refine st_seq ?_
  refine st_region ?_
  refine st_v (rv_move rfl) (by decide) ?_
  refine st_v (rv_nilCheck rfl) (by decide) ?_
  refine st_v (rv_fieldAddr (k := 0) Tryd.underlying142 (fs := _) rfl sz79 rfl rfl) (by decide) ?_
  refine st_v (rv_loadA_old tyA79 rfl hrow hS (by first | omega | (simp; done) | (simp <;> omega)) (ext64 _ _ _)) (by decide) ?_
  rw [modW_m]
  refine st_v (rv_buildArray_of Tryd.underlying79 tyZ79 sz77 rfl (cs := c64 [2#64, 0#64, 0#64, 0#64]) (by rfl)) (by decide) ?_
  refine st_call0 cal128 rfl (fun w hM => (minus_calls _ _ (by simp) (by simp) w)) (by decide) ?_
  rw [min_two hg]
  refine st_v (rv_move rfl) (by decide) ?_
  refine st_v (rv_extract rfl rfl) (by decide) ?_
  refine st_v (rv_extract rfl rfl) (by decide) ?_
  refine st_alloc tyZ79 (by decide) (cs := c64 (List.replicate 4 0#64)) (rfl) (fun b3 hb3 => ?_)
  refine st_storeW64 rfl rfl (i := 0) rfl sz79 (by first | omega | (simp; done) | (simp <;> omega)) (by first | omega | (simp; done) | (simp <;> omega)) (l' := [_, _, _]) rfl ?_
  refine st_v (rv_assign rfl) (by decide) ?_
  refine st_nil ?_
  refine st_then ?_
  refine st_seq ?_
  refine st_region ?_
  refine st_v (rv_move rfl) (by decide) ?_
  refine st_v (rv_loadW_blk tyA81 rfl (i := 2) rfl (by first | omega | (simp; done) | (simp <;> omega))) (by decide) ?_
  refine st_v (rv_loadW_blk tyA79 rfl (i := 0) rfl (by first | omega | (simp; done) | (simp <;> omega))) (by decide) ?_
  refine st_call0 cal130 rfl (fun w hM => (Pow_calls hg mb x (m - 2) hlt w (hm.at hM))) (by decide) ?_
  refine st_storeW64 rfl rfl (i := 1) rfl sz81 (by first | omega | (simp; done) | (simp <;> omega)) (by first | omega | (simp; done) | (simp <;> omega)) (l' := [_, _, _]) rfl ?_
  refine st_nil ?_
  refine st_then ?_
  refine st_ret ?_
  exact st_doneC tyA81 rfl rfl (i := 1) rfl (by first | omega | (simp <;> omega)) (fun w hM => ⟨rfl, hM.sublist (List.nil_sublist _)⟩)
set_option maxRecDepth 20000 in
set_option maxHeartbeats 1000000 in
theorem fold_calls {m : Nat} [NeZero m] (hg : Good m) (mb : Nat) (v : Value) (q : List (BitVec 8)) (hq : q.length ≤ 32) (w : World) (hm : ModAt w mb m) (hR : Rd w v q.length 1 (q.map U8)) : Calls Tryd.prog 102 #[pt mb 0, v] w (fun r w' => r = .returned (.agg (c64 (El (Fin.ofNat m (beN q))))) ∧ Mem (All w) w w' []) := by
  have hm0 := hm
  obtain ⟨fr, hrow⟩ := hm0
  have hS : All w mb := hm.S
  have hlt : beN q < R256 := Nat.lt_of_lt_of_le (beN_lt q) (Nat.le_trans (Nat.pow_le_pow_right (by decide) hq) (by decide))
  refine calls_of_st (n := 39) (args := [pt mb 0, v]) Tryd.func102 rfl Tryd.ntmps102 (Nat.le_of_ble_eq_true rfl) (Mem.all w) ?_
  refine st_seq ?_
  refine st_region ?_
  refine st_alloc tyZ81 (by decide) (cs := c64 (List.replicate 4 0#64)) (rfl) (fun b1 hb1 => ?_)
  refine st_nil ?_
  refine st_then ?_
  refine st_seq ?_
  refine st_region ?_
  refine st_v (rv_move rfl) (by decide) ?_
  refine st_call0 cal118 rfl (fun w hM => (FromBytes_calls _ q hq w ((rd_old hR hR.all) w hM))) (by decide) ?_
  refine st_alloc tyZ79 (by decide) (cs := c64 (List.replicate 4 0#64)) (rfl) (fun b2 hb2 => ?_)
  refine st_storeW64 rfl rfl (i := 0) rfl sz79 (by first | omega | (simp; done) | (simp <;> omega)) (by first | omega | (simp; done) | (simp <;> omega)) (l' := [_, _]) rfl ?_
  refine st_nil ?_
  refine st_then ?_
  refine st_seq ?_
  refine st_seq ?_
  refine st_drawStart mixed ?_
  refine st_drawSeg1 (E0 := [(0, _), (4, _), (5, _)]) [kpeq _, kpeq _, kpeq _, kpeq _, kpeq _] 0 5 [0, 0, 2, 6, 14, 31] [0, 4, 5] (by kernel_rfl) (by decide) (by kernel_rfl) (.cons rfl (.cons rfl (.cons rfl (.nil _)))) rfl rfl (hall_cons (hop_val [] [] rfl rfl rfl (by decide) rfl (jnil) (xnil) (fun _ _ _ _ => does_v (rv_loadW_blk tyA79 rfl (i := 0) rfl (by first | omega | (simp; done) | (simp <;> omega))))) (hall_cons (hop_mv rfl (by decide) rfl rfl) (hall_cons (hop_val [(1, 12, _)] [] rfl rfl rfl (by decide) rfl (jcons rfl rfl rfl rfl rfl (jnil)) (xnil) (fun _ _ _ _ => does_v (rv_nilCheck rfl))) (hall_cons (hop_val [(2, 13, _)] [] rfl rfl rfl (by decide) rfl (jcons rfl rfl rfl rfl rfl (jnil)) (xnil) (fun _ _ _ _ => does_v (rv_fieldAddr (k := 0) Tryd.underlying142 (fs := _) rfl sz79 rfl rfl))) (hall_cons (hop_val [(3, 14, _)] [] rfl rfl rfl (by decide) rfl (jcons rfl rfl rfl rfl rfl (jnil)) (xnil) (fun _ _ _ _ => does_v (rv_loadA_old tyA79 rfl hrow hS (by first | omega | (simp; done) | (simp <;> omega)) (ext64 _ _ _)))) (hall_nil)))))) (draw_end1 [(0, 11, _), (4, 15, _)] (jcons rfl rfl rfl rfl rfl (jcons rfl rfl rfl rfl rfl (jnil))) ?_)
  refine st_drawTail (N := 5) [0, 0, 2, 6, 14, 31] (by kernel_rfl) (by kernel_rfl) ?_
  refine st_call0 cal116 rfl (fun w hM => (by have := Less_calls (w64 4 (beN q)) (w64 4 m) (by simp) (by simp) w; rwa [nw4 hlt, nw_m hg] at this)) (by decide) ?_
  refine st_nil ?_
  refine st_then ?_
  refine st_cond rfl (fun hc16 => ?_) (fun hc16 => ?_)
  · -- t16 True
    try simp only [z1, z2, z3, z4, z5, z6, z7, z8, z9, z10, z11, z12, z13, z14] at hc16
    refine st_seq ?_
    refine st_region ?_
    refine st_v (rv_move rfl) (by decide) ?_
    refine st_v (rv_loadW_blk tyA79 rfl (i := 0) rfl (by first | omega | (simp; done) | (simp <;> omega))) (by decide) ?_
    refine st_call0 cal56 rfl (fun w hM => (To_calls hg mb (beN q) hc16 w (hm.at hM))) (by decide) ?_
    refine st_storeW64 rfl rfl (i := 1) rfl sz81 (by first | omega | (simp; done) | (simp <;> omega)) (by first | omega | (simp; done) | (simp <;> omega)) (l' := [_, _]) rfl ?_
    refine st_nil ?_
    refine st_then ?_
    refine st_ret ?_
    refine st_then_ret ?_
    exact st_doneC tyA81 rfl rfl (i := 1) rfl (by first | omega | (simp <;> omega)) (fun w hM => ⟨by first | (rw [Nat.pow_zero, Nat.div_one]; done) | rfl, hM.sublist (List.nil_sublist _)⟩)
  · -- t16 False
    try simp only [z1, z2, z3, z4, z5, z6, z7, z8, z9, z10, z11, z12, z13, z14] at hc16
    refine st_skip ?_
    refine st_then ?_
    refine st_seq ?_
    refine st_region ?_
    refine st_alloc tyZ81 (by decide) (cs := c64 (List.replicate 4 0#64)) (rfl) (fun b3 hb3 => ?_)
    rw [dblE_start (m := m) hlt]
    refine st_nil ?_
    refine st_then ?_
    refine st_seq ?_
    refine st_region ?_
    refine st_v (rv_move rfl) (by decide) ?_
    refine st_call0 cal96 rfl (fun w hM => (One_calls hg mb w (hm.at hM))) (by decide) ?_
    refine st_alloc tyZ81 (by decide) (cs := c64 (List.replicate 4 0#64)) (rfl) (fun b4 hb4 => ?_)
    refine st_storeW64 rfl rfl (i := 0) rfl sz81 (by first | omega | (simp; done) | (simp <;> omega)) (by first | omega | (simp; done) | (simp <;> omega)) (l' := [_, _, _, _]) rfl ?_
    refine st_nil ?_
    refine st_then ?_
    refine st_seq ?_
    refine st_seq ?_
    refine st_region ?_
    refine st_v (rv_assign rfl) (by decide) ?_
    refine st_nil ?_
    refine st_then ?_
    refine st_block ?_
    refine st_loopA (σ := Nat) [(0, kst _), (4, kst _), (5, kst _), (6, kst _), (7, kst _), (8, fun k => vI ((k : Nat) - 1 : Int))] [kst _, fun k => blk b3 (c64 (El (Fin.ofNat m (beN q / 2 ^ k)))) 81, kst _, kst _] (fun k => k ≤ 256) (fun k => k) 256 (by omega) (.cons rfl (.cons rfl (.cons rfl (.cons rfl (.cons rfl (.cons rfl (.nil _))))))) (fun _ hM => hM) ?_
    intro k hI
    try dsimp only at hI
    dsimp only [List.map, kst]
    refine st_seq ?_
    refine st_seq ?_
    refine st_region ?_
    refine st_v (rv_move rfl) (by decide) ?_
    refine st_v (rv_geqZ rfl rfl) (by decide) ?_
    refine st_nil ?_
    refine st_then ?_
    refine st_cond rfl (fun hc23 => ?_) (fun hc23 => ?_)
    · -- t23 True
      try simp only [z1, z2, z3, z4, z5, z6, z7, z8, z9, z10, z11, z12, z13, z14] at hc23
      obtain ⟨j, rfl⟩ : ∃ j, k = j + 1 := ⟨k - 1, by omega⟩
      rw [dn_succ]
      refine st_skip ?_
      refine st_then ?_
      refine st_seq ?_
      refine st_block ?_
      refine st_seq ?_
      refine st_region ?_
      refine st_v (rv_move rfl) (by decide) ?_
      refine st_v (rv_loadW_blk tyA81 rfl (i := 1) rfl (by first | omega | (simp; done) | (simp <;> omega))) (by decide) ?_
      refine st_v (rv_loadW_blk tyA81 rfl (i := 1) rfl (by first | omega | (simp; done) | (simp <;> omega))) (by decide) ?_
      refine st_call0 cal98 rfl (fun w hM => (Add_calls hg mb _ _ w (hm.at hM))) (by decide) ?_
      refine st_storeW64 rfl rfl (i := 1) rfl sz81 (by first | omega | (simp; done) | (simp <;> omega)) (by first | omega | (simp; done) | (simp <;> omega)) (l' := [_, _, _, _]) rfl ?_
      refine st_nil ?_
      refine st_then ?_
      refine st_seq ?_
      refine st_region ?_
      refine st_v (rv_loadW_blk tyA79 rfl (i := 2) rfl (by first | omega | (simp; done) | (simp <;> omega))) (by decide) ?_
      refine st_v (rv_move rfl) (by decide) ?_
      refine st_call0 cal97 rfl (fun w hM => (Bit_calls _ j (by omega) w)) (by decide) ?_
      refine st_v (rv_eql64 (b := 1#64) rfl rfl) (by decide) ?_
      refine st_nil ?_
      refine st_then ?_
      refine st_cond rfl (fun hc33 => ?_) (fun hc33 => ?_)
      · -- t33 True
        try simp only [z1, z2, z3, z4, z5, z6, z7, z8, z9, z10, z11, z12, z13, z14] at hc33
        refine st_region ?_
        refine st_v (rv_move rfl) (by decide) ?_
        refine st_v (rv_loadW_blk tyA81 rfl (i := 1) rfl (by first | omega | (simp; done) | (simp <;> omega))) (by decide) ?_
        refine st_v (rv_loadW_blk tyA81 rfl (i := 0) rfl (by first | omega | (simp; done) | (simp <;> omega))) (by decide) ?_
        refine st_call0 cal98 rfl (fun w hM => (Add_calls hg mb _ _ w (hm.at hM))) (by decide) ?_
        refine st_storeW64 rfl rfl (i := 1) rfl sz81 (by first | omega | (simp; done) | (simp <;> omega)) (by first | omega | (simp; done) | (simp <;> omega)) (l' := [_, _, _, _]) rfl ?_
        refine st_nil ?_
        refine st_in_normal ?_
        refine st_then ?_
        refine st_region ?_
        refine st_v (rv_move rfl) (by decide) ?_
        first | refine st_v (rv_subN (b := 1) rfl rfl (by first | omega | (simp; done) | (simp; omega))) (by decide) ?_ | refine st_v (rv_subZ rfl rfl (by first | omega | (simp; done) | (simp; omega))) (by decide) ?_
        refine st_v (rv_assign rfl) (by decide) ?_
        refine st_nil ?_
        refine st_then ?_
        exact st_again j (by omega) (by omega) (.cons rfl (.cons rfl (.cons rfl (.cons rfl (.cons rfl (.cons rfl (.nil _))))))) (by intro w hM; (first | rw [dblE1 _ j (bit1 hc33)] at hM | rw [dblE0 _ j (bit0 hc33)] at hM); exact hM)
      · -- t33 False
        try simp only [z1, z2, z3, z4, z5, z6, z7, z8, z9, z10, z11, z12, z13, z14] at hc33
        refine st_skip ?_
        refine st_in_normal ?_
        refine st_then ?_
        refine st_region ?_
        refine st_v (rv_move rfl) (by decide) ?_
        first | refine st_v (rv_subN (b := 1) rfl rfl (by first | omega | (simp; done) | (simp; omega))) (by decide) ?_ | refine st_v (rv_subZ rfl rfl (by first | omega | (simp; done) | (simp; omega))) (by decide) ?_
        refine st_v (rv_assign rfl) (by decide) ?_
        refine st_nil ?_
        refine st_then ?_
        exact st_again j (by omega) (by omega) (.cons rfl (.cons rfl (.cons rfl (.cons rfl (.cons rfl (.cons rfl (.nil _))))))) (by intro w hM; (first | rw [dblE1 _ j (bit1 hc33)] at hM | rw [dblE0 _ j (bit0 hc33)] at hM); exact hM)
    · -- t23 False
      try simp only [z1, z2, z3, z4, z5, z6, z7, z8, z9, z10, z11, z12, z13, z14] at hc23
      obtain rfl : k = 0 := by omega
      refine st_exit ?_
      refine st_then_exit ?_
      refine st_then_exit ?_
      refine st_in_exit ?_
      refine st_then ?_
      refine st_seq ?_
      refine st_region ?_
      refine st_v (rv_loadW_blk tyA81 rfl (i := 1) rfl (by first | omega | (simp; done) | (simp <;> omega))) (by decide) ?_
      refine st_storeW64 rfl rfl (i := 3) rfl sz81 (by first | omega | (simp; done) | (simp <;> omega)) (by first | omega | (simp; done) | (simp <;> omega)) (l' := [_, _, _, _]) rfl ?_
      refine st_nil ?_
      refine st_then ?_
      refine st_ret ?_
      exact st_doneC tyA81 rfl rfl (i := 3) rfl (by first | omega | (simp <;> omega)) (fun w hM => ⟨by first | (rw [Nat.pow_zero, Nat.div_one]; done) | rfl, hM.sublist (List.nil_sublist _)⟩)
theorem Rd.step32 {w : World} {u : Value} {q : List (BitVec 8)} {c k : Nat} (h : Rd w u (32 * (c - k)) 1 ((q.drop (32 * k)).map U8)) (hk : k < c) : Rd w (vsub u 32 (32 * (c - k)) 1) (32 * (c - (k + 1))) 1 ((q.drop (32 * (k + 1))).map U8) := by
  have := h.part8 (lo := 32) (hi := 32 * (c - k)) (by omega) (by omega)
  rw [List.drop_drop, show 32 * k + 32 = 32 * (k + 1) by omega, List.take_of_length_le] at this
  · exact this.n_eq (by omega)
  · have hn := h.len; simp at hn ⊢; omega
theorem Rd.head32 {w : World} {u : Value} {q : List (BitVec 8)} {c k : Nat} (h : Rd w u (32 * (c - k)) 1 ((q.drop (32 * k)).map U8)) (hk : k < c) : Rd w (vsub u 0 32 1) ((q.drop (32 * k)).take 32).length 1 (((q.drop (32 * k)).take 32).map U8) := by
  have := h.part8 (lo := 0) (hi := 32) (by omega) (by omega)
  refine this.n_eq ?_
  have hn := h.len; simp at hn ⊢; omega
theorem red_step {m : Nat} [NeZero m] {q : List (BitVec 8)} {c k : Nat} (hq : q.length = 32 * c) (hk : k < c) : El (Fin.ofNat m (beN (q.take (32 * k))) * Fin.ofNat m R256 + Fin.ofNat m (beN ((q.drop (32 * k)).take 32))) = El (Fin.ofNat m (beN (q.take (32 * (k + 1))))) := by
  have e : q.take (32 * (k + 1)) = q.take (32 * k) ++ (q.drop (32 * k)).take 32 := by rw [show 32 * (k + 1) = 32 * k + 32 by omega, List.take_add]
  have l : ((q.drop (32 * k)).take 32).length = 32 := by simp; omega
  rw [e, beN_append, l, ofNat_add', ofNat_mul']
theorem El_sq {m : Nat} [NeZero m] (hg : Good m) : w64 4 (R256 * R256 % m) = El (Fin.ofNat m R256) := by
  rw [El]; show _ = w64 4 (R256 * (R256 % m) % m); rw [Nat.mul_mod_mod]
set_option maxRecDepth 20000 in
set_option maxHeartbeats 1000000 in
theorem Reduce_calls {m : Nat} [NeZero m] (hg : Good m) (mb : Nat) (c : Nat) (hc : c ≤ 1000) (v : Value) (q : List (BitVec 8)) (hq : q.length = 32 * c) (w : World) (hm : ModAt w mb m) (hR : Rd w v (32 * c) 1 (q.map U8)) : Calls Tryd.prog 57 #[pt mb 0, v] w (fun r w' => r = .returned (.agg (c64 (w64 4 (beN q % m)))) ∧ Mem (All w) w w' []) := by
  have hm0 := hm
  obtain ⟨fr, hrow⟩ := hm0
  have hS : All w mb := hm.S
  refine calls_of_st (n := 43) (args := [pt mb 0, v]) Tryd.func57 rfl Tryd.ntmps57 (Nat.le_of_ble_eq_true rfl) (Mem.all w) ?_
  refine st_seq ?_
  refine st_region ?_
  refine st_alloc tyZ79 (by decide) (cs := c64 (List.replicate 4 0#64)) (rfl) (fun b1 hb1 => ?_)
  refine st_nil ?_
  refine st_then ?_
  refine st_seq ?_
  refine st_region ?_
  refine st_alloc tyZ81 (by decide) (cs := c64 (List.replicate 4 0#64)) (rfl) (fun b2 hb2 => ?_)
  rw [El_zero4 (m := m)]
  refine st_nil ?_
  refine st_then ?_
  refine st_seq ?_
  refine st_block ?_
  refine st_loopA (σ := Unit) [(0, kst _), (1, kst _), (4, kst _), (5, kst _)] [kst _, kst _] (fun _u => True) (fun _u => 0) () (trivial) (.cons rfl (.cons rfl (.cons rfl (.cons rfl (.nil _))))) (fun _ hM => hM) ?_
  intro _u hI
  try dsimp only at hI
  dsimp only [List.map, kst]
  refine st_seq ?_
  refine st_seq ?_
  refine st_region ?_
  refine st_v (rv_move rfl) (by decide) ?_
  refine st_v (rv_lenR (rd_old hR hR.all) Tryd.underlying22 rfl) (by decide) ?_
  refine st_v (rv_remN (b := 32) rfl rfl (by first | omega | (simp; done) | (simp; omega))) (by decide) ?_
  refine st_v (rv_neqZ rfl rfl) (by decide) ?_
  refine st_nil ?_
  refine st_then ?_
  refine st_cond rfl (fun hc10 => ?_) (fun hc10 => ?_)
  · -- t10 True
    try simp only [z1, z2, z3, z4, z5, z6, z7, z8, z9, z10, z11, z12, z13, z14] at hc10
    exact absurd (by omega : ((32 * c) % 32 : Nat) = 0) (fun e => hc10 (by rw [e]; rfl))
  · -- t10 False
    try simp only [z1, z2, z3, z4, z5, z6, z7, z8, z9, z10, z11, z12, z13, z14] at hc10
    refine st_exit ?_
    refine st_then_exit ?_
    refine st_then_exit ?_
    refine st_in_exit ?_
    refine st_then ?_
    refine st_seq ?_
    refine st_block ?_
    refine st_loopA (σ := Nat × Value) [(0, kst _), (1, fun (k, u) => u), (4, kst _), (5, kst _)] [fun (k, u) => blk b2 (c64 (El (Fin.ofNat m (beN (q.take (32 * k)))))) 81, kst _] (fun (k, u) => k ≤ c ∧ Rd w u (32 * (c - k)) 1 ((q.drop (32 * k)).map U8) ∧ ∀ b, vfoot u b → All w b) (fun (k, u) => c - k) (0, v) (⟨by omega, by simpa using hR, hR.all⟩) (.cons rfl (.cons rfl (.cons rfl (.cons rfl (.nil _))))) (fun _ hM => hM) ?_
    intro ⟨k, u⟩ hI
    try dsimp only at hI
    dsimp only [List.map, kst]
    refine st_seq ?_
    refine st_seq ?_
    refine st_region ?_
    refine st_v (rv_move rfl) (by decide) ?_
    refine st_v (rv_lenR (rd_old hI.2.1 hI.2.2) Tryd.underlying22 rfl) (by decide) ?_
    refine st_v (rv_gtrZ rfl rfl) (by decide) ?_
    refine st_nil ?_
    refine st_then ?_
    refine st_cond rfl (fun hc24 => ?_) (fun hc24 => ?_)
    · -- t24 True
      try simp only [z1, z2, z3, z4, z5, z6, z7, z8, z9, z10, z11, z12, z13, z14] at hc24
      refine st_skip ?_
      refine st_then ?_
      refine st_seq ?_
      refine st_block ?_
      refine st_drawStart mixed ?_
      refine st_drawSeg1 (E0 := [(0, _), (1, _), (4, _), (5, _)]) [kpeq _, kpeq _, kpeq _, kpeq _, kpeq _, kpeq _, kpeq _, kpeq _, kpeq _, kpeq _, kpeq _, kpeq _] 0 12 [0, 0, 0, 0, 8, 24, 56, 126, 0, 0, 512, 2046, 4095, 8191] [0, 1, 4, 5] (by kernel_rfl) (by decide) (by kernel_rfl) (.cons rfl (.cons rfl (.cons rfl (.cons rfl (.nil _))))) rfl rfl (hall_cons (hop_mv rfl (by decide) rfl rfl) (hall_cons (hop_mv rfl (by decide) rfl rfl) (hall_cons (hop_val [] [] rfl rfl rfl (by decide) rfl (jnil) (xnil) (fun _ _ _ _ => does_v (rv_loadW_blk tyA81 rfl (i := 0) rfl (by first | omega | (simp; done) | (simp <;> omega))))) (hall_cons (hop_mv rfl (by decide) rfl rfl) (hall_cons (hop_val [(3, 30, _)] [] rfl rfl rfl (by decide) rfl (jcons rfl rfl rfl rfl rfl (jnil)) (xnil) (fun _ _ _ _ => does_v (rv_nilCheck rfl))) (hall_cons (hop_val [(4, 31, _)] [] rfl rfl rfl (by decide) rfl (jcons rfl rfl rfl rfl rfl (jnil)) (xnil) (fun _ _ _ _ => does_v (rv_fieldAddr (k := 9) Tryd.underlying142 (fs := _) rfl sz79 rfl rfl))) (hall_cons (hop_val [(5, 32, _)] [] rfl rfl rfl (by decide) rfl (jcons rfl rfl rfl rfl rfl (jnil)) (xnil) (fun _ _ _ _ => does_v (rv_loadA_old tyA79 rfl hrow hS (by first | omega | (simp; done) | (simp <;> omega)) (ext64 _ _ _)))) (hall_cons (hop_val [(1, 28, _), (2, 29, _), (6, 33, _)] [] rfl rfl rfl (by decide) rfl (jcons rfl rfl rfl rfl rfl (jcons rfl rfl rfl rfl rfl (jcons rfl rfl rfl rfl rfl (jnil)))) (xnil) (fun _ _ _ _ => does_call0 cal94 rfl (fun w hM => (by have := Mul_calls hg mb (Fin.ofNat m (beN (q.take (32 * k)))) (Fin.ofNat m R256) w (hm.at hM); rwa [← El_sq hg] at this)))) (hall_cons (hop_mv rfl (by decide) rfl rfl) (hall_cons (hop_mv rfl (by decide) rfl rfl) (hall_cons (hop_val [(9, 36, _)] [] rfl rfl rfl (by decide) rfl (jcons rfl rfl rfl rfl rfl (jnil)) (xnil) (fun _ _ _ _ => does_v (rv_sliceR (rd_old hI.2.1 hI.2.2) Tryd.underlying22 sz5 rfl evB_none (evB_some (k := 32) rfl rfl) (by first | omega | (simp <;> omega)) (by first | omega | (simp <;> omega))))) (hall_cons (hop_val [(8, 35, _), (10, 37, _)] [] rfl rfl rfl (by decide) rfl (jcons rfl rfl rfl rfl rfl (jcons rfl rfl rfl rfl rfl (jnil))) (xnil) (fun _ _ _ _ => does_call0 cal102 rfl (fun w hM => (fold_calls hg mb _ ((q.drop (32 * k)).take 32) (by simp; omega) w (hm.at hM) ((Rd.head32 hI.2.1 (by omega)).same fun b hb => hM.old b (hI.2.2 b (vfoot_cut hb))))))) (hall_nil))))))))))))) (draw_end1 [(0, 27, _), (7, 34, _), (11, 38, _)] (jcons rfl rfl rfl rfl rfl (jcons rfl rfl rfl rfl rfl (jcons rfl rfl rfl rfl rfl (jnil)))) ?_)
      refine st_drawTail (N := 12) [0, 0, 0, 0, 8, 24, 56, 126, 0, 0, 512, 2046, 4095, 8191] (by kernel_rfl) (by kernel_rfl) ?_
      refine st_call0 cal98 rfl (fun w hM => (Add_calls hg mb _ _ w (hm.at hM))) (by decide) ?_
      refine st_storeW64 rfl rfl (i := 0) rfl sz81 (by first | omega | (simp; done) | (simp <;> omega)) (by first | omega | (simp; done) | (simp <;> omega)) (l' := [_, _]) rfl ?_
      refine st_nil ?_
      refine st_in_normal ?_
      refine st_then ?_
      refine st_region ?_
      refine st_v (rv_move rfl) (by decide) ?_
      refine st_v (rv_sliceR (rd_old hI.2.1 hI.2.2) Tryd.underlying22 sz5 rfl (evB_some (k := 32) rfl rfl) evB_none (by first | omega | (simp <;> omega)) (by first | omega | (simp <;> omega))) (by decide) ?_
      refine st_v (rv_assign rfl) (by decide) ?_
      refine st_nil ?_
      refine st_then ?_
      rw [red_step hq (by omega)]
      exact st_again (k + 1, _) (⟨by omega, hI.2.1.step32 (by omega), fun b hb => hI.2.2 b (vfoot_cut hb)⟩) (by (show c - (k + 1) < c - k); omega) (.cons rfl (.cons rfl (.cons rfl (.cons rfl (.nil _))))) (fun _ hM => hM)
    · -- t24 False
      try simp only [z1, z2, z3, z4, z5, z6, z7, z8, z9, z10, z11, z12, z13, z14] at hc24
      obtain rfl : k = c := by have := hI.1; omega
      refine st_exit ?_
      refine st_then_exit ?_
      refine st_then_exit ?_
      refine st_in_exit ?_
      refine st_then ?_
      refine st_seq ?_
      refine st_region ?_
      refine st_v (rv_move rfl) (by decide) ?_
      refine st_v (rv_loadW_blk tyA81 rfl (i := 0) rfl (by first | omega | (simp; done) | (simp <;> omega))) (by decide) ?_
      refine st_call0 cal50 rfl (fun w hM => (From_calls hg mb _ w (hm.at hM))) (by decide) ?_
      refine st_storeW64 rfl rfl (i := 1) rfl sz79 (by first | omega | (simp; done) | (simp <;> omega)) (by first | omega | (simp; done) | (simp <;> omega)) (l' := [_, _]) rfl ?_
      refine st_nil ?_
      refine st_then ?_
      refine st_ret ?_
      exact st_doneC tyA79 rfl rfl (i := 1) rfl (by first | omega | (simp <;> omega)) (fun w hM => ⟨by rw [List.take_of_length_le (by omega)]; rfl, hM.sublist (List.nil_sublist _)⟩)
end Go.Proofs.YtjhjjhpfjadjpaaDoor
