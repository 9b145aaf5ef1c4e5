/- Walks: what functions of the given program do, operation by operation. Written by wip/gen. -/
import Derived.Test.YtjhjjhpfjadjpaaDoorTy
import Derived.Test.YtjhjjhpfjadjpaaDoorVX
import Derived.Test.YtjhjjhpfjadjpaaDoorMM
namespace Go.Proofs.YtjhjjhpfjadjpaaDoor
set_option linter.all false
open Go
set_option maxRecDepth 20000 in
theorem longer_calls (v u : Value) (la lb : Nat) (xs ys : List Value) (w : World) (hA : Rd w v la 1 xs) (hB : Rd w u lb 1 ys) : Calls Tryd.prog 111 #[v, u] w (fun r w' => r = .returned (vI (max la lb : Nat)) ∧ Mem (All w) w w' []) := by
  refine calls_of_st (n := 14) (args := [v, u]) Tryd.func111 rfl Tryd.ntmps111 (Nat.le_of_ble_eq_true rfl) (Mem.all w) ?_
  refine st_seq ?_
  refine st_region ?_
  refine st_v (rv_assign rfl) (by decide) ?_
  refine st_nil ?_
  refine st_then ?_
  refine st_seq ?_
  refine st_seq ?_
  refine st_region ?_
  refine st_v (rv_move rfl) (by decide) ?_
  refine st_v (rv_lenR (rd_old hA hA.all) Tryd.underlying36 rfl) (by decide) ?_
  refine st_v (rv_move rfl) (by decide) ?_
  refine st_v (rv_lenR (rd_old hB hB.all) Tryd.underlying36 rfl) (by decide) ?_
  refine st_v (rv_gtrZ rfl rfl) (by decide) ?_
  refine st_nil ?_
  refine st_then ?_
  refine st_cond rfl (fun hc9 => ?_) (fun hc9 => ?_)
  · -- t9 True
    try simp only [z1, z2, z3, z4, z5, z6, z7, z8, z9, z10, z11, z12, z13, z14] at hc9
    have hm : max la lb = la := by omega
    refine st_seq ?_
    refine st_region ?_
    refine st_v (rv_move rfl) (by decide) ?_
    refine st_v (rv_lenR (rd_old hA hA.all) Tryd.underlying36 rfl) (by decide) ?_
    refine st_v (rv_assign rfl) (by decide) ?_
    refine st_nil ?_
    refine st_then ?_
    refine st_ret ?_
    refine st_then_ret ?_
    exact st_done rfl rfl (fun w hM => ⟨by rw [hm], hM.sublist (List.nil_sublist _)⟩)
  · -- t9 False
    try simp only [z1, z2, z3, z4, z5, z6, z7, z8, z9, z10, z11, z12, z13, z14] at hc9
    have hm : max la lb = lb := by omega
    refine st_skip ?_
    refine st_then ?_
    refine st_seq ?_
    refine st_region ?_
    refine st_v (rv_move rfl) (by decide) ?_
    refine st_v (rv_lenR (rd_old hB hB.all) Tryd.underlying36 rfl) (by decide) ?_
    refine st_v (rv_assign rfl) (by decide) ?_
    refine st_nil ?_
    refine st_then ?_
    refine st_ret ?_
    exact st_done rfl rfl (fun w hM => ⟨by rw [hm], hM.sublist (List.nil_sublist _)⟩)
set_option maxRecDepth 20000 in
theorem digit_calls (v : Value) (la A i : Nat) (hlt : A < W32 ^ la) (w : World) (hA : Rd w v la 1 ((n32 (la) (A)).map U32)) : Calls Tryd.prog 112 #[v, vI (i : Nat)] w (fun r w' => r = .returned (U32 (BitVec.ofNat 32 (A / W32 ^ i))) ∧ Mem (All w) w w' []) := by
  refine calls_of_st (n := 13) (args := [v, vI (i : Nat)]) Tryd.func112 rfl Tryd.ntmps112 (Nat.le_of_ble_eq_true rfl) (Mem.all w) ?_
  refine st_seq ?_
  refine st_region ?_
  refine st_v (rv_assign rfl) (by decide) ?_
  refine st_nil ?_
  refine st_then ?_
  refine st_seq ?_
  refine st_seq ?_
  refine st_region ?_
  refine st_v (rv_move rfl) (by decide) ?_
  refine st_v (rv_move rfl) (by decide) ?_
  refine st_v (rv_lenR (rd_old hA hA.all) Tryd.underlying36 rfl) (by decide) ?_
  refine st_v (rv_lssZ rfl rfl) (by decide) ?_
  refine st_nil ?_
  refine st_then ?_
  refine st_cond rfl (fun hc8 => ?_) (fun hc8 => ?_)
  · -- t8 True
    try simp only [z1, z2, z3, z4, z5, z6, z7, z8, z9, z10, z11, z12, z13, z14] at hc8
    refine st_seq ?_
    refine st_region ?_
    refine st_v (rv_move rfl) (by decide) ?_
    refine st_v (rv_move rfl) (by decide) ?_
    refine st_v (rv_indexR1 (rd_old hA hA.all) Tryd.underlying36 sz91 rfl rfl rfl (by first | omega | (simp <;> omega))) (by decide) ?_
    refine st_v (rv_load_rd (rd_old hA hA.all) tyS91 rfl (get32 (by first | omega | (simp <;> omega)))) (by decide) ?_
    refine st_v (rv_assign rfl) (by decide) ?_
    refine st_nil ?_
    refine st_then ?_
    refine st_ret ?_
    refine st_then_ret ?_
    exact st_done rfl rfl (fun w hM => ⟨by first | (rw [getD_n32 hlt]; done) | (rw [h0]; rfl), hM.sublist (List.nil_sublist _)⟩)
  · -- t8 False
    try simp only [z1, z2, z3, z4, z5, z6, z7, z8, z9, z10, z11, z12, z13, z14] at hc8
    have h0 : A / W32 ^ i = 0 := Nat.div_eq_of_lt (Nat.lt_of_lt_of_le hlt (Nat.pow_le_pow_right (by decide) (by omega)))
    refine st_skip ?_
    refine st_then ?_
    refine st_seq ?_
    refine st_region ?_
    refine st_v (rv_assign rfl) (by decide) ?_
    refine st_nil ?_
    refine st_then ?_
    refine st_ret ?_
    exact st_done rfl rfl (fun w hM => ⟨by first | (rw [getD_n32 hlt]; done) | (rw [h0]; rfl), hM.sublist (List.nil_sublist _)⟩)
set_option maxRecDepth 20000 in
set_option maxHeartbeats 1000000 in
theorem rplus_calls (v u : Value) (la lb A B : Nat) (hla : la ≤ 1000) (hlb : lb ≤ 1000) (hlA : A < W32 ^ la) (hlB : B < W32 ^ lb) (w : World) (hA : Rd w v la 1 ((n32 (la) (A)).map U32)) (hB : Rd w u lb 1 ((n32 (lb) (B)).map U32)) : Calls Tryd.prog 107 #[v, u] w (fun e w' => ∃ r, e = .returned r ∧ Mem (All w) w w' [own r 91 1 (max la lb + 1) ((n32 (max la lb + 1) (A + B)).map U32)]) := by
  refine calls_of_st (n := 39) (args := [v, u]) Tryd.func107 rfl Tryd.ntmps107 (Nat.le_of_ble_eq_true rfl) (Mem.all w) ?_
  refine st_seq ?_
  refine st_region ?_
  refine st_v (rv_assign rfl) (by decide) ?_
  refine st_nil ?_
  refine st_then ?_
  refine st_seq ?_
  refine st_region ?_
  refine st_v (rv_move rfl) (by decide) ?_
  refine st_v (rv_move rfl) (by decide) ?_
  refine st_call0 cal111 rfl (fun w hM => (longer_calls _ _ _ _ _ _ w ((rd_old hA hA.all) w hM) ((rd_old hB hB.all) w hM))) (by decide) ?_
  refine st_v (rv_assign rfl) (by decide) ?_
  refine st_nil ?_
  refine st_then ?_
  refine st_seq ?_
  refine st_region ?_
  refine st_v (rv_move rfl) (by decide) ?_
  first | refine st_v (rv_addN (b := 1) rfl rfl (by first | omega | (simp; done) | (simp; omega))) (by decide) ?_ | refine st_v (rv_addZ rfl rfl (by first | omega | (simp; done) | (simp; omega))) (by decide) ?_
  refine st_makeO32 Tryd.underlying36 tyZ91 rfl rfl (by omega) (by omega) (by decide) (fun v1 => ?_)
  rw [n32_zero, ← mixW_zero (max la lb + 1) (A + B) 0]
  refine st_v (rv_assign rfl) (by decide) ?_
  refine st_nil ?_
  refine st_then ?_
  refine st_seq ?_
  refine st_region ?_
  refine st_v (rv_assign rfl) (by decide) ?_
  refine st_nil ?_
  refine st_then ?_
  refine st_seq ?_
  refine st_seq ?_
  refine st_region ?_
  refine st_v (rv_assign rfl) (by decide) ?_
  refine st_nil ?_
  refine st_then ?_
  refine st_block ?_
  refine st_loopA (σ := Nat) [(0, kst _), (1, kst _), (5, kst _), (6, kst _), (7, fun i => U64 (BitVec.ofNat 64 (cAdd A B i))), (8, fun i => vI (i : Nat))] [fun i => own v1 91 1 (max la lb + 1) ((mixW (max la lb + 1) (A + B) 0 i).map U32)] (fun i => i ≤ max la lb + 1) (fun i => max la lb + 1 - i) 0 (by omega) (.cons rfl (.cons rfl (.cons rfl (.cons rfl (SubE.cons (by dsimp only; rw [show cAdd A B 0 = 0 by simp [cAdd, Nat.mod_one]]; rfl) (.cons rfl (.nil _))))))) (fun _ hM => hM) ?_
  intro i hI
  try dsimp only at hI
  dsimp only [List.map, kst]
  refine st_seq ?_
  refine st_seq ?_
  refine st_region ?_
  refine st_v (rv_move rfl) (by decide) ?_
  refine st_v (rv_move rfl) (by decide) ?_
  refine st_v (rv_leqZ rfl rfl) (by decide) ?_
  refine st_nil ?_
  refine st_then ?_
  refine st_cond rfl (fun hc17 => ?_) (fun hc17 => ?_)
  · -- t17 True
    try simp only [z1, z2, z3, z4, z5, z6, z7, z8, z9, z10, z11, z12, z13, z14] at hc17
    refine st_skip ?_
    refine st_then ?_
    refine st_seq ?_
    refine st_block ?_
    refine st_seq ?_
    refine st_region ?_
    refine st_v (rv_move rfl) (by decide) ?_
    refine st_v (rv_move rfl) (by decide) ?_
    refine st_v (rv_move rfl) (by decide) ?_
    refine st_call0 cal112 rfl (fun w hM => (digit_calls _ _ A i hlA w ((rd_old hA hA.all) w hM))) (by decide) ?_
    refine st_v (rv_conv32to64 Tryd.underlying91 Tryd.underlying77 rfl) (by decide) ?_
    refine st_v (rv_add64 rfl rfl) (by decide) ?_
    refine st_v (rv_move rfl) (by decide) ?_
    refine st_v (rv_move rfl) (by decide) ?_
    refine st_call0 cal112 rfl (fun w hM => (digit_calls _ _ B i hlB w ((rd_old hB hB.all) w hM))) (by decide) ?_
    refine st_v (rv_conv32to64 Tryd.underlying91 Tryd.underlying77 rfl) (by decide) ?_
    refine st_v (rv_add64 rfl rfl) (by decide) ?_
    rw [add64_32 (cAdd_le A B i)]
    refine st_v (rv_assign rfl) (by decide) ?_
    refine st_nil ?_
    refine st_then ?_
    refine st_seq ?_
    refine st_region ?_
    refine st_v (rv_move rfl) (by decide) ?_
    refine st_v (rv_move rfl) (by decide) ?_
    refine st_v (rv_move rfl) (by decide) ?_
    refine st_v (rv_conv64to32 Tryd.underlying77 Tryd.underlying91 rfl) (by decide) ?_
    rw [low32 _ (add_bound A B i), plus_word]
    refine st_v (rv_indexR1 (rd_own (i := 0) rfl) Tryd.underlying36 sz91 rfl rfl rfl (by first | omega | (simp [length_mixW (show i ≤ max la lb + 1 by omega)] <;> omega))) (by decide) ?_
    refine st_storeOwn32 rfl rfl (i := 0) rfl sz91 (by first | omega | (simp [length_mixW (show i ≤ max la lb + 1 by omega)] <;> omega)) rfl ?_
    refine st_nil ?_
    refine st_then ?_
    refine st_region ?_
    refine st_v (rv_move rfl) (by decide) ?_
    refine st_v (rv_shr64 (s := 32) rfl rfl rfl) (by decide) ?_
    rw [high32 _ (add_bound A B i), ← cAdd_next]
    refine st_v (rv_assign rfl) (by decide) ?_
    refine st_nil ?_
    refine st_in_normal ?_
    refine st_then ?_
    refine st_region ?_
    refine st_v (rv_move rfl) (by decide) ?_
    first | refine st_v (rv_addN (b := 1) rfl rfl (by first | omega | (simp; done) | (simp; omega))) (by decide) ?_ | refine st_v (rv_addZ rfl rfl (by first | omega | (simp; done) | (simp; omega))) (by decide) ?_
    refine st_v (rv_assign rfl) (by decide) ?_
    refine st_nil ?_
    refine st_then ?_
    rw [mixW_set (by omega)]
    exact st_again (i + 1) (by omega) (by omega) (.cons rfl (.cons rfl (.cons rfl (.cons rfl (.cons rfl (.cons rfl (.nil _))))))) (fun _ hM => hM)
  · -- t17 False
    try simp only [z1, z2, z3, z4, z5, z6, z7, z8, z9, z10, z11, z12, z13, z14] at hc17
    obtain rfl : i = max la lb + 1 := by omega
    refine st_exit ?_
    refine st_then_exit ?_
    refine st_then_exit ?_
    refine st_in_exit ?_
    refine st_then ?_
    refine st_seq ?_
    refine st_region ?_
    refine st_v (rv_move rfl) (by decide) ?_
    refine st_v (rv_assign rfl) (by decide) ?_
    refine st_nil ?_
    refine st_then ?_
    refine st_ret ?_
    exact st_done rfl rfl (fun w hM => ⟨_, rfl, by rw [mixW_all] at hM; exact hM⟩)
set_option maxRecDepth 20000 in
set_option maxHeartbeats 1000000 in
theorem rminus_calls (v u : Value) (la lb A B : Nat) (hla : la ≤ 1000) (hlb : lb ≤ 1000) (hlA : A < W32 ^ la) (hlB : B < W32 ^ lb) (hle : B ≤ A) (w : World) (hA : Rd w v la 1 ((n32 (la) (A)).map U32)) (hB : Rd w u lb 1 ((n32 (lb) (B)).map U32)) : Calls Tryd.prog 108 #[v, u] w (fun e w' => ∃ r, e = .returned r ∧ Mem (All w) w w' [own r 91 1 (la) ((n32 (la) (A - B)).map U32)]) := by
  refine calls_of_st (n := 37) (args := [v, u]) Tryd.func108 rfl Tryd.ntmps108 (Nat.le_of_ble_eq_true rfl) (Mem.all w) ?_
  refine st_seq ?_
  refine st_region ?_
  refine st_v (rv_assign rfl) (by decide) ?_
  refine st_nil ?_
  refine st_then ?_
  refine st_seq ?_
  refine st_region ?_
  refine st_v (rv_move rfl) (by decide) ?_
  refine st_v (rv_lenR (rd_old hA hA.all) Tryd.underlying36 rfl) (by decide) ?_
  refine st_makeO32 Tryd.underlying36 tyZ91 rfl rfl (by omega) (by omega) (by decide) (fun v1 => ?_)
  rw [n32_zero, ← mixW_zero la (A - B) 0]
  refine st_v (rv_assign rfl) (by decide) ?_
  refine st_nil ?_
  refine st_then ?_
  refine st_seq ?_
  refine st_region ?_
  refine st_v (rv_assign rfl) (by decide) ?_
  refine st_nil ?_
  refine st_then ?_
  refine st_seq ?_
  refine st_seq ?_
  refine st_region ?_
  refine st_v (rv_assign rfl) (by decide) ?_
  refine st_nil ?_
  refine st_then ?_
  refine st_block ?_
  refine st_loopA (σ := Nat) [(0, kst _), (1, kst _), (5, kst _), (6, fun i => vI (cSub A B i)), (7, fun i => vI (i : Nat))] [fun i => own v1 91 1 la ((mixW la (A - B) 0 i).map U32)] (fun i => i ≤ la) (fun i => la - i) 0 (by omega) (.cons rfl (.cons rfl (.cons rfl (SubE.cons (by dsimp only; rw [show cSub A B 0 = 0 by simp [cSub, Nat.mod_one]]; rfl) (.cons rfl (.nil _)))))) (fun _ hM => hM) ?_
  intro i hI
  try dsimp only at hI
  dsimp only [List.map, kst]
  have hcs := cSub_ge A B i
  have hw1 := ((n32 la A).getD i 0#32).isLt
  have hw2 := (BitVec.ofNat 32 (B / W32 ^ i)).isLt
  refine st_seq ?_
  refine st_seq ?_
  refine st_region ?_
  refine st_v (rv_move rfl) (by decide) ?_
  refine st_v (rv_move rfl) (by decide) ?_
  refine st_v (rv_lenR (rd_old hA hA.all) Tryd.underlying36 rfl) (by decide) ?_
  refine st_v (rv_lssZ rfl rfl) (by decide) ?_
  refine st_nil ?_
  refine st_then ?_
  refine st_cond rfl (fun hc14 => ?_) (fun hc14 => ?_)
  · -- t14 True
    try simp only [z1, z2, z3, z4, z5, z6, z7, z8, z9, z10, z11, z12, z13, z14] at hc14
    refine st_skip ?_
    refine st_then ?_
    refine st_seq ?_
    refine st_block ?_
    refine st_seq ?_
    refine st_drawStart mixed ?_
    refine st_drawSeg1 (E0 := [(0, _), (1, _), (5, _), (6, _), (7, _)]) [kpeq _, kpeq _, kpeq _, kpeq _, kpeq _, kpeq _, kpeq _, kpeq _, kpeq _, kpeq _, kpeq _] 0 11 [0, 0, 0, 6, 14, 30, 63, 0, 0, 384, 896, 2047, 4095] [0, 1, 5, 6, 7] (by kernel_rfl) (by decide) (by kernel_rfl) (.cons rfl (.cons rfl (.cons rfl (.cons rfl (.cons rfl (.nil _)))))) rfl rfl (hall_cons (hop_mv rfl (by decide) rfl rfl) (hall_cons (hop_mv rfl (by decide) rfl rfl) (hall_cons (hop_mv rfl (by decide) rfl rfl) (hall_cons (hop_val [(1, 18, _), (2, 19, _)] [] rfl rfl rfl (by decide) rfl (jcons rfl rfl rfl rfl rfl (jcons rfl rfl rfl rfl rfl (jnil))) (xnil) (fun _ _ _ _ => does_v (rv_indexR1 (rd_old hA hA.all) Tryd.underlying36 sz91 rfl rfl rfl (by first | omega | (simp [length_mixW (show i ≤ la by omega)] <;> omega))))) (hall_cons (hop_val [(3, 20, _)] [] rfl rfl rfl (by decide) rfl (jcons rfl rfl rfl rfl rfl (jnil)) (xnil) (fun _ _ _ _ => does_v (rv_load_rd (rd_old hA hA.all) tyS91 rfl (get32 (by first | omega | (simp [length_mixW (show i ≤ la by omega)] <;> omega)))))) (hall_cons (hop_val [(4, 21, _)] [] rfl rfl rfl (by decide) rfl (jcons rfl rfl rfl rfl rfl (jnil)) (xnil) (fun _ _ _ _ => does_v (rv_conv32toI Tryd.underlying91 Tryd.underlying2 rfl (by exact Nat.le_trans (Nat.le_of_lt (BitVec.isLt _)) (by decide))))) (hall_cons (hop_val [(0, 17, _), (5, 22, _)] [] rfl rfl rfl (by decide) rfl (jcons rfl rfl rfl rfl rfl (jcons rfl rfl rfl rfl rfl (jnil))) (xnil) (fun _ _ _ _ => does_v (rv_addZ rfl rfl (by first | omega | (simp; done) | (simp; omega))))) (hall_cons (hop_mv rfl (by decide) rfl rfl) (hall_cons (hop_mv rfl (by decide) rfl rfl) (hall_cons (hop_val [(7, 24, _), (8, 25, _)] [] rfl rfl rfl (by decide) rfl (jcons rfl rfl rfl rfl rfl (jcons rfl rfl rfl rfl rfl (jnil))) (xnil) (fun _ _ _ _ => does_call0 cal112 rfl (fun w hM => (digit_calls _ _ B i hlB w ((rd_old hB hB.all) w hM))))) (hall_cons (hop_val [(9, 26, _)] [] rfl rfl rfl (by decide) rfl (jcons rfl rfl rfl rfl rfl (jnil)) (xnil) (fun _ _ _ _ => does_v (rv_conv32toI Tryd.underlying91 Tryd.underlying2 rfl (by exact Nat.le_trans (Nat.le_of_lt (BitVec.isLt _)) (by decide))))) (hall_nil)))))))))))) (draw_end1 [(6, 23, _), (10, 27, _)] (jcons rfl rfl rfl rfl rfl (jcons rfl rfl rfl rfl rfl (jnil))) ?_)
    refine st_drawTail (N := 11) [0, 0, 0, 6, 14, 30, 63, 0, 0, 384, 896, 2047, 4095] (by kernel_rfl) (by kernel_rfl) ?_
    first | refine st_v (rv_subN rfl rfl (by first | omega | (simp; done) | (simp; omega))) (by decide) ?_ | refine st_v (rv_subZ rfl rfl (by first | omega | (simp; done) | (simp; omega))) (by decide) ?_
    refine st_v (rv_assign rfl) (by decide) ?_
    refine st_nil ?_
    refine st_then ?_
    refine st_seq ?_
    refine st_region ?_
    refine st_v (rv_move rfl) (by decide) ?_
    rw [toNat_n32 i (by omega), ofNat32_toNat]
    refine st_v (rv_move rfl) (by decide) ?_
    refine st_v (rv_move rfl) (by decide) ?_
    refine st_v (rv_convZto32 Tryd.underlying2 Tryd.underlying91 rfl) (by decide) ?_
    rw [minus_word A B i hle]
    refine st_v (rv_indexR1 (rd_own (i := 0) rfl) Tryd.underlying36 sz91 rfl rfl rfl (by first | omega | (simp [length_mixW (show i ≤ la by omega)] <;> omega))) (by decide) ?_
    refine st_storeOwn32 rfl rfl (i := 0) rfl sz91 (by first | omega | (simp [length_mixW (show i ≤ la by omega)] <;> omega)) rfl ?_
    refine st_nil ?_
    refine st_then ?_
    refine st_region ?_
    refine st_v (rv_move rfl) (by decide) ?_
    refine st_v (rv_shrZ32 rfl rfl) (by decide) ?_
    rw [← cSub_next]
    refine st_v (rv_assign rfl) (by decide) ?_
    refine st_nil ?_
    refine st_in_normal ?_
    refine st_then ?_
    refine st_region ?_
    refine st_v (rv_move rfl) (by decide) ?_
    first | refine st_v (rv_addN (b := 1) rfl rfl (by first | omega | (simp; done) | (simp; omega))) (by decide) ?_ | refine st_v (rv_addZ rfl rfl (by first | omega | (simp; done) | (simp; omega))) (by decide) ?_
    refine st_v (rv_assign rfl) (by decide) ?_
    refine st_nil ?_
    refine st_then ?_
    rw [mixW_set (by omega)]
    exact st_again (i + 1) (by omega) (by omega) (.cons rfl (.cons rfl (.cons rfl (.cons rfl (.cons rfl (.nil _)))))) (fun _ hM => hM)
  · -- t14 False
    try simp only [z1, z2, z3, z4, z5, z6, z7, z8, z9, z10, z11, z12, z13, z14] at hc14
    obtain rfl : i = la := by omega
    refine st_exit ?_
    refine st_then_exit ?_
    refine st_then_exit ?_
    refine st_in_exit ?_
    refine st_then ?_
    refine st_seq ?_
    refine st_region ?_
    refine st_v (rv_move rfl) (by decide) ?_
    refine st_v (rv_assign rfl) (by decide) ?_
    refine st_nil ?_
    refine st_then ?_
    refine st_ret ?_
    exact st_done rfl rfl (fun w hM => ⟨_, rfl, by rw [mixW_all] at hM; exact hM⟩)
set_option maxRecDepth 20000 in
set_option maxHeartbeats 1000000 in
theorem rtimes_calls (v u : Value) (la lb A B : Nat) (hla : la ≤ 1000) (hlb : lb ≤ 1000) (hlA : A < W32 ^ la) (hlB : B < W32 ^ lb) (w : World) (hA : Rd w v la 1 ((n32 (la) (A)).map U32)) (hB : Rd w u lb 1 ((n32 (lb) (B)).map U32)) : Calls Tryd.prog 106 #[v, u] w (fun e w' => ∃ r, e = .returned r ∧ Mem (All w) w w' [own r 91 1 (la + lb) ((n32 (la + lb) (A * B)).map U32)]) := by
  refine calls_of_st (n := 66) (args := [v, u]) Tryd.func106 rfl Tryd.ntmps106 (Nat.le_of_ble_eq_true rfl) (Mem.all w) ?_
  refine st_seq ?_
  refine st_region ?_
  refine st_v (rv_assign rfl) (by decide) ?_
  refine st_nil ?_
  refine st_then ?_
  refine st_seq ?_
  refine st_region ?_
  refine st_v (rv_move rfl) (by decide) ?_
  refine st_v (rv_lenR (rd_old hA hA.all) Tryd.underlying36 rfl) (by decide) ?_
  refine st_v (rv_move rfl) (by decide) ?_
  refine st_v (rv_lenR (rd_old hB hB.all) Tryd.underlying36 rfl) (by decide) ?_
  first | refine st_v (rv_addN rfl rfl (by first | omega | (simp; done) | (simp; omega))) (by decide) ?_ | refine st_v (rv_addZ rfl rfl (by first | omega | (simp; done) | (simp; omega))) (by decide) ?_
  refine st_makeO32 Tryd.underlying36 tyZ91 rfl rfl (by omega) (by omega) (by decide) (fun v1 => ?_)
  rw [n32_zero]
  refine st_v (rv_assign rfl) (by decide) ?_
  refine st_nil ?_
  refine st_then ?_
  refine st_seq ?_
  refine st_seq ?_
  refine st_region ?_
  refine st_v (rv_assign rfl) (by decide) ?_
  refine st_nil ?_
  refine st_then ?_
  refine st_block ?_
  refine st_loopA (σ := Nat) [(0, kst _), (1, kst _), (5, kst _), (6, fun i => vI (i : Nat))] [fun i => own v1 91 1 (la + lb) ((n32 (la + lb) (mT A B i)).map U32)] (fun i => i ≤ la) (fun i => la - i) 0 (by omega) (.cons rfl (.cons rfl (.cons rfl (.cons rfl (.nil _))))) (by intro w hM; dsimp only [List.map, kst]; rw [show mT A B 0 = 0 by simp [mT, Nat.mod_one]]; exact hM) ?_
  intro i hI
  try dsimp only at hI
  dsimp only [List.map, kst]
  refine st_seq ?_
  refine st_seq ?_
  refine st_region ?_
  refine st_v (rv_move rfl) (by decide) ?_
  refine st_v (rv_move rfl) (by decide) ?_
  refine st_v (rv_lenR (rd_old hA hA.all) Tryd.underlying36 rfl) (by decide) ?_
  refine st_v (rv_lssZ rfl rfl) (by decide) ?_
  refine st_nil ?_
  refine st_then ?_
  refine st_cond rfl (fun hc18 => ?_) (fun hc18 => ?_)
  · -- t18 True
    try simp only [z1, z2, z3, z4, z5, z6, z7, z8, z9, z10, z11, z12, z13, z14] at hc18
    refine st_skip ?_
    refine st_then ?_
    refine st_seq ?_
    refine st_block ?_
    refine st_seq ?_
    refine st_region ?_
    refine st_v (rv_assign rfl) (by decide) ?_
    refine st_nil ?_
    refine st_then ?_
    refine st_seq ?_
    refine st_seq ?_
    refine st_region ?_
    refine st_v (rv_assign rfl) (by decide) ?_
    refine st_nil ?_
    refine st_then ?_
    refine st_block ?_
    refine st_loopA (σ := Nat) [(0, kst _), (1, kst _), (5, kst _), (6, kst _), (7, fun j => U64 (BitVec.ofNat 64 (mC A B i j))), (8, fun j => vI (j : Nat))] [fun j => own v1 91 1 (la + lb) ((mixW (la + lb) (mV A B i j) (mT A B i) (i + j)).map U32)] (fun j => j ≤ lb) (fun j => lb - j) 0 (by omega) (.cons rfl (.cons rfl (.cons rfl (.cons rfl (SubE.cons (by dsimp only; rw [mC_zero]; rfl) (.cons rfl (.nil _))))))) (by intro w hM; dsimp only [List.map, kst]; rw [← mix_start]; exact hM) ?_
    intro j hI
    try dsimp only at hI
    dsimp only [List.map, kst]
    refine st_seq ?_
    refine st_seq ?_
    refine st_region ?_
    refine st_v (rv_move rfl) (by decide) ?_
    refine st_v (rv_move rfl) (by decide) ?_
    refine st_v (rv_lenR (rd_old hB hB.all) Tryd.underlying36 rfl) (by decide) ?_
    refine st_v (rv_lssZ rfl rfl) (by decide) ?_
    refine st_nil ?_
    refine st_then ?_
    refine st_cond rfl (fun hc24 => ?_) (fun hc24 => ?_)
    · -- t24 True
      try simp only [z1, z2, z3, z4, z5, z6, z7, z8, z9, z10, z11, z12, z13, z14] at hc24
      refine st_skip ?_
      refine st_then ?_
      refine st_seq ?_
      refine st_block ?_
      refine st_seq ?_
      refine st_drawStart mixed ?_
      refine st_drawSeg1 (E0 := [(0, _), (1, _), (5, _), (6, _), (7, _), (8, _)]) [kpeq _, kpeq _, kpeq _, kpeq _, kpeq _, kpeq _, kpeq _, kpeq _, kpeq _, kpeq _, kpeq _, kpeq _, kpeq _, kpeq _, kpeq _, kpeq _, kpeq _, kpeq _, kpeq _, kpeq _] 0 20 [0, 0, 0, 6, 14, 30, 0, 0, 192, 448, 960, 2046, 4095, 0, 0, 0, 49152, 122880, 253952, 516096, 1048575, 2097151] [0, 1, 5, 6, 7, 8] (by kernel_rfl) (by decide) (by kernel_rfl) (.cons rfl (.cons rfl (.cons rfl (.cons rfl (.cons rfl (.cons rfl (.nil _))))))) rfl rfl (hall_cons (hop_mv rfl (by decide) rfl rfl) (hall_cons (hop_mv rfl (by decide) rfl rfl) (hall_cons (hop_mv rfl (by decide) rfl rfl) (hall_cons (hop_val [(1, 28, _), (2, 29, _)] [] rfl rfl rfl (by decide) rfl (jcons rfl rfl rfl rfl rfl (jcons rfl rfl rfl rfl rfl (jnil))) (xnil) (fun _ _ _ _ => does_v (rv_indexR1 (rd_old hA hA.all) Tryd.underlying36 sz91 rfl rfl rfl (by first | omega | (simp [length_mixW (show i + j ≤ la + lb by omega), length_mixW (show i + lb ≤ la + lb by omega)] <;> omega))))) (hall_cons (hop_val [(3, 30, _)] [] rfl rfl rfl (by decide) rfl (jcons rfl rfl rfl rfl rfl (jnil)) (xnil) (fun _ _ _ _ => does_v (rv_load_rd (rd_old hA hA.all) tyS91 rfl (get32 (by first | omega | (simp [length_mixW (show i + j ≤ la + lb by omega), length_mixW (show i + lb ≤ la + lb by omega)] <;> omega)))))) (hall_cons (hop_val [(4, 31, _)] [] rfl rfl rfl (by decide) rfl (jcons rfl rfl rfl rfl rfl (jnil)) (xnil) (fun _ _ _ _ => does_v (rv_conv32to64 Tryd.underlying91 Tryd.underlying77 rfl))) (hall_cons (hop_mv rfl (by decide) rfl rfl) (hall_cons (hop_mv rfl (by decide) rfl rfl) (hall_cons (hop_val [(6, 33, _), (7, 34, _)] [] rfl rfl rfl (by decide) rfl (jcons rfl rfl rfl rfl rfl (jcons rfl rfl rfl rfl rfl (jnil))) (xnil) (fun _ _ _ _ => does_v (rv_indexR1 (rd_old hB hB.all) Tryd.underlying36 sz91 rfl rfl rfl (by first | omega | (simp [length_mixW (show i + j ≤ la + lb by omega), length_mixW (show i + lb ≤ la + lb by omega)] <;> omega))))) (hall_cons (hop_val [(8, 35, _)] [] rfl rfl rfl (by decide) rfl (jcons rfl rfl rfl rfl rfl (jnil)) (xnil) (fun _ _ _ _ => does_v (rv_load_rd (rd_old hB hB.all) tyS91 rfl (get32 (by first | omega | (simp [length_mixW (show i + j ≤ la + lb by omega), length_mixW (show i + lb ≤ la + lb by omega)] <;> omega)))))) (hall_cons (hop_val [(9, 36, _)] [] rfl rfl rfl (by decide) rfl (jcons rfl rfl rfl rfl rfl (jnil)) (xnil) (fun _ _ _ _ => does_v (rv_conv32to64 Tryd.underlying91 Tryd.underlying77 rfl))) (hall_cons (hop_val [(5, 32, _), (10, 37, _)] [] rfl rfl rfl (by decide) rfl (jcons rfl rfl rfl rfl rfl (jcons rfl rfl rfl rfl rfl (jnil))) (xnil) (fun _ _ _ _ => does_v (rv_mul64 rfl rfl))) (hall_cons (hop_val [(0, 27, _), (11, 38, _)] [] rfl rfl rfl (by decide) rfl (jcons rfl rfl rfl rfl rfl (jcons rfl rfl rfl rfl rfl (jnil))) (xnil) (fun _ _ _ _ => does_v (rv_add64 rfl rfl))) (hall_cons (hop_mv rfl (by decide) rfl rfl) (hall_cons (hop_mv rfl (by decide) rfl rfl) (hall_cons (hop_mv rfl (by decide) rfl rfl) (hall_cons (hop_val [(14, 41, _), (15, 42, _)] [] rfl rfl rfl (by decide) rfl (jcons rfl rfl rfl rfl rfl (jcons rfl rfl rfl rfl rfl (jnil))) (xnil) (fun _ _ _ _ => does_v (rv_addN rfl rfl (by first | omega | (simp; done) | (simp; omega))))) (hall_cons (hop_val [(13, 40, _), (16, 43, _)] [] rfl rfl rfl (by decide) rfl (jcons rfl rfl rfl rfl rfl (jcons rfl rfl rfl rfl rfl (jnil))) (xnil) (fun _ _ _ _ => does_v (rv_indexR1 (rd_own (i := 0) rfl) Tryd.underlying36 sz91 rfl rfl rfl (by first | omega | (simp [length_mixW (show i + j ≤ la + lb by omega), length_mixW (show i + lb ≤ la + lb by omega)] <;> omega))))) (hall_cons (hop_val [(17, 44, _)] [] rfl rfl rfl (by decide) rfl (jcons rfl rfl rfl rfl rfl (jnil)) (xnil) (fun _ _ _ _ => does_v (rv_load_rd (rd_own (i := 0) rfl) tyS91 rfl (get32 (by first | omega | (simp [length_mixW (show i + j ≤ la + lb by omega), length_mixW (show i + lb ≤ la + lb by omega)] <;> omega)))))) (hall_cons (hop_val [(18, 45, _)] [] rfl rfl rfl (by decide) rfl (jcons rfl rfl rfl rfl rfl (jnil)) (xnil) (fun _ _ _ _ => does_v (rv_conv32to64 Tryd.underlying91 Tryd.underlying77 rfl))) (hall_nil))))))))))))))))))))) (draw_end1 [(12, 39, _), (19, 46, _)] (jcons rfl rfl rfl rfl rfl (jcons rfl rfl rfl rfl rfl (jnil))) ?_)
      refine st_drawTail (N := 20) [0, 0, 0, 6, 14, 30, 0, 0, 192, 448, 960, 2046, 4095, 0, 0, 0, 49152, 122880, 253952, 516096, 1048575, 2097151] (by kernel_rfl) (by kernel_rfl) ?_
      refine st_v (rv_add64 rfl rfl) (by decide) ?_
      refine st_v (rv_assign rfl) (by decide) ?_
      refine st_nil ?_
      refine st_then ?_
      refine st_seq ?_
      refine st_region ?_
      refine st_v (rv_move rfl) (by decide) ?_
      rw [getD_n32 hlA, getD_n32 hlB, getD_mixW (show i + j ≤ la + lb by omega) (i + j) (by omega), if_neg (Nat.lt_irrefl _), mS_64]
      refine st_v (rv_move rfl) (by decide) ?_
      refine st_v (rv_move rfl) (by decide) ?_
      first | refine st_v (rv_addN rfl rfl (by first | omega | (simp; done) | (simp; omega))) (by decide) ?_ | refine st_v (rv_addZ rfl rfl (by first | omega | (simp; done) | (simp; omega))) (by decide) ?_
      refine st_v (rv_move rfl) (by decide) ?_
      refine st_v (rv_conv64to32 Tryd.underlying77 Tryd.underlying91 rfl) (by decide) ?_
      rw [low32 _ (mS_lt A B i j)]
      refine st_v (rv_indexR1 (rd_own (i := 0) rfl) Tryd.underlying36 sz91 rfl rfl rfl (by first | omega | (simp [length_mixW (show i + j ≤ la + lb by omega), length_mixW (show i + lb ≤ la + lb by omega)] <;> omega))) (by decide) ?_
      refine st_storeOwn32 rfl rfl (i := 0) rfl sz91 (by first | omega | (simp [length_mixW (show i + j ≤ la + lb by omega), length_mixW (show i + lb ≤ la + lb by omega)] <;> omega)) rfl ?_
      refine st_nil ?_
      refine st_then ?_
      refine st_region ?_
      refine st_v (rv_move rfl) (by decide) ?_
      refine st_v (rv_shr64 (s := 32) rfl rfl rfl) (by decide) ?_
      rw [high32 _ (mS_lt A B i j), ← mC_next]
      refine st_v (rv_assign rfl) (by decide) ?_
      refine st_nil ?_
      refine st_in_normal ?_
      refine st_then ?_
      refine st_region ?_
      refine st_v (rv_move rfl) (by decide) ?_
      first | refine st_v (rv_addN (b := 1) rfl rfl (by first | omega | (simp; done) | (simp; omega))) (by decide) ?_ | refine st_v (rv_addZ rfl rfl (by first | omega | (simp; done) | (simp; omega))) (by decide) ?_
      refine st_v (rv_assign rfl) (by decide) ?_
      refine st_nil ?_
      refine st_then ?_
      rw [mix_mul (by omega)]
      exact st_again (j + 1) (by omega) (by omega) (.cons rfl (.cons rfl (.cons rfl (.cons rfl (.cons rfl (.cons rfl (.nil _))))))) (fun _ hM => hM)
    · -- t24 False
      try simp only [z1, z2, z3, z4, z5, z6, z7, z8, z9, z10, z11, z12, z13, z14] at hc24
      have hjl : j = lb := by omega
      rw [hjl]
      refine st_exit ?_
      refine st_then_exit ?_
      refine st_then_exit ?_
      refine st_in_exit ?_
      refine st_then ?_
      refine st_region ?_
      refine st_v (rv_move rfl) (by decide) ?_
      refine st_v (rv_move rfl) (by decide) ?_
      refine st_v (rv_move rfl) (by decide) ?_
      refine st_v (rv_lenR (rd_old hB hB.all) Tryd.underlying36 rfl) (by decide) ?_
      first | refine st_v (rv_addN rfl rfl (by first | omega | (simp; done) | (simp; omega))) (by decide) ?_ | refine st_v (rv_addZ rfl rfl (by first | omega | (simp; done) | (simp; omega))) (by decide) ?_
      refine st_v (rv_move rfl) (by decide) ?_
      refine st_v (rv_conv64to32 Tryd.underlying77 Tryd.underlying91 rfl) (by decide) ?_
      rw [low32 _ (Nat.lt_trans (mC_lt A B i _) (by decide))]
      refine st_v (rv_indexR1 (rd_own (i := 0) rfl) Tryd.underlying36 sz91 rfl rfl rfl (by first | omega | (simp [length_mixW (show i + j ≤ la + lb by omega), length_mixW (show i + lb ≤ la + lb by omega)] <;> omega))) (by decide) ?_
      refine st_storeOwn32 rfl rfl (i := 0) rfl sz91 (by first | omega | (simp [length_mixW (show i + j ≤ la + lb by omega), length_mixW (show i + lb ≤ la + lb by omega)] <;> omega)) rfl ?_
      refine st_nil ?_
      refine st_in_normal ?_
      refine st_then ?_
      refine st_region ?_
      refine st_v (rv_move rfl) (by decide) ?_
      first | refine st_v (rv_addN (b := 1) rfl rfl (by first | omega | (simp; done) | (simp; omega))) (by decide) ?_ | refine st_v (rv_addZ rfl rfl (by first | omega | (simp; done) | (simp; omega))) (by decide) ?_
      refine st_v (rv_assign rfl) (by decide) ?_
      refine st_nil ?_
      refine st_then ?_
      rw [mix_end hlB (by omega)]
      exact st_again (i + 1) (by omega) (by omega) (.cons rfl (.cons rfl (.cons rfl (.cons rfl (.nil _))))) (fun _ hM => hM)
  · -- t18 False
    try simp only [z1, z2, z3, z4, z5, z6, z7, z8, z9, z10, z11, z12, z13, z14] at hc18
    obtain rfl : i = la := by omega
    refine st_exit ?_
    refine st_then_exit ?_
    refine st_then_exit ?_
    refine st_in_exit ?_
    refine st_then ?_
    refine st_seq ?_
    refine st_region ?_
    refine st_v (rv_move rfl) (by decide) ?_
    refine st_v (rv_assign rfl) (by decide) ?_
    refine st_nil ?_
    refine st_then ?_
    refine st_ret ?_
    exact st_done rfl rfl (fun w hM => ⟨_, rfl, by rw [mT_full hlA] at hM; exact hM⟩)
set_option maxRecDepth 20000 in
theorem rZero_calls (v : Value) (la A : Nat) (hla : la ≤ 1000) (hlA : A < W32 ^ la) (w : World) (hA : Rd w v la 1 ((n32 (la) (A)).map U32)) : Calls Tryd.prog 65 #[v] w (fun r w' => r = .returned (.bool (decide (A = 0))) ∧ Mem (All w) w w' []) := by
  refine calls_of_st (n := 15) (args := [v]) Tryd.func65 rfl Tryd.ntmps65 (Nat.le_of_ble_eq_true rfl) (Mem.all w) ?_
  refine st_seq ?_
  refine st_region ?_
  refine st_v (rv_assign rfl) (by decide) ?_
  refine st_nil ?_
  refine st_then ?_
  refine st_seq ?_
  refine st_seq ?_
  refine st_region ?_
  refine st_v (rv_assign rfl) (by decide) ?_
  refine st_nil ?_
  refine st_then ?_
  refine st_block ?_
  refine st_loopA (σ := Nat) [(0, kst _), (3, fun i => vI (i : Nat))] [] (fun i => i ≤ la ∧ A % W32 ^ i = 0) (fun i => la - i) 0 (⟨by omega, by simp [Nat.mod_one]⟩) (.cons rfl (.cons rfl (.nil _))) (fun _ hM => hM) ?_
  intro i hI
  try dsimp only at hI
  dsimp only [List.map, kst]
  refine st_seq ?_
  refine st_seq ?_
  refine st_region ?_
  refine st_v (rv_move rfl) (by decide) ?_
  refine st_v (rv_move rfl) (by decide) ?_
  refine st_v (rv_lenR (rd_old hA hA.all) Tryd.underlying36 rfl) (by decide) ?_
  refine st_v (rv_lssZ rfl rfl) (by decide) ?_
  refine st_nil ?_
  refine st_then ?_
  refine st_cond rfl (fun hc7 => ?_) (fun hc7 => ?_)
  · -- t7 True
    try simp only [z1, z2, z3, z4, z5, z6, z7, z8, z9, z10, z11, z12, z13, z14] at hc7
    refine st_skip ?_
    refine st_then ?_
    refine st_seq ?_
    refine st_block ?_
    refine st_seq ?_
    refine st_region ?_
    refine st_v (rv_move rfl) (by decide) ?_
    refine st_v (rv_move rfl) (by decide) ?_
    refine st_v (rv_indexR1 (rd_old hA hA.all) Tryd.underlying36 sz91 rfl rfl rfl (by first | omega | (simp <;> omega))) (by decide) ?_
    refine st_v (rv_load_rd (rd_old hA hA.all) tyS91 rfl (get32 (by first | omega | (simp <;> omega)))) (by decide) ?_
    refine st_v (rv_neq32 (b := 0#32) rfl rfl) (by decide) ?_
    refine st_nil ?_
    refine st_then ?_
    refine st_cond rfl (fun hc14 => ?_) (fun hc14 => ?_)
    · -- t14 True
      try simp only [z1, z2, z3, z4, z5, z6, z7, z8, z9, z10, z11, z12, z13, z14] at hc14
      rw [getD_n32 hlA] at hc14
      have hA0 : decide (A = 0) = false := decide_eq_false (word_ne hc14)
      refine st_seq ?_
      refine st_region ?_
      refine st_v (rv_assign rfl) (by decide) ?_
      refine st_nil ?_
      refine st_then ?_
      refine st_ret ?_
      refine st_in_ret ?_
      refine st_then_ret ?_
      refine st_then_ret ?_
      refine st_in_ret ?_
      refine st_then_ret ?_
      exact st_done rfl rfl (fun w hM => ⟨by rw [hA0], hM.sublist (List.nil_sublist _)⟩)
    · -- t14 False
      try simp only [z1, z2, z3, z4, z5, z6, z7, z8, z9, z10, z11, z12, z13, z14] at hc14
      rw [getD_n32 hlA] at hc14
      have hnx := word_zero hI.2 hc14
      refine st_skip ?_
      refine st_in_normal ?_
      refine st_then ?_
      refine st_region ?_
      refine st_v (rv_move rfl) (by decide) ?_
      first | refine st_v (rv_addN (b := 1) rfl rfl (by first | omega | (simp; done) | (simp; omega))) (by decide) ?_ | refine st_v (rv_addZ rfl rfl (by first | omega | (simp; done) | (simp; omega))) (by decide) ?_
      refine st_v (rv_assign rfl) (by decide) ?_
      refine st_nil ?_
      refine st_then ?_
      exact st_again (i + 1) (⟨by omega, hnx⟩) (by omega) (.cons rfl (.cons rfl (.nil _))) (fun _ hM => hM)
  · -- t7 False
    try simp only [z1, z2, z3, z4, z5, z6, z7, z8, z9, z10, z11, z12, z13, z14] at hc7
    obtain rfl : i = la := by omega
    have hA0 : decide (A = 0) = true := decide_eq_true (by have := hI.2; rwa [Nat.mod_eq_of_lt hlA] at this)
    refine st_exit ?_
    refine st_then_exit ?_
    refine st_then_exit ?_
    refine st_in_exit ?_
    refine st_then ?_
    refine st_seq ?_
    refine st_region ?_
    refine st_v (rv_assign rfl) (by decide) ?_
    refine st_nil ?_
    refine st_then ?_
    refine st_ret ?_
    exact st_done rfl rfl (fun w hM => ⟨by rw [hA0], hM.sublist (List.nil_sublist _)⟩)
set_option maxRecDepth 20000 in
theorem rLess_calls (v u : Value) (la lb A B : Nat) (hla : la ≤ 1000) (hlb : lb ≤ 1000) (hlA : A < W32 ^ la) (hlB : B < W32 ^ lb) (w : World) (hA : Rd w v la 1 ((n32 (la) (A)).map U32)) (hB : Rd w u lb 1 ((n32 (lb) (B)).map U32)) : Calls Tryd.prog 70 #[v, u] w (fun r w' => r = .returned (.bool (decide (A < B))) ∧ Mem (All w) w w' []) := by
  refine calls_of_st (n := 28) (args := [v, u]) Tryd.func70 rfl Tryd.ntmps70 (Nat.le_of_ble_eq_true rfl) (Mem.all w) ?_
  refine st_seq ?_
  refine st_region ?_
  refine st_v (rv_assign rfl) (by decide) ?_
  refine st_nil ?_
  refine st_then ?_
  refine st_seq ?_
  refine st_seq ?_
  refine st_region ?_
  refine st_v (rv_move rfl) (by decide) ?_
  refine st_v (rv_move rfl) (by decide) ?_
  refine st_call0 cal111 rfl (fun w hM => (longer_calls _ _ _ _ _ _ w ((rd_old hA hA.all) w hM) ((rd_old hB hB.all) w hM))) (by decide) ?_
  refine st_v (rv_subZ rfl rfl (by omega)) (by decide) ?_
  refine st_v (rv_assign rfl) (by decide) ?_
  refine st_nil ?_
  refine st_then ?_
  refine st_block ?_
  refine st_loopA (σ := Nat) [(0, kst _), (1, kst _), (5, fun k => vI ((k : Nat) - 1 : Int))] [] (fun k => k ≤ max la lb ∧ A / W32 ^ k = B / W32 ^ k) (fun k => k) (max la lb) (⟨Nat.le_refl _, by rw [Nat.div_eq_of_lt (Nat.lt_of_lt_of_le hlA (Nat.pow_le_pow_right (by decide) (by omega))), Nat.div_eq_of_lt (Nat.lt_of_lt_of_le hlB (Nat.pow_le_pow_right (by decide) (by omega)))]⟩) (.cons rfl (.cons rfl (.cons rfl (.nil _)))) (fun _ hM => hM) ?_
  intro k hI
  try dsimp only at hI
  dsimp only [List.map, kst]
  refine st_seq ?_
  refine st_seq ?_
  refine st_region ?_
  refine st_v (rv_move rfl) (by decide) ?_
  refine st_v (rv_geqZ rfl rfl) (by decide) ?_
  refine st_nil ?_
  refine st_then ?_
  refine st_cond rfl (fun hc13 => ?_) (fun hc13 => ?_)
  · -- t13 True
    try simp only [z1, z2, z3, z4, z5, z6, z7, z8, z9, z10, z11, z12, z13, z14] at hc13
    obtain ⟨j, rfl⟩ : ∃ j, k = j + 1 := ⟨k - 1, by omega⟩
    rw [dn_succ]
    refine st_skip ?_
    refine st_then ?_
    refine st_seq ?_
    refine st_block ?_
    refine st_seq ?_
    refine st_region ?_
    refine st_v (rv_move rfl) (by decide) ?_
    refine st_v (rv_move rfl) (by decide) ?_
    refine st_call0 cal112 rfl (fun w hM => (digit_calls _ _ A j hlA w ((rd_old hA hA.all) w hM))) (by decide) ?_
    refine st_v (rv_assign rfl) (by decide) ?_
    refine st_nil ?_
    refine st_then ?_
    refine st_seq ?_
    refine st_region ?_
    refine st_v (rv_move rfl) (by decide) ?_
    refine st_v (rv_move rfl) (by decide) ?_
    refine st_call0 cal112 rfl (fun w hM => (digit_calls _ _ B j hlB w ((rd_old hB hB.all) w hM))) (by decide) ?_
    refine st_v (rv_assign rfl) (by decide) ?_
    refine st_nil ?_
    refine st_then ?_
    refine st_seq ?_
    refine st_region ?_
    refine st_v (rv_move rfl) (by decide) ?_
    refine st_v (rv_move rfl) (by decide) ?_
    refine st_v (rv_neq32 rfl rfl) (by decide) ?_
    refine st_nil ?_
    refine st_then ?_
    refine st_cond rfl (fun hc24 => ?_) (fun hc24 => ?_)
    · -- t24 True
      try simp only [z1, z2, z3, z4, z5, z6, z7, z8, z9, z10, z11, z12, z13, z14] at hc24
      have hlw := less_word hI.2 hc24
      refine st_seq ?_
      refine st_region ?_
      refine st_v (rv_move rfl) (by decide) ?_
      refine st_v (rv_move rfl) (by decide) ?_
      refine st_v (rv_lss32 rfl rfl) (by decide) ?_
      refine st_v (rv_assign rfl) (by decide) ?_
      refine st_nil ?_
      refine st_then ?_
      refine st_ret ?_
      refine st_in_ret ?_
      refine st_then_ret ?_
      refine st_then_ret ?_
      refine st_in_ret ?_
      refine st_then_ret ?_
      exact st_done rfl rfl (fun w hM => ⟨by rw [← hlw], hM.sublist (List.nil_sublist _)⟩)
    · -- t24 False
      try simp only [z1, z2, z3, z4, z5, z6, z7, z8, z9, z10, z11, z12, z13, z14] at hc24
      have hsw := same_word hI.2 hc24
      refine st_skip ?_
      refine st_in_normal ?_
      refine st_then ?_
      refine st_region ?_
      refine st_v (rv_move rfl) (by decide) ?_
      refine st_v (rv_subZ rfl rfl (by omega)) (by decide) ?_
      refine st_v (rv_assign rfl) (by decide) ?_
      refine st_nil ?_
      refine st_then ?_
      exact st_again j (⟨by omega, hsw⟩) (by omega) (.cons rfl (.cons rfl (.cons rfl (.nil _)))) (fun _ hM => hM)
  · -- t13 False
    try simp only [z1, z2, z3, z4, z5, z6, z7, z8, z9, z10, z11, z12, z13, z14] at hc13
    obtain rfl : k = 0 := by omega
    have hlw : false = decide (A < B) := (decide_eq_false (by have := hI.2; simp at this; omega)).symm
    refine st_exit ?_
    refine st_then_exit ?_
    refine st_then_exit ?_
    refine st_in_exit ?_
    refine st_then ?_
    refine st_seq ?_
    refine st_region ?_
    refine st_v (rv_assign rfl) (by decide) ?_
    refine st_nil ?_
    refine st_then ?_
    refine st_ret ?_
    exact st_done rfl rfl (fun w hM => ⟨by rw [← hlw], hM.sublist (List.nil_sublist _)⟩)
end Go.Proofs.YtjhjjhpfjadjpaaDoor
