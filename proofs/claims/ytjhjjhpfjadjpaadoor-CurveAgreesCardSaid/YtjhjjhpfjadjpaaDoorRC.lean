/- Walks: what functions of the given program do, operation by operation. Written by wip/gen. -/
import Derived.Test.YtjhjjhpfjadjpaaDoorRB
import Derived.Test.YtjhjjhpfjadjpaaDoorMM
namespace Go.Proofs.YtjhjjhpfjadjpaaDoor
set_option linter.all false
open Go
theorem pw255 : (List.replicate 8 0#32).set 7 (1#32 <<< 31) = n32 8 (2 ^ 255) := by decide +kernel
set_option maxRecDepth 20000 in
theorem power255_calls (w : World) : Calls Tryd.prog 131 #[vI (255 : Nat)] w (fun e w' => ∃ r, e = .returned r ∧ Mem (All w) w w' [own r 91 1 (8) ((n32 (8) (2 ^ 255)).map U32)]) := by
  refine calls_of_st (n := 16) (args := [vI (255 : Nat)]) Tryd.func131 rfl Tryd.ntmps131 (Nat.le_of_ble_eq_true rfl) (Mem.all w) ?_
  refine st_seq ?_
  refine st_region ?_
  refine st_v (rv_assign rfl) (by decide) ?_
  refine st_nil ?_
  refine st_then ?_
  refine st_seq ?_
  refine st_region ?_
  refine st_v (rv_move rfl) (by decide) ?_
  refine st_v (rv_to (u := vI (7 : Nat)) (rv_quoN (a := 255) (b := 32) rfl rfl (by decide)) rfl) (by decide) ?_
  refine st_v (rv_to (u := vI (8 : Nat)) (rv_addN (b := 1) rfl rfl (by decide)) rfl) (by decide) ?_
  refine st_makeO32 Tryd.underlying36 tyZ91 rfl rfl (by omega) (by omega) (by decide) (fun v1 => ?_)
  refine st_v (rv_assign rfl) (by decide) ?_
  refine st_nil ?_
  refine st_then ?_
  refine st_seq ?_
  refine st_region ?_
  refine st_v (rv_move rfl) (by decide) ?_
  refine st_v (rv_move rfl) (by decide) ?_
  refine st_v (rv_to (u := vI (7 : Nat)) (rv_quoN (a := 255) (b := 32) rfl rfl (by decide)) rfl) (by decide) ?_
  refine st_v (rv_move rfl) (by decide) ?_
  refine st_v (rv_to (u := vI (31 : Nat)) (rv_remN (a := 255) (b := 32) rfl rfl (by decide)) rfl) (by decide) ?_
  refine st_v (rv_shl32 (a := 1#32) rfl rfl rfl) (by decide) ?_
  refine st_v (rv_indexR1 (rd_own (i := 0) rfl) Tryd.underlying36 sz91 rfl rfl rfl (by first | omega | (simp <;> omega))) (by decide) ?_
  refine st_storeOwn32 rfl rfl (i := 0) rfl sz91 (by first | omega | (simp <;> omega)) rfl ?_
  rw [pw255]
  refine st_nil ?_
  refine st_then ?_
  refine st_seq ?_
  refine st_region ?_
  refine st_v (rv_move rfl) (by decide) ?_
  refine st_v (rv_assign rfl) (by decide) ?_
  refine st_nil ?_
  refine st_then ?_
  refine st_ret ?_
  exact st_done rfl rfl (fun w hM => ⟨_, rfl, hM⟩)
theorem pw252 : (List.replicate 8 0#32).set 7 (1#32 <<< 28) = n32 8 (2 ^ 252) := by decide +kernel
set_option maxRecDepth 20000 in
theorem power252_calls (w : World) : Calls Tryd.prog 131 #[vI (252 : Nat)] w (fun e w' => ∃ r, e = .returned r ∧ Mem (All w) w w' [own r 91 1 (8) ((n32 (8) (2 ^ 252)).map U32)]) := by
  refine calls_of_st (n := 16) (args := [vI (252 : Nat)]) Tryd.func131 rfl Tryd.ntmps131 (Nat.le_of_ble_eq_true rfl) (Mem.all w) ?_
  refine st_seq ?_
  refine st_region ?_
  refine st_v (rv_assign rfl) (by decide) ?_
  refine st_nil ?_
  refine st_then ?_
  refine st_seq ?_
  refine st_region ?_
  refine st_v (rv_move rfl) (by decide) ?_
  refine st_v (rv_to (u := vI (7 : Nat)) (rv_quoN (a := 252) (b := 32) rfl rfl (by decide)) rfl) (by decide) ?_
  refine st_v (rv_to (u := vI (8 : Nat)) (rv_addN (b := 1) rfl rfl (by decide)) rfl) (by decide) ?_
  refine st_makeO32 Tryd.underlying36 tyZ91 rfl rfl (by omega) (by omega) (by decide) (fun v1 => ?_)
  refine st_v (rv_assign rfl) (by decide) ?_
  refine st_nil ?_
  refine st_then ?_
  refine st_seq ?_
  refine st_region ?_
  refine st_v (rv_move rfl) (by decide) ?_
  refine st_v (rv_move rfl) (by decide) ?_
  refine st_v (rv_to (u := vI (7 : Nat)) (rv_quoN (a := 252) (b := 32) rfl rfl (by decide)) rfl) (by decide) ?_
  refine st_v (rv_move rfl) (by decide) ?_
  refine st_v (rv_to (u := vI (28 : Nat)) (rv_remN (a := 252) (b := 32) rfl rfl (by decide)) rfl) (by decide) ?_
  refine st_v (rv_shl32 (a := 1#32) rfl rfl rfl) (by decide) ?_
  refine st_v (rv_indexR1 (rd_own (i := 0) rfl) Tryd.underlying36 sz91 rfl rfl rfl (by first | omega | (simp <;> omega))) (by decide) ?_
  refine st_storeOwn32 rfl rfl (i := 0) rfl sz91 (by first | omega | (simp <;> omega)) rfl ?_
  rw [pw252]
  refine st_nil ?_
  refine st_then ?_
  refine st_seq ?_
  refine st_region ?_
  refine st_v (rv_move rfl) (by decide) ?_
  refine st_v (rv_assign rfl) (by decide) ?_
  refine st_nil ?_
  refine st_then ?_
  refine st_ret ?_
  exact st_done rfl rfl (fun w hM => ⟨_, rfl, hM⟩)
set_option maxRecDepth 20000 in
theorem eight_calls (v : Value) (la A : Nat) (hlA : A < W32 ^ la) (w : World) (hA : Rd w v la 1 ((n32 (la) (A)).map U32)) : Calls Tryd.prog 133 #[v] w (fun e w' => ∃ r, e = .returned r ∧ Mem (All w) w w' [own r 91 1 (8) ((n32 (8) (A)).map U32)]) := by
  refine calls_of_st (n := 17) (args := [v]) Tryd.func133 rfl Tryd.ntmps133 (Nat.le_of_ble_eq_true rfl) (Mem.all w) ?_
  refine st_seq ?_
  refine st_region ?_
  refine st_v (rv_assign rfl) (by decide) ?_
  refine st_nil ?_
  refine st_then ?_
  refine st_seq ?_
  refine st_region ?_
  refine st_makeO32 Tryd.underlying36 tyZ91 (len := 8) rfl rfl (by omega) (by omega) (by decide) (fun v1 => ?_)
  rw [n32_zero, ← mixW_zero 8 A 0]
  refine st_v (rv_assign rfl) (by decide) ?_
  refine st_nil ?_
  refine st_then ?_
  refine st_seq ?_
  refine st_seq ?_
  refine st_region ?_
  refine st_v (rv_assign rfl) (by decide) ?_
  refine st_nil ?_
  refine st_then ?_
  refine st_block ?_
  refine st_loopA (σ := Nat) [(0, kst _), (3, kst _), (4, fun i => vI i)] [fun i => own v1 91 1 8 ((mixW 8 A 0 i).map U32)] (fun i => i ≤ 8) (fun i => 8 - i) 0 (by omega) (.cons rfl (.cons rfl (.cons rfl (.nil _)))) (fun _ hM => hM) ?_
  intro i hI
  try dsimp only at hI
  dsimp only [List.map, kst]
  refine st_seq ?_
  refine st_seq ?_
  refine st_region ?_
  refine st_v (rv_move rfl) (by decide) ?_
  refine st_v (rv_lssZ rfl rfl) (by decide) ?_
  refine st_nil ?_
  refine st_then ?_
  refine st_cond rfl (fun hc7 => ?_) (fun hc7 => ?_)
  · -- t7 True
    try simp only [z1, z2, z3, z4, z5, z6, z7, z8, z9, z10, z11, z12, z13, z14] at hc7
    refine st_skip ?_
    refine st_then ?_
    refine st_seq ?_
    refine st_block ?_
    refine st_region ?_
    refine st_v (rv_move rfl) (by decide) ?_
    refine st_v (rv_move rfl) (by decide) ?_
    refine st_v (rv_move rfl) (by decide) ?_
    refine st_v (rv_move rfl) (by decide) ?_
    refine st_call0 cal112 rfl (fun w hM => (digit_calls _ la (A) i hlA w ((rd_old hA hA.all) w hM))) (by decide) ?_
    refine st_v (rv_indexR1 (rd_own (i := 0) rfl) Tryd.underlying36 sz91 rfl rfl rfl (by first | omega | (rw [length_mixW (by omega)]; omega) | (simp <;> omega))) (by decide) ?_
    refine st_storeOwn32 rfl rfl (i := 0) rfl sz91 (by first | omega | (rw [length_mixW (by omega)]; omega) | (simp <;> omega)) rfl ?_
    refine st_nil ?_
    refine st_in_normal ?_
    refine st_then ?_
    refine st_region ?_
    refine st_v (rv_move rfl) (by decide) ?_
    first | refine st_v (rv_addN (b := 1) rfl rfl (by first | omega | (simp; done) | (simp; omega))) (by decide) ?_ | refine st_v (rv_addZ rfl rfl (by first | omega | (simp; done) | (simp; omega))) (by decide) ?_
    refine st_v (rv_assign rfl) (by decide) ?_
    refine st_nil ?_
    refine st_then ?_
    rw [mixW_set (by omega)]
    exact st_again (i + 1) (by omega) (by omega) (.cons rfl (.cons rfl (.cons rfl (.nil _)))) (fun _ hM => hM)
  · -- t7 False
    try simp only [z1, z2, z3, z4, z5, z6, z7, z8, z9, z10, z11, z12, z13, z14] at hc7
    obtain rfl : i = 8 := by omega
    refine st_exit ?_
    refine st_then_exit ?_
    refine st_then_exit ?_
    refine st_in_exit ?_
    refine st_then ?_
    refine st_seq ?_
    refine st_region ?_
    refine st_v (rv_move rfl) (by decide) ?_
    refine st_v (rv_assign rfl) (by decide) ?_
    refine st_nil ?_
    refine st_then ?_
    refine st_ret ?_
    exact st_done rfl rfl (fun w hM => ⟨_, rfl, by rw [mixW_all] at hM; exact hM⟩)
set_option maxRecDepth 20000 in
set_option maxHeartbeats 1000000 in
theorem half_odd (vp v : Value) (p A : Nat) (hp : p < W32 ^ 8) (hlA : A < W32 ^ 8) (ho : A % 2 = 1) (w : World) (hP : Rd w vp 8 1 ((n32 8 p).map U32)) (hA : Rd w v 8 1 ((n32 (8) (A)).map U32)) : Calls Tryd.prog 109 #[.agg #[vp], v] w (fun e w' => ∃ r, e = .returned r ∧ Mem (All w) w w' [own r 91 1 (8) ((n32 (8) ((A + p) / 2)).map U32)]) := by
  have hX : A + p < W32 ^ (max 8 8 + 1) := by have := hlf_lt (k := 0) hlA hp; rw [if_pos ho] at this; exact this
  refine calls_of_st (n := 35) (args := [.agg #[vp], v]) Tryd.func109 rfl Tryd.ntmps109 (Nat.le_of_ble_eq_true rfl) (Mem.all w) ?_
  refine st_seq ?_
  refine st_region ?_
  refine st_box rfl (by decide) rfl (fun b1 hb1 => ?_)
  refine st_v (rv_assign rfl) (by decide) ?_
  refine st_nil ?_
  refine st_then ?_
  refine st_seq ?_
  refine st_seq ?_
  refine st_region ?_
  refine st_v (rv_move rfl) (by decide) ?_
  refine st_v (rv_indexR1 (rd_old hA hA.all) Tryd.underlying36 sz91 rfl rfl (j := 0) rfl (by first | omega | (rw [length_mixW (by omega)]; omega) | (simp <;> omega))) (by decide) ?_
  refine st_v (rv_load_rd (rd_old hA hA.all) tyS91 rfl (get32 (by first | omega | (rw [length_mixW (by omega)]; omega) | (simp <;> omega)))) (by decide) ?_
  refine st_v (rv_and32 (b := 1#32) rfl rfl) (by decide) ?_
  refine st_v (rv_to (u := .bool true) (rv_eql32 (b := 1#32) rfl rfl) (congrArg Value.bool (decide_eq_true ((odd_of hlA).2 ho)))) (by decide) ?_
  refine st_nil ?_
  refine st_then ?_
  refine st_true rfl ?_
  refine st_region ?_
  refine st_v (rv_move rfl) (by decide) ?_
  refine st_v (rv_fieldAddr (k := 0) Tryd.underlying93 (fs := _) rfl sz36 rfl rfl) (by decide) ?_
  refine st_v (rv_load_blk tyS36 rfl (i := 0) rfl rfl) (by decide) ?_
  refine st_call1 (ρ := Value) (fun r => r) (fun _ => True) (fun r => [own r 91 1 (max 8 8 + 1) ((n32 (max 8 8 + 1) (A + p)).map U32)]) cal107 rfl (fun w hM => ((rplus_calls _ _ 8 8 A p (by decide) (by decide) hlA hp w ((rd_old hA hA.all) w hM) ((rd_old hP hP.all) w hM))).mono fun e w' ⟨r, h1, h2⟩ => ⟨r, h1, trivial, h2⟩) (by decide) (fun r2 _ => ?_)
  refine st_v (rv_assign rfl) (by decide) ?_
  refine st_nil ?_
  refine st_then ?_
  refine st_seq ?_
  refine st_region ?_
  refine st_makeO32 Tryd.underlying36 tyZ91 (len := 8) rfl rfl (by omega) (by omega) (by decide) (fun v3 => ?_)
  rw [n32_zero, ← mixW_zero 8 ((A + p) / 2) 0]
  refine st_v (rv_assign rfl) (by decide) ?_
  refine st_nil ?_
  refine st_then ?_
  refine st_seq ?_
  refine st_seq ?_
  refine st_region ?_
  refine st_v (rv_assign rfl) (by decide) ?_
  refine st_nil ?_
  refine st_then ?_
  refine st_block ?_
  refine st_loopA (σ := Nat) [(1, kst _), (5, kst _), (6, fun i => vI i)] [fun i => own v3 91 1 8 ((mixW 8 ((A + p) / 2) 0 i).map U32), kst _, kst _] (fun i => i ≤ 8) (fun i => 8 - i) 0 (by omega) (.cons rfl (.cons rfl (.cons rfl (.nil _)))) (fun _ hM => hM) ?_
  intro i hI
  try dsimp only at hI
  dsimp only [List.map, kst]
  refine st_seq ?_
  refine st_seq ?_
  refine st_region ?_
  refine st_v (rv_move rfl) (by decide) ?_
  refine st_v (rv_lssZ rfl rfl) (by decide) ?_
  refine st_nil ?_
  refine st_then ?_
  refine st_cond rfl (fun hc18 => ?_) (fun hc18 => ?_)
  · -- t18 True
    try simp only [z1, z2, z3, z4, z5, z6, z7, z8, z9, z10, z11, z12, z13, z14] at hc18
    refine st_skip ?_
    refine st_then ?_
    refine st_seq ?_
    refine st_block ?_
    refine st_region ?_
    refine st_v (rv_move rfl) (by decide) ?_
    refine st_v (rv_move rfl) (by decide) ?_
    refine st_v (rv_move rfl) (by decide) ?_
    refine st_v (rv_move rfl) (by decide) ?_
    refine st_call0 cal112 rfl (fun w hM => (digit_calls _ (max 8 8 + 1) (A + p) i hX w ((rd_own (i := 1) rfl) w hM))) (by decide) ?_
    refine st_v (rv_shr32 (s := 1) rfl rfl rfl) (by decide) ?_
    refine st_v (rv_move rfl) (by decide) ?_
    refine st_v (rv_move rfl) (by decide) ?_
    first | refine st_v (rv_addN (b := 1) rfl rfl (by first | omega | (simp; done) | (simp; omega))) (by decide) ?_ | refine st_v (rv_addZ rfl rfl (by first | omega | (simp; done) | (simp; omega))) (by decide) ?_
    refine st_call0 cal112 rfl (fun w hM => (digit_calls _ (max 8 8 + 1) (A + p) (i + 1) hX w ((rd_own (i := 1) rfl) w hM))) (by decide) ?_
    refine st_v (rv_shl32 (s := 31) rfl rfl rfl) (by decide) ?_
    refine st_v (rv_or32 rfl rfl) (by decide) ?_
    rw [half_word]
    refine st_v (rv_indexR1 (rd_own (i := 0) rfl) Tryd.underlying36 sz91 rfl rfl rfl (by first | omega | (rw [length_mixW (by omega)]; omega) | (simp <;> omega))) (by decide) ?_
    refine st_storeOwn32 rfl rfl (i := 0) rfl sz91 (by first | omega | (rw [length_mixW (by omega)]; omega) | (simp <;> omega)) rfl ?_
    refine st_nil ?_
    refine st_in_normal ?_
    refine st_then ?_
    refine st_region ?_
    refine st_v (rv_move rfl) (by decide) ?_
    first | refine st_v (rv_addN (b := 1) rfl rfl (by first | omega | (simp; done) | (simp; omega))) (by decide) ?_ | refine st_v (rv_addZ rfl rfl (by first | omega | (simp; done) | (simp; omega))) (by decide) ?_
    refine st_v (rv_assign rfl) (by decide) ?_
    refine st_nil ?_
    refine st_then ?_
    rw [mixW_set (by omega)]
    exact st_again (i + 1) (by omega) (by omega) (.cons rfl (.cons rfl (.cons rfl (.nil _)))) (fun _ hM => hM)
  · -- t18 False
    try simp only [z1, z2, z3, z4, z5, z6, z7, z8, z9, z10, z11, z12, z13, z14] at hc18
    obtain rfl : i = 8 := by omega
    refine st_exit ?_
    refine st_then_exit ?_
    refine st_then_exit ?_
    refine st_in_exit ?_
    refine st_then ?_
    refine st_seq ?_
    refine st_region ?_
    refine st_v (rv_move rfl) (by decide) ?_
    refine st_v (rv_assign rfl) (by decide) ?_
    refine st_nil ?_
    refine st_then ?_
    refine st_ret ?_
    exact st_done rfl rfl (fun w hM => ⟨_, rfl, by rw [mixW_all] at hM; exact hM.sublist (List.Sublist.cons_cons _ (List.Sublist.cons _ (List.Sublist.cons _ (List.Sublist.slnil))))⟩)
set_option maxRecDepth 20000 in
set_option maxHeartbeats 1000000 in
theorem half_even (vp v : Value) (p A : Nat) (hp : p < W32 ^ 8) (hlA : A < W32 ^ 8) (ho : A % 2 = 0) (w : World) (hP : Rd w vp 8 1 ((n32 8 p).map U32)) (hA : Rd w v 8 1 ((n32 (8) (A)).map U32)) : Calls Tryd.prog 109 #[.agg #[vp], v] w (fun e w' => ∃ r, e = .returned r ∧ Mem (All w) w w' [own r 91 1 (8) ((n32 (8) ((A) / 2)).map U32)]) := by
  refine calls_of_st (n := 35) (args := [.agg #[vp], v]) Tryd.func109 rfl Tryd.ntmps109 (Nat.le_of_ble_eq_true rfl) (Mem.all w) ?_
  refine st_seq ?_
  refine st_region ?_
  refine st_box rfl (by decide) rfl (fun b1 hb1 => ?_)
  refine st_v (rv_assign rfl) (by decide) ?_
  refine st_nil ?_
  refine st_then ?_
  refine st_seq ?_
  refine st_seq ?_
  refine st_region ?_
  refine st_v (rv_move rfl) (by decide) ?_
  refine st_v (rv_indexR1 (rd_old hA hA.all) Tryd.underlying36 sz91 rfl rfl (j := 0) rfl (by first | omega | (rw [length_mixW (by omega)]; omega) | (simp <;> omega))) (by decide) ?_
  refine st_v (rv_load_rd (rd_old hA hA.all) tyS91 rfl (get32 (by first | omega | (rw [length_mixW (by omega)]; omega) | (simp <;> omega)))) (by decide) ?_
  refine st_v (rv_and32 (b := 1#32) rfl rfl) (by decide) ?_
  refine st_v (rv_to (u := .bool false) (rv_eql32 (b := 1#32) rfl rfl) (congrArg Value.bool (decide_eq_false (fun h => by have := (odd_of hlA).1 h; omega)))) (by decide) ?_
  refine st_nil ?_
  refine st_then ?_
  refine st_false rfl ?_
  refine st_skip ?_
  refine st_then ?_
  refine st_seq ?_
  refine st_region ?_
  refine st_makeO32 Tryd.underlying36 tyZ91 (len := 8) rfl rfl (by omega) (by omega) (by decide) (fun v2 => ?_)
  rw [n32_zero, ← mixW_zero 8 ((A) / 2) 0]
  refine st_v (rv_assign rfl) (by decide) ?_
  refine st_nil ?_
  refine st_then ?_
  refine st_seq ?_
  refine st_seq ?_
  refine st_region ?_
  refine st_v (rv_assign rfl) (by decide) ?_
  refine st_nil ?_
  refine st_then ?_
  refine st_block ?_
  refine st_loopA (σ := Nat) [(1, kst _), (5, kst _), (6, fun i => vI i)] [fun i => own v2 91 1 8 ((mixW 8 ((A) / 2) 0 i).map U32), kst _] (fun i => i ≤ 8) (fun i => 8 - i) 0 (by omega) (.cons rfl (.cons rfl (.cons rfl (.nil _)))) (fun _ hM => hM) ?_
  intro i hI
  try dsimp only at hI
  dsimp only [List.map, kst]
  refine st_seq ?_
  refine st_seq ?_
  refine st_region ?_
  refine st_v (rv_move rfl) (by decide) ?_
  refine st_v (rv_lssZ rfl rfl) (by decide) ?_
  refine st_nil ?_
  refine st_then ?_
  refine st_cond rfl (fun hc18 => ?_) (fun hc18 => ?_)
  · -- t18 True
    try simp only [z1, z2, z3, z4, z5, z6, z7, z8, z9, z10, z11, z12, z13, z14] at hc18
    refine st_skip ?_
    refine st_then ?_
    refine st_seq ?_
    refine st_block ?_
    refine st_region ?_
    refine st_v (rv_move rfl) (by decide) ?_
    refine st_v (rv_move rfl) (by decide) ?_
    refine st_v (rv_move rfl) (by decide) ?_
    refine st_v (rv_move rfl) (by decide) ?_
    refine st_call0 cal112 rfl (fun w hM => (digit_calls _ (8) (A) i hlA w ((rd_old hA hA.all) w hM))) (by decide) ?_
    refine st_v (rv_shr32 (s := 1) rfl rfl rfl) (by decide) ?_
    refine st_v (rv_move rfl) (by decide) ?_
    refine st_v (rv_move rfl) (by decide) ?_
    first | refine st_v (rv_addN (b := 1) rfl rfl (by first | omega | (simp; done) | (simp; omega))) (by decide) ?_ | refine st_v (rv_addZ rfl rfl (by first | omega | (simp; done) | (simp; omega))) (by decide) ?_
    refine st_call0 cal112 rfl (fun w hM => (digit_calls _ (8) (A) (i + 1) hlA w ((rd_old hA hA.all) w hM))) (by decide) ?_
    refine st_v (rv_shl32 (s := 31) rfl rfl rfl) (by decide) ?_
    refine st_v (rv_or32 rfl rfl) (by decide) ?_
    rw [half_word]
    refine st_v (rv_indexR1 (rd_own (i := 0) rfl) Tryd.underlying36 sz91 rfl rfl rfl (by first | omega | (rw [length_mixW (by omega)]; omega) | (simp <;> omega))) (by decide) ?_
    refine st_storeOwn32 rfl rfl (i := 0) rfl sz91 (by first | omega | (rw [length_mixW (by omega)]; omega) | (simp <;> omega)) rfl ?_
    refine st_nil ?_
    refine st_in_normal ?_
    refine st_then ?_
    refine st_region ?_
    refine st_v (rv_move rfl) (by decide) ?_
    first | refine st_v (rv_addN (b := 1) rfl rfl (by first | omega | (simp; done) | (simp; omega))) (by decide) ?_ | refine st_v (rv_addZ rfl rfl (by first | omega | (simp; done) | (simp; omega))) (by decide) ?_
    refine st_v (rv_assign rfl) (by decide) ?_
    refine st_nil ?_
    refine st_then ?_
    rw [mixW_set (by omega)]
    exact st_again (i + 1) (by omega) (by omega) (.cons rfl (.cons rfl (.cons rfl (.nil _)))) (fun _ hM => hM)
  · -- t18 False
    try simp only [z1, z2, z3, z4, z5, z6, z7, z8, z9, z10, z11, z12, z13, z14] at hc18
    obtain rfl : i = 8 := by omega
    refine st_exit ?_
    refine st_then_exit ?_
    refine st_then_exit ?_
    refine st_in_exit ?_
    refine st_then ?_
    refine st_seq ?_
    refine st_region ?_
    refine st_v (rv_move rfl) (by decide) ?_
    refine st_v (rv_assign rfl) (by decide) ?_
    refine st_nil ?_
    refine st_then ?_
    refine st_ret ?_
    exact st_done rfl rfl (fun w hM => ⟨_, rfl, by rw [mixW_all] at hM; exact hM.sublist (List.Sublist.cons_cons _ (List.Sublist.cons _ (List.Sublist.slnil)))⟩)
theorem half_calls (vp v : Value) (p A : Nat) (hp : p < W32 ^ 8) (hlA : A < W32 ^ 8) (w : World) (hP : Rd w vp 8 1 ((n32 8 p).map U32)) (hA : Rd w v 8 1 ((n32 (8) (A)).map U32)) : Calls Tryd.prog 109 #[.agg #[vp], v] w (fun e w' => ∃ r, e = .returned r ∧ Mem (All w) w w' [own r 91 1 (8) ((n32 (8) (hlf p A)).map U32)]) := by
  rw [hlf]
  by_cases ho : A % 2 = 1
  · rw [if_pos ho]; exact half_odd vp v p A hp hlA ho w hP hA
  · rw [if_neg ho]; exact half_even vp v p A hp hlA (by omega) w hP hA
set_option maxRecDepth 20000 in
theorem FAdd_calls (vp v u : Value) (p x y : Nat) (hp7 : W32 ^ 7 ≤ p) (hp8 : p < W32 ^ 8) (hx : x < p) (hy : y < p) (w : World) (hP : Rd w vp 8 1 ((n32 8 p).map U32)) (hA : Rd w v 8 1 ((n32 (8) (x)).map U32)) (hB : Rd w u 8 1 ((n32 (8) (y)).map U32)) : Calls Tryd.prog 77 #[.agg #[vp], v, u] w (fun e w' => ∃ r, e = .returned r ∧ Mem (All w) w w' [own r 91 1 (8) ((n32 (8) ((x + y) % p)).map U32)]) := by
  have hx8 : x < W32 ^ 8 := by omega
  have hy8 : y < W32 ^ 8 := by omega
  have h98 : W32 ^ (max 8 8 + 1) = 4294967296 * W32 ^ 8 := by rw [← Nat.pow_succ']; rfl
  refine calls_of_st (n := 13) (args := [.agg #[vp], v, u]) Tryd.func77 rfl Tryd.ntmps77 (Nat.le_of_ble_eq_true rfl) (Mem.all w) ?_
  refine st_seq ?_
  refine st_region ?_
  refine st_box rfl (by decide) rfl (fun b1 hb1 => ?_)
  refine st_v (rv_assign rfl) (by decide) ?_
  refine st_nil ?_
  refine st_then ?_
  refine st_seq ?_
  refine st_drawStart mixed ?_
  refine st_drawSeg1 (E0 := [(1, _), (2, _), (3, _), (6, _)]) [kpeq _, kpeq _, (fun _ v => own v 91 1 (max 8 8 + 1) ((n32 (max 8 8 + 1) (x + y)).map U32)), kpeq _, kpeq _] 0 5 [0, 0, 3, 0, 8, 31, 63] [1, 2, 3, 6] (by kernel_rfl) (by decide) (by kernel_rfl) (.cons rfl (.cons rfl (.cons rfl (.cons rfl (.nil _))))) rfl rfl (hall_cons (hop_mv rfl (by decide) rfl rfl) (hall_cons (hop_mv rfl (by decide) rfl rfl) (hall_cons (hop_val [(0, 7, _), (1, 8, _)] [] rfl rfl rfl (by decide) rfl (jcons rfl rfl rfl rfl rfl (jcons rfl rfl rfl rfl rfl (jnil))) (xnil) (fun _ _ _ _ => does_call cal107 rfl (fun w hM => (rplus_calls _ _ 8 8 x y (by decide) (by decide) hx8 hy8 w ((rd_old hA hA.all) w hM) ((rd_old hB hB.all) w hM))))) (hall_cons (hop_val [] [] rfl rfl rfl (by decide) rfl (jnil) (xnil) (fun _ _ _ _ => does_v (rv_fieldAddr (k := 0) Tryd.underlying93 (fs := _) rfl sz36 rfl rfl))) (hall_cons (hop_val [(3, 10, _)] [] rfl rfl rfl (by decide) rfl (jcons rfl rfl rfl rfl rfl (jnil)) (xnil) (fun _ _ _ _ => does_v (rv_load_blk tyS36 rfl (i := 0) rfl rfl))) (hall_nil)))))) (draw_end [(4, 11, _)] [(2, 9, (fun _ v => own v 91 1 (max 8 8 + 1) ((n32 (max 8 8 + 1) (x + y)).map U32)))] rfl (jcons rfl rfl rfl rfl rfl (jnil)) (xcons rfl rfl rfl rfl rfl rfl (xnil)) (fun vals => ?_))
  dsimp only [xenv, xmem]
  refine st_drawTail (N := 5) [0, 0, 3, 0, 8, 31, 63] (by kernel_rfl) (by kernel_rfl) ?_
  refine st_call1 (ρ := Value) (fun r => r) (fun _ => True) (fun r => [own r 91 1 (8) ((n32 (8) ((x + y) % p)).map U32)]) cal105 rfl (fun w hM => ((rMod_calls _ _ (max 8 8 + 1) (x + y) p (by decide) (by omega) hp7 hp8 w ((rd_own (i := 0) rfl) w hM) ((rd_old hP hP.all) w hM))).mono fun e w' ⟨r, h1, h2⟩ => ⟨r, h1, trivial, h2⟩) (by decide) (fun r3 _ => ?_)
  refine st_v (rv_assign rfl) (by decide) ?_
  refine st_nil ?_
  refine st_then ?_
  refine st_ret ?_
  exact st_done rfl rfl (fun w hM => ⟨_, rfl, hM.sublist (List.Sublist.cons_cons _ (List.Sublist.cons _ (List.Sublist.cons _ (List.Sublist.slnil))))⟩)
set_option maxRecDepth 20000 in
theorem FMul_calls (vp v u : Value) (p x y : Nat) (hp7 : W32 ^ 7 ≤ p) (hp8 : p < W32 ^ 8) (hx : x < p) (hy : y < p) (w : World) (hP : Rd w vp 8 1 ((n32 8 p).map U32)) (hA : Rd w v 8 1 ((n32 (8) (x)).map U32)) (hB : Rd w u 8 1 ((n32 (8) (y)).map U32)) : Calls Tryd.prog 66 #[.agg #[vp], v, u] w (fun e w' => ∃ r, e = .returned r ∧ Mem (All w) w w' [own r 91 1 (8) ((n32 (8) ((x * y) % p)).map U32)]) := by
  have hx8 : x < W32 ^ 8 := by omega
  have hy8 : y < W32 ^ 8 := by omega
  have h98 : W32 ^ (max 8 8 + 1) = 4294967296 * W32 ^ 8 := by rw [← Nat.pow_succ']; rfl
  have hxy : x * y < W32 ^ (8 + 8) := by rw [Nat.pow_add]; exact Nat.lt_of_le_of_lt (Nat.mul_le_mul_left _ (Nat.le_of_lt hy8)) (Nat.mul_lt_mul_of_pos_right hx8 (Wpos 8))
  refine calls_of_st (n := 13) (args := [.agg #[vp], v, u]) Tryd.func66 rfl Tryd.ntmps66 (Nat.le_of_ble_eq_true rfl) (Mem.all w) ?_
  refine st_seq ?_
  refine st_region ?_
  refine st_box rfl (by decide) rfl (fun b1 hb1 => ?_)
  refine st_v (rv_assign rfl) (by decide) ?_
  refine st_nil ?_
  refine st_then ?_
  refine st_seq ?_
  refine st_drawStart mixed ?_
  refine st_drawSeg1 (E0 := [(1, _), (2, _), (3, _), (6, _)]) [kpeq _, kpeq _, (fun _ v => own v 91 1 (8 + 8) ((n32 (8 + 8) (x * y)).map U32)), kpeq _, kpeq _] 0 5 [0, 0, 3, 0, 8, 31, 63] [1, 2, 3, 6] (by kernel_rfl) (by decide) (by kernel_rfl) (.cons rfl (.cons rfl (.cons rfl (.cons rfl (.nil _))))) rfl rfl (hall_cons (hop_mv rfl (by decide) rfl rfl) (hall_cons (hop_mv rfl (by decide) rfl rfl) (hall_cons (hop_val [(0, 7, _), (1, 8, _)] [] rfl rfl rfl (by decide) rfl (jcons rfl rfl rfl rfl rfl (jcons rfl rfl rfl rfl rfl (jnil))) (xnil) (fun _ _ _ _ => does_call cal106 rfl (fun w hM => (rtimes_calls _ _ 8 8 x y (by decide) (by decide) hx8 hy8 w ((rd_old hA hA.all) w hM) ((rd_old hB hB.all) w hM))))) (hall_cons (hop_val [] [] rfl rfl rfl (by decide) rfl (jnil) (xnil) (fun _ _ _ _ => does_v (rv_fieldAddr (k := 0) Tryd.underlying93 (fs := _) rfl sz36 rfl rfl))) (hall_cons (hop_val [(3, 10, _)] [] rfl rfl rfl (by decide) rfl (jcons rfl rfl rfl rfl rfl (jnil)) (xnil) (fun _ _ _ _ => does_v (rv_load_blk tyS36 rfl (i := 0) rfl rfl))) (hall_nil)))))) (draw_end [(4, 11, _)] [(2, 9, (fun _ v => own v 91 1 (8 + 8) ((n32 (8 + 8) (x * y)).map U32)))] rfl (jcons rfl rfl rfl rfl rfl (jnil)) (xcons rfl rfl rfl rfl rfl rfl (xnil)) (fun vals => ?_))
  dsimp only [xenv, xmem]
  refine st_drawTail (N := 5) [0, 0, 3, 0, 8, 31, 63] (by kernel_rfl) (by kernel_rfl) ?_
  refine st_call1 (ρ := Value) (fun r => r) (fun _ => True) (fun r => [own r 91 1 (8) ((n32 (8) ((x * y) % p)).map U32)]) cal105 rfl (fun w hM => ((rMod_calls _ _ (8 + 8) (x * y) p (by decide) (hxy) hp7 hp8 w ((rd_own (i := 0) rfl) w hM) ((rd_old hP hP.all) w hM))).mono fun e w' ⟨r, h1, h2⟩ => ⟨r, h1, trivial, h2⟩) (by decide) (fun r3 _ => ?_)
  refine st_v (rv_assign rfl) (by decide) ?_
  refine st_nil ?_
  refine st_then ?_
  refine st_ret ?_
  exact st_done rfl rfl (fun w hM => ⟨_, rfl, hM.sublist (List.Sublist.cons_cons _ (List.Sublist.cons _ (List.Sublist.cons _ (List.Sublist.slnil))))⟩)
set_option maxRecDepth 20000 in
theorem FSub_calls (vp v u : Value) (p x y : Nat) (hp7 : W32 ^ 7 ≤ p) (hp8 : p < W32 ^ 8) (hx : x < p) (hy : y < p) (w : World) (hP : Rd w vp 8 1 ((n32 8 p).map U32)) (hA : Rd w v 8 1 ((n32 (8) (x)).map U32)) (hB : Rd w u 8 1 ((n32 (8) (y)).map U32)) : Calls Tryd.prog 67 #[.agg #[vp], v, u] w (fun e w' => ∃ r, e = .returned r ∧ Mem (All w) w w' [own r 91 1 (8) ((n32 (8) ((x + (p - y)) % p)).map U32)]) := by
  have hx8 : x < W32 ^ 8 := by omega
  have hy8 : y < W32 ^ 8 := by omega
  have h98 : W32 ^ (max 8 8 + 1) = 4294967296 * W32 ^ 8 := by rw [← Nat.pow_succ']; rfl
  have hpy : p - y < W32 ^ 8 := by omega
  refine calls_of_st (n := 16) (args := [.agg #[vp], v, u]) Tryd.func67 rfl Tryd.ntmps67 (Nat.le_of_ble_eq_true rfl) (Mem.all w) ?_
  refine st_seq ?_
  refine st_region ?_
  refine st_box rfl (by decide) rfl (fun b1 hb1 => ?_)
  refine st_v (rv_assign rfl) (by decide) ?_
  refine st_nil ?_
  refine st_then ?_
  refine st_seq ?_
  refine st_drawStart mixed ?_
  refine st_drawSeg1 (E0 := [(1, _), (2, _), (3, _), (6, _)]) [kpeq _, kpeq _, kpeq _, kpeq _, (fun _ v => own v 91 1 (8) ((n32 (8) (p - y)).map U32)), (fun _ v => own v 91 1 (max 8 8 + 1) ((n32 (max 8 8 + 1) (x + (p - y))).map U32)), kpeq _, kpeq _] 0 8 [0, 0, 2, 0, 14, 31, 0, 64, 255, 511] [1, 2, 3, 6] (by kernel_rfl) (by decide) (by kernel_rfl) (.cons rfl (.cons rfl (.cons rfl (.cons rfl (.nil _))))) rfl rfl (hall_cons (hop_mv rfl (by decide) rfl rfl) (hall_cons (hop_val [] [] rfl rfl rfl (by decide) rfl (jnil) (xnil) (fun _ _ _ _ => does_v (rv_fieldAddr (k := 0) Tryd.underlying93 (fs := _) rfl sz36 rfl rfl))) (hall_cons (hop_val [(1, 8, _)] [] rfl rfl rfl (by decide) rfl (jcons rfl rfl rfl rfl rfl (jnil)) (xnil) (fun _ _ _ _ => does_v (rv_load_blk tyS36 rfl (i := 0) rfl rfl))) (hall_cons (hop_mv rfl (by decide) rfl rfl) (hall_cons (hop_val [(2, 9, _), (3, 10, _)] [] rfl rfl rfl (by decide) rfl (jcons rfl rfl rfl rfl rfl (jcons rfl rfl rfl rfl rfl (jnil))) (xnil) (fun _ _ _ _ => does_call cal108 rfl (fun w hM => (rminus_calls _ _ 8 8 p y (by decide) (by decide) hp8 hy8 (Nat.le_of_lt hy) w ((rd_old hP hP.all) w hM) ((rd_old hB hB.all) w hM))))) (hall_cons (hop_val [(0, 7, _)] [(4, 11, _)] rfl rfl rfl (by decide) rfl (jcons rfl rfl rfl rfl rfl (jnil)) (xcons rfl rfl rfl rfl rfl rfl (xnil)) (fun _ _ _ _ => does_call cal107 rfl (fun w hM => (rplus_calls _ _ 8 8 x (p - y) (by decide) (by decide) hx8 hpy w ((rd_old hA hA.all) w hM) ((rd_own (i := 0) rfl) w hM))))) (hall_cons (hop_val [] [] rfl rfl rfl (by decide) rfl (jnil) (xnil) (fun _ _ _ _ => does_v (rv_fieldAddr (k := 0) Tryd.underlying93 (fs := _) rfl sz36 rfl rfl))) (hall_cons (hop_val [(6, 13, _)] [] rfl rfl rfl (by decide) rfl (jcons rfl rfl rfl rfl rfl (jnil)) (xnil) (fun _ _ _ _ => does_v (rv_load_blk tyS36 rfl (i := 0) rfl rfl))) (hall_nil))))))))) (draw_end [(7, 14, _)] [(5, 12, (fun _ v => own v 91 1 (max 8 8 + 1) ((n32 (max 8 8 + 1) (x + (p - y))).map U32)))] rfl (jcons rfl rfl rfl rfl rfl (jnil)) (xcons rfl rfl rfl rfl rfl rfl (xnil)) (fun vals => ?_))
  dsimp only [xenv, xmem]
  refine st_drawTail (N := 8) [0, 0, 2, 0, 14, 31, 0, 64, 255, 511] (by kernel_rfl) (by kernel_rfl) ?_
  refine st_call1 (ρ := Value) (fun r => r) (fun _ => True) (fun r => [own r 91 1 (8) ((n32 (8) ((x + (p - y)) % p)).map U32)]) cal105 rfl (fun w hM => ((rMod_calls _ _ (max 8 8 + 1) (x + (p - y)) p (by decide) (by omega) hp7 hp8 w ((rd_own (i := 0) rfl) w hM) ((rd_old hP hP.all) w hM))).mono fun e w' ⟨r, h1, h2⟩ => ⟨r, h1, trivial, h2⟩) (by decide) (fun r3 _ => ?_)
  refine st_v (rv_assign rfl) (by decide) ?_
  refine st_nil ?_
  refine st_then ?_
  refine st_ret ?_
  exact st_done rfl rfl (fun w hM => ⟨_, rfl, hM.sublist (List.Sublist.cons_cons _ (List.Sublist.cons _ (List.Sublist.cons _ (List.Sublist.slnil))))⟩)
set_option maxRecDepth 20000 in
theorem FMod_calls (vp v : Value) (p la A : Nat) (hp7 : W32 ^ 7 ≤ p) (hp8 : p < W32 ^ 8) (hla : la ≤ 1000) (hlA : A < W32 ^ la) (w : World) (hP : Rd w vp 8 1 ((n32 8 p).map U32)) (hA : Rd w v la 1 ((n32 (la) (A)).map U32)) : Calls Tryd.prog 64 #[.agg #[vp], v] w (fun e w' => ∃ r, e = .returned r ∧ Mem (All w) w w' [own r 91 1 (8) ((n32 (8) (A % p)).map U32)]) := by
  refine calls_of_st (n := 9) (args := [.agg #[vp], v]) Tryd.func64 rfl Tryd.ntmps64 (Nat.le_of_ble_eq_true rfl) (Mem.all w) ?_
  refine st_seq ?_
  refine st_region ?_
  refine st_box rfl (by decide) rfl (fun b1 hb1 => ?_)
  refine st_v (rv_assign rfl) (by decide) ?_
  refine st_nil ?_
  refine st_then ?_
  refine st_seq ?_
  refine st_region ?_
  refine st_v (rv_move rfl) (by decide) ?_
  refine st_v (rv_fieldAddr (k := 0) Tryd.underlying93 (fs := _) rfl sz36 rfl rfl) (by decide) ?_
  refine st_v (rv_load_blk tyS36 rfl (i := 0) rfl rfl) (by decide) ?_
  refine st_call1 (ρ := Value) (fun r => r) (fun _ => True) (fun r => [own r 91 1 (8) ((n32 (8) (A % p)).map U32)]) cal105 rfl (fun w hM => ((rMod_calls _ _ la A p hla hlA hp7 hp8 w ((rd_old hA hA.all) w hM) ((rd_old hP hP.all) w hM))).mono fun e w' ⟨r, h1, h2⟩ => ⟨r, h1, trivial, h2⟩) (by decide) (fun r2 _ => ?_)
  refine st_v (rv_assign rfl) (by decide) ?_
  refine st_nil ?_
  refine st_then ?_
  refine st_ret ?_
  exact st_done rfl rfl (fun w hM => ⟨_, rfl, hM.sublist (List.Sublist.cons_cons _ (List.Sublist.cons _ (List.Sublist.slnil)))⟩)
end Go.Proofs.YtjhjjhpfjadjpaaDoor
