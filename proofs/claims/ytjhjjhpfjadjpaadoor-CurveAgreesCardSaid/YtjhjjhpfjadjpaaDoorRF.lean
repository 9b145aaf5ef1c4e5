/- Walks: what functions of the given program do, operation by operation. Written by wip/gen. -/
import Derived.Test.YtjhjjhpfjadjpaaDoorRE
namespace Go.Proofs.YtjhjjhpfjadjpaaDoor
set_option linter.all false
open Go
set_option maxRecDepth 20000 in
set_option maxHeartbeats 1000000 in
theorem back_calls (q : List (BitVec 8)) (hq : q.length ≤ 100000) (w : World) : Calls Tryd.prog 80 #[vS q] w (fun r w' => r = .returned (vS q.reverse) ∧ Mem (All w) w w' []) := by
  refine calls_of_st (n := 38) (args := [vS q]) Tryd.func80 rfl Tryd.ntmps80 (Nat.le_of_ble_eq_true rfl) (Mem.all w) ?_
  refine st_seq ?_
  refine st_region ?_
  refine st_v (rv_assign rfl) (by decide) ?_
  refine st_nil ?_
  refine st_then ?_
  refine st_seq ?_
  refine st_region ?_
  refine st_v (rv_move rfl) (by decide) ?_
  refine st_bytes Tryd.underlying9 Tryd.underlying22 Tryd.underlying5 rfl (by decide) (fun v1 => ?_)
  refine st_v (rv_assign rfl) (by decide) ?_
  refine st_nil ?_
  refine st_then ?_
  refine st_seq ?_
  refine st_seq ?_
  refine st_region ?_
  refine st_v (rv_assign rfl) (by decide) ?_
  refine st_nil ?_
  refine st_then ?_
  refine st_block ?_
  refine st_loopA (σ := Nat) [(3, kst _), (4, fun k => vI (k : Nat))] [fun k => own v1 5 1 q.length ((revW q k).map U8)] (fun k => k ≤ q.length / 2) (fun k => q.length - k) 0 (by omega) (.cons rfl (.cons rfl (.nil _))) (fun _ hM => hM) ?_
  intro k hI
  try dsimp only at hI
  dsimp only [List.map, kst]
  refine st_seq ?_
  refine st_seq ?_
  refine st_region ?_
  refine st_v (rv_move rfl) (by decide) ?_
  refine st_v (rv_move rfl) (by decide) ?_
  refine st_v (rv_lenR (rd_own (i := 0) rfl) Tryd.underlying22 rfl) (by decide) ?_
  refine st_v (rv_quoN (b := 2) rfl rfl (by first | omega | (simp; done) | (simp; omega))) (by decide) ?_
  refine st_v (rv_lssZ rfl rfl) (by decide) ?_
  refine st_nil ?_
  refine st_then ?_
  refine st_cond rfl (fun hc11 => ?_) (fun hc11 => ?_)
  · -- t11 True
    try simp only [z1, z2, z3, z4, z5, z6, z7, z8, z9, z10, z11, z12, z13, z14] at hc11
    refine st_skip ?_
    refine st_then ?_
    refine st_seq ?_
    refine st_block ?_
    refine st_drawStart mixed ?_
    refine st_drawSeg (E0 := [(3, _), (4, _)]) [21] [kpeq _, kpeq _, kpeq _, kpeq _, kpeq _, kpeq _, kpeq _, kpeq _, kpeq _, kpeq _, kpeq _, kpeq _, kpeq _, kpeq _, kpeq _, kpeq _, kpeq _, kpeq _, kpeq _, kpeq _, kpeq _, kany] (phs [21] [[kst _], [kst (own _ _ _ _ _)]]) 0 22 [0, 0, 0, 0, 8, 24, 0, 120, 0, 0, 512, 1536, 0, 7680, 16128, 32512, 0, 0, 196608, 458752, 1048323, 2096899, 4194303, 8388607] [3, 4] (by kernel_rfl) (by decide) (by decide) (by kernel_rfl) rfl rfl (phs_skip _) (.cons rfl (.cons rfl (.nil _))) (fun _ h => h) (hall_cons (hop_valY [] [] [] rfl rfl rfl (by decide) rfl (jnil) (xnil) (ynil) (fun p h1 h2 vals => by obtain rfl : p = 0 := Nat.le_antisymm h2 h1; exact does_v (rv_move rfl))) (hall_cons (hop_valY [] [] [] rfl rfl rfl (by decide) rfl (jnil) (xnil) (ynil) (fun p h1 h2 vals => by obtain rfl : p = 0 := Nat.le_antisymm h2 h1; exact does_v (rv_move rfl))) (hall_cons (hop_valY [] [] [] rfl rfl rfl (by decide) rfl (jnil) (xnil) (ynil) (fun p h1 h2 vals => by
    have h1 : 0 ≤ p := h1
    have h2 : p ≤ 1 := h2
    obtain rfl | rfl : p = 0 ∨ p = 1 := by omega
    all_goals exact does_v (rv_move rfl))) (hall_cons (hop_valY [] [] [] rfl rfl rfl (by decide) rfl (jnil) (xnil) (ynil) (fun p h1 h2 vals => by
    have h1 : 0 ≤ p := h1
    have h2 : p ≤ 1 := h2
    obtain rfl | rfl : p = 0 ∨ p = 1 := by omega
    all_goals exact does_v (rv_move rfl))) (hall_cons (hop_valY [(3, 17, _)] [] [] rfl rfl rfl (by decide) rfl (jcons rfl rfl rfl rfl rfl (jnil)) (xnil) (ynil) (fun p h1 h2 vals => by
    have h1 : 0 ≤ p := h1
    have h2 : p ≤ 1 := h2
    obtain rfl | rfl : p = 0 ∨ p = 1 := by omega
    all_goals exact does_v (rv_lenR (rd_own (i := 0) rfl) Tryd.underlying22 rfl))) (hall_cons (hop_valY [(4, 18, _)] [] [] rfl rfl rfl (by decide) rfl (jcons rfl rfl rfl rfl rfl (jnil)) (xnil) (ynil) (fun p h1 h2 vals => by
    have h1 : 0 ≤ p := h1
    have h2 : p ≤ 1 := h2
    obtain rfl | rfl : p = 0 ∨ p = 1 := by omega
    all_goals exact does_v (rv_subN (b := 1) rfl rfl (by first | omega | (simp; done) | (simp; omega))))) (hall_cons (hop_valY [] [] [] rfl rfl rfl (by decide) rfl (jnil) (xnil) (ynil) (fun p h1 h2 vals => by
    have h1 : 0 ≤ p := h1
    have h2 : p ≤ 1 := h2
    obtain rfl | rfl : p = 0 ∨ p = 1 := by omega
    all_goals exact does_v (rv_move rfl))) (hall_cons (hop_valY [(5, 19, _), (6, 20, _)] [] [] rfl rfl rfl (by decide) rfl (jcons rfl rfl rfl rfl rfl (jcons rfl rfl rfl rfl rfl (jnil))) (xnil) (ynil) (fun p h1 h2 vals => by
    have h1 : 0 ≤ p := h1
    have h2 : p ≤ 1 := h2
    obtain rfl | rfl : p = 0 ∨ p = 1 := by omega
    all_goals exact does_v (rv_subN rfl rfl (by first | omega | (simp; done) | (simp; omega))))) (hall_cons (hop_valY [] [] [] rfl rfl rfl (by decide) rfl (jnil) (xnil) (ynil) (fun p h1 h2 vals => by obtain rfl : p = 0 := Nat.le_antisymm h2 h1; exact does_v (rv_move rfl))) (hall_cons (hop_valY [] [] [] rfl rfl rfl (by decide) rfl (jnil) (xnil) (ynil) (fun p h1 h2 vals => by obtain rfl : p = 0 := Nat.le_antisymm h2 h1; exact does_v (rv_move rfl))) (hall_cons (hop_valY [(9, 23, _)] [] [] rfl rfl rfl (by decide) rfl (jcons rfl rfl rfl rfl rfl (jnil)) (xnil) (ynil) (fun p h1 h2 vals => by obtain rfl : p = 0 := Nat.le_antisymm h2 h1; exact does_v (rv_lenR (rd_own (i := 0) rfl) Tryd.underlying22 rfl))) (hall_cons (hop_valY [(10, 24, _)] [] [] rfl rfl rfl (by decide) rfl (jcons rfl rfl rfl rfl rfl (jnil)) (xnil) (ynil) (fun p h1 h2 vals => by obtain rfl : p = 0 := Nat.le_antisymm h2 h1; exact does_v (rv_subN (b := 1) rfl rfl (by first | omega | (simp; done) | (simp; omega))))) (hall_cons (hop_valY [] [] [] rfl rfl rfl (by decide) rfl (jnil) (xnil) (ynil) (fun p h1 h2 vals => by obtain rfl : p = 0 := Nat.le_antisymm h2 h1; exact does_v (rv_move rfl))) (hall_cons (hop_valY [(11, 25, _), (12, 26, _)] [] [] rfl rfl rfl (by decide) rfl (jcons rfl rfl rfl rfl rfl (jcons rfl rfl rfl rfl rfl (jnil))) (xnil) (ynil) (fun p h1 h2 vals => by obtain rfl : p = 0 := Nat.le_antisymm h2 h1; exact does_v (rv_subN rfl rfl (by first | omega | (simp; done) | (simp; omega))))) (hall_cons (hop_valY [(8, 22, _), (13, 27, _)] [] [] rfl rfl rfl (by decide) rfl (jcons rfl rfl rfl rfl rfl (jcons rfl rfl rfl rfl rfl (jnil))) (xnil) (ynil) (fun p h1 h2 vals => by obtain rfl : p = 0 := Nat.le_antisymm h2 h1; exact does_v (rv_indexR1 (rd_own (i := 0) rfl) Tryd.underlying22 sz5 rfl rfl rfl (by first | omega | (simp <;> omega))))) (hall_cons (hop_valY [(14, 28, _)] [] [] rfl rfl rfl (by decide) rfl (jcons rfl rfl rfl rfl rfl (jnil)) (xnil) (ynil) (fun p h1 h2 vals => by obtain rfl : p = 0 := Nat.le_antisymm h2 h1; exact does_v (rv_load_rd (rd_own (i := 0) rfl) tyS5 rfl (get8 (by first | omega | (simp <;> omega)))))) (hall_cons (hop_valY [] [] [] rfl rfl rfl (by decide) rfl (jnil) (xnil) (ynil) (fun p h1 h2 vals => by obtain rfl : p = 0 := Nat.le_antisymm h2 h1; exact does_v (rv_move rfl))) (hall_cons (hop_valY [] [] [] rfl rfl rfl (by decide) rfl (jnil) (xnil) (ynil) (fun p h1 h2 vals => by obtain rfl : p = 0 := Nat.le_antisymm h2 h1; exact does_v (rv_move rfl))) (hall_cons (hop_valY [(16, 30, _), (17, 31, _)] [] [] rfl rfl rfl (by decide) rfl (jcons rfl rfl rfl rfl rfl (jcons rfl rfl rfl rfl rfl (jnil))) (xnil) (ynil) (fun p h1 h2 vals => by obtain rfl : p = 0 := Nat.le_antisymm h2 h1; exact does_v (rv_indexR1 (rd_own (i := 0) rfl) Tryd.underlying22 sz5 rfl rfl rfl (by first | omega | (simp <;> omega))))) (hall_cons (hop_valY [(18, 32, _)] [] [] rfl rfl rfl (by decide) rfl (jcons rfl rfl rfl rfl rfl (jnil)) (xnil) (ynil) (fun p h1 h2 vals => by obtain rfl : p = 0 := Nat.le_antisymm h2 h1; exact does_v (rv_load_rd (rd_own (i := 0) rfl) tyS5 rfl (get8 (by first | omega | (simp <;> omega)))))) (hall_cons (hop_valY [(0, 14, _), (1, 15, _)] [] [] rfl rfl rfl (by decide) rfl (jcons rfl rfl rfl rfl rfl (jcons rfl rfl rfl rfl rfl (jnil))) (xnil) (ynil) (fun p h1 h2 vals => by obtain rfl : p = 0 := Nat.le_antisymm h2 h1; exact does_v (rv_indexR1 (rd_own (i := 0) rfl) Tryd.underlying22 sz5 rfl rfl rfl (by first | omega | (simp <;> omega))))) (hall_cons (hop_mem [(20, 34, _), (15, 29, _)] [] [] rfl rfl rfl (fun d h => by cases h) (⟨fun _ => rfl, ⟨fun _ => rfl, ⟨fun _ => rfl, ⟨fun _ => rfl, ⟨fun _ => rfl, ⟨fun _ => rfl, ⟨fun _ => rfl, ⟨fun _ => rfl, ⟨fun _ => rfl, ⟨fun _ => rfl, ⟨fun _ => rfl, ⟨fun _ => rfl, ⟨fun _ => rfl, ⟨fun _ => rfl, ⟨fun _ => rfl, ⟨fun _ => rfl, ⟨fun _ => rfl, ⟨fun _ => rfl, ⟨fun _ => rfl, ⟨fun _ => rfl, ⟨fun _ => rfl, ⟨fun _ => rfl, trivial⟩⟩⟩⟩⟩⟩⟩⟩⟩⟩⟩⟩⟩⟩⟩⟩⟩⟩⟩⟩⟩⟩) (jcons rfl rfl rfl rfl rfl (jcons rfl rfl rfl rfl rfl (jnil))) (xnil) (ynil) (fun vals => dm_storeOwn8 rfl rfl (i := 0) rfl sz5 (by first | omega | (simp <;> omega)) (fun v u => rfl))) (hall_nil))))))))))))))))))))))) (draw_endY [(2, 16, _), (7, 21, _), (19, 33, _)] [] [] rfl (jcons rfl rfl rfl rfl rfl (jcons rfl rfl rfl rfl rfl (jcons rfl rfl rfl rfl rfl (jnil)))) (xnil) (ynil) (fun vals => ?_))
    refine St.conv (E' := [(16, _), (21, _), (33, _), (3, _), (4, _)]) (l1 := [_]) rfl rfl ?_
    try dsimp only [kst]
    refine st_drawTail (N := 22) [0, 0, 0, 0, 8, 24, 0, 120, 0, 0, 512, 1536, 0, 7680, 16128, 32512, 0, 0, 196608, 458752, 1048323, 2096899, 4194303, 8388607] (by kernel_rfl) (by kernel_rfl) ?_
    refine st_v (rv_indexR1 (rd_own (i := 0) rfl) Tryd.underlying22 sz5 rfl rfl rfl (by first | omega | (simp <;> omega))) (by decide) ?_
    refine st_storeOwn8 rfl rfl (i := 0) rfl sz5 (by first | omega | (simp <;> omega)) rfl ?_
    refine st_nil ?_
    refine st_in_normal ?_
    refine st_then ?_
    refine st_region ?_
    refine st_v (rv_move rfl) (by decide) ?_
    first | refine st_v (rv_addN (b := 1) rfl rfl (by first | omega | (simp; done) | (simp; omega))) (by decide) ?_ | refine st_v (rv_addZ rfl rfl (by first | omega | (simp; done) | (simp; omega))) (by decide) ?_
    refine st_v (rv_assign rfl) (by decide) ?_
    refine st_nil ?_
    refine st_then ?_
    exact st_again (k + 1) (by omega) (by omega) (.cons rfl (.cons rfl (.nil _))) (fun _ hM => hM)
  · -- t11 False
    try simp only [z1, z2, z3, z4, z5, z6, z7, z8, z9, z10, z11, z12, z13, z14] at hc11
    have hk2 : q.length ≤ 2 * k + 1 := by omega
    have hk1 : 2 * k ≤ q.length := by omega
    refine st_exit ?_
    refine st_then_exit ?_
    refine st_then_exit ?_
    refine st_in_exit ?_
    refine st_then ?_
    refine st_seq ?_
    refine st_region ?_
    refine st_v (rv_move rfl) (by decide) ?_
    refine st_v (rv_string (rd_own (i := 0) rfl) Tryd.underlying22 Tryd.underlying9 Tryd.underlying5 rfl) (by decide) ?_
    refine st_v (rv_assign rfl) (by decide) ?_
    refine st_nil ?_
    refine st_then ?_
    refine st_ret ?_
    exact st_done rfl rfl (fun w hM => ⟨by rw [revW_all hk1 hk2], hM.sublist (List.nil_sublist _)⟩)
theorem rOf32_calls (q : List (BitVec 8)) (hq : q.length = 32) (w : World) : Calls Tryd.prog 79 #[vS q] w (fun e w' => ∃ r, e = .returned r ∧ Mem (All w) w w' [own r 91 1 (8) ((n32 (8) (beN q)).map U32)]) := by
  have h := rOf_calls q (by omega) w
  rwa [show (q.length + 3) / 4 = 8 by omega] at h
set_option maxRecDepth 20000 in
theorem Of5_calls (q : List (BitVec 8)) (hq : q.length = 32) (w : World) : Calls Tryd.prog 26 #[vS q] w (fun e w' => ∃ r, e = .returned r ∧ Mem (All w) w w' [own r 91 1 (8) ((n32 (8) (leN q)).map U32)]) := by
  refine calls_of_st (n := 6) (args := [vS q]) Tryd.func26 rfl Tryd.ntmps26 (Nat.le_of_ble_eq_true rfl) (Mem.all w) ?_
  refine st_seq ?_
  refine st_region ?_
  refine st_v (rv_assign rfl) (by decide) ?_
  refine st_nil ?_
  refine st_then ?_
  refine st_seq ?_
  refine st_region ?_
  refine st_v (rv_move rfl) (by decide) ?_
  refine st_call0 cal80 rfl (fun w hM => (back_calls (q) (by first | omega | (simp; done) | (simp; omega)) w)) (by decide) ?_
  refine st_call1 (ρ := Value) (fun r => r) (fun _ => True) (fun r => [own r 91 1 (8) ((n32 (8) (beN q.reverse)).map U32)]) cal79 rfl (fun w hM => ((rOf32_calls q.reverse (by rw [List.length_reverse]; exact hq) w)).mono fun e w' ⟨r, h1, h2⟩ => ⟨r, h1, trivial, h2⟩) (by decide) (fun r1 _ => ?_)
  refine st_v (rv_assign rfl) (by decide) ?_
  refine st_nil ?_
  refine st_then ?_
  refine st_ret ?_
  exact st_done rfl rfl (fun w hM => ⟨_, rfl, (Mem.sublist (Mem.front hM (i := 0) rfl) (List.Sublist.cons_cons _ ((List.nil_sublist _))))⟩)
set_option maxRecDepth 20000 in
theorem Bytes5_calls (v : Value) (n : Nat) (hn : n < W32 ^ 8) (w : World) (hA : Rd w v 8 1 ((n32 8 n).map U32)) : Calls Tryd.prog 59 #[v] w (fun r w' => r = .returned (vS (leB 32 n)) ∧ Mem (All w) w w' []) := by
  refine calls_of_st (n := 6) (args := [v]) Tryd.func59 rfl Tryd.ntmps59 (Nat.le_of_ble_eq_true rfl) (Mem.all w) ?_
  refine st_seq ?_
  refine st_region ?_
  refine st_v (rv_assign rfl) (by decide) ?_
  refine st_nil ?_
  refine st_then ?_
  refine st_seq ?_
  refine st_region ?_
  refine st_v (rv_move rfl) (by decide) ?_
  refine st_call0 cal103 rfl (fun w hM => (rBytes_calls _ 8 n 32 (by decide) (by decide) hn w ((rd_old hA hA.all) w hM))) (by decide) ?_
  refine st_call0 cal80 rfl (fun w hM => (back_calls (beB 32 n) (by first | omega | (simp; done) | (simp; omega)) w)) (by decide) ?_
  refine st_v (rv_assign rfl) (by decide) ?_
  refine st_nil ?_
  refine st_then ?_
  refine st_ret ?_
  exact st_done rfl rfl (fun w hM => ⟨rfl, hM.sublist (List.nil_sublist _)⟩)
set_option maxRecDepth 20000 in
theorem secret_calls (q : List (BitVec 8)) (hq : q.length = 32) (w : World) : Calls Tryd.prog 61 #[vS q] w (fun e w' => ∃ r, e = .returned r ∧ Mem (All w) w w' [own r 91 1 (8) ((n32 (8) (leN (clampB q))).map U32)]) := by
  refine calls_of_st (n := 22) (args := [vS q]) Tryd.func61 rfl Tryd.ntmps61 (Nat.le_of_ble_eq_true rfl) (Mem.all w) ?_
  refine st_seq ?_
  refine st_region ?_
  refine st_v (rv_assign rfl) (by decide) ?_
  refine st_nil ?_
  refine st_then ?_
  refine st_seq ?_
  refine st_region ?_
  refine st_v (rv_move rfl) (by decide) ?_
  refine st_bytes Tryd.underlying9 Tryd.underlying22 Tryd.underlying5 rfl (by decide) (fun v1 => ?_)
  refine st_v (rv_assign rfl) (by decide) ?_
  refine st_nil ?_
  refine st_then ?_
  refine st_seq ?_
  refine st_region ?_
  refine st_v (rv_move rfl) (by decide) ?_
  refine st_v (rv_move rfl) (by decide) ?_
  refine st_v (rv_indexR1 (rd_own (i := 0) rfl) Tryd.underlying22 sz5 rfl rfl (j := 0) rfl (by first | omega | (simp [hq] <;> omega))) (by decide) ?_
  refine st_v (rv_load_rd (rd_own (i := 0) rfl) tyS5 rfl (get8 (by first | omega | (simp [hq] <;> omega)))) (by decide) ?_
  refine st_v (rv_and8 (b := 248#8) rfl rfl) (by decide) ?_
  refine st_v (rv_indexR1 (rd_own (i := 0) rfl) Tryd.underlying22 sz5 rfl rfl (j := 0) rfl (by first | omega | (simp [hq] <;> omega))) (by decide) ?_
  refine st_storeOwn8 rfl rfl (i := 0) rfl sz5 (by first | omega | (simp [hq] <;> omega)) rfl ?_
  refine st_nil ?_
  refine st_then ?_
  refine st_seq ?_
  refine st_region ?_
  refine st_v (rv_move rfl) (by decide) ?_
  refine st_v (rv_move rfl) (by decide) ?_
  refine st_v (rv_indexR1 (rd_own (i := 0) rfl) Tryd.underlying22 sz5 rfl rfl (j := 31) rfl (by first | omega | (simp [hq] <;> omega))) (by decide) ?_
  refine st_v (rv_load_rd (rd_own (i := 0) rfl) tyS5 rfl (get8 (by first | omega | (simp [hq] <;> omega)))) (by decide) ?_
  refine st_v (rv_and8 (b := 127#8) rfl rfl) (by decide) ?_
  refine st_v (rv_or8 (b := 64#8) rfl rfl) (by decide) ?_
  refine st_v (rv_indexR1 (rd_own (i := 0) rfl) Tryd.underlying22 sz5 rfl rfl (j := 31) rfl (by first | omega | (simp [hq] <;> omega))) (by decide) ?_
  refine st_storeOwn8 rfl rfl (i := 0) rfl sz5 (by first | omega | (simp [hq] <;> omega)) rfl ?_
  refine st_nil ?_
  refine st_then ?_
  refine st_seq ?_
  refine st_region ?_
  refine st_v (rv_move rfl) (by decide) ?_
  refine st_v (rv_string (rd_own (i := 0) rfl) Tryd.underlying22 Tryd.underlying9 Tryd.underlying5 rfl) (by decide) ?_
  refine st_call1 (ρ := Value) (fun r => r) (fun _ => True) (fun r => [own r 91 1 (8) ((n32 (8) (leN (clampB q))).map U32)]) cal26 rfl (fun w hM => ((Of5_calls (clampB q) (by rw [length_clampB]; exact hq) w)).mono fun e w' ⟨r, h1, h2⟩ => ⟨r, h1, trivial, h2⟩) (by decide) (fun r2 _ => ?_)
  refine st_v (rv_assign rfl) (by decide) ?_
  refine st_nil ?_
  refine st_then ?_
  refine st_ret ?_
  exact st_done rfl rfl (fun w hM => ⟨_, rfl, (Mem.sublist (Mem.front hM (i := 0) rfl) (List.Sublist.cons_cons _ ((List.nil_sublist _))))⟩)
theorem leN8 {q : List (BitVec 8)} (hq : q.length = 32) : leN q < W32 ^ 8 := Nat.lt_of_lt_of_le (leN_lt q) (by rw [hq]; decide)
theorem val8 (x : Fp) : x.val < W32 ^ 8 := Nat.lt_trans x.isLt goodP.g8
set_option maxRecDepth 20000 in
theorem rPublic_calls (q : List (BitVec 8)) (hq : q.length = 32) (w : World) : Calls Tryd.prog 15 #[vS q] w (fun r w' => r = .returned (vS (leB 32 (pubF q).val)) ∧ Mem (All w) w w' []) := by
  refine calls_of_st (n := 8) (args := [vS q]) Tryd.func15 rfl Tryd.ntmps15 (Nat.le_of_ble_eq_true rfl) (Mem.all w) ?_
  refine st_seq ?_
  refine st_region ?_
  refine st_v (rv_assign rfl) (by decide) ?_
  refine st_nil ?_
  refine st_then ?_
  refine st_seq ?_
  refine st_region ?_
  refine st_v (rv_move rfl) (by decide) ?_
  refine st_call1 (ρ := Value) (fun r => r) (fun _ => True) (fun r => [own r 91 1 (8) ((n32 (8) (leN (clampB q))).map U32)]) cal61 rfl (fun w hM => ((secret_calls q hq w)).mono fun e w' ⟨r, h1, h2⟩ => ⟨r, h1, trivial, h2⟩) (by decide) (fun r1 _ => ?_)
  refine st_call1 (ρ := Value) (fun r => r) (fun _ => True) (fun r => [own r 91 1 (8) ((n32 (8) ((fN 9).val)).map U32)]) cal62 rfl (fun w hM => ((rSmall_calls 9 (by decide) w)).mono fun e w' ⟨r, h1, h2⟩ => ⟨r, h1, trivial, h2⟩) (by decide) (fun r2 _ => ?_)
  refine st_call1 (ρ := Value) (fun r => r) (fun _ => True) (fun r => [own r 91 1 (8) ((n32 (8) ((pubF q).val)).map U32)]) cal60 rfl (fun w hM => ((rProduct_calls _ _ (leN (clampB q)) (fN 9) (leN8 (by rw [length_clampB]; exact hq)) w ((rd_own (i := 1) rfl) w hM) ((rd_own (i := 0) rfl) w hM))).mono fun e w' ⟨r, h1, h2⟩ => ⟨r, h1, trivial, h2⟩) (by decide) (fun r3 _ => ?_)
  refine st_call0 cal59 rfl (fun w hM => (Bytes5_calls _ (pubF q).val (val8 _) w ((rd_own (i := 0) rfl) w hM))) (by decide) ?_
  refine st_v (rv_assign rfl) (by decide) ?_
  refine st_nil ?_
  refine st_then ?_
  refine st_ret ?_
  exact st_done rfl rfl (fun w hM => ⟨rfl, hM.sublist (List.nil_sublist _)⟩)
set_option maxRecDepth 20000 in
set_option maxHeartbeats 1000000 in
theorem rShared_calls (q p : List (BitVec 8)) (hq : q.length = 32) (hp : p.length = 32) (w : World) : Calls Tryd.prog 16 #[vS q, vS p] w (fun r w' => r = .returned (.tuple #[vS (leB 32 (shrF q p).val), .bool (!decide ((shrF q p).val = 0))]) ∧ Mem (All w) w w' []) := by
  refine calls_of_st (n := 33) (args := [vS q, vS p]) Tryd.func16 rfl Tryd.ntmps16 (Nat.le_of_ble_eq_true rfl) (Mem.all w) ?_
  refine st_seq ?_
  refine st_region ?_
  refine st_v (rv_assign rfl) (by decide) ?_
  refine st_v (rv_assign rfl) (by decide) ?_
  refine st_nil ?_
  refine st_then ?_
  refine st_seq ?_
  refine st_region ?_
  refine st_v (rv_move rfl) (by decide) ?_
  refine st_bytes Tryd.underlying9 Tryd.underlying22 Tryd.underlying5 rfl (by decide) (fun v1 => ?_)
  refine st_v (rv_assign rfl) (by decide) ?_
  refine st_nil ?_
  refine st_then ?_
  refine st_seq ?_
  refine st_region ?_
  refine st_v (rv_move rfl) (by decide) ?_
  refine st_v (rv_move rfl) (by decide) ?_
  refine st_v (rv_indexR1 (rd_own (i := 0) rfl) Tryd.underlying22 sz5 rfl rfl (j := 31) rfl (by first | omega | (simp [hp] <;> omega))) (by decide) ?_
  refine st_v (rv_load_rd (rd_own (i := 0) rfl) tyS5 rfl (get8 (by first | omega | (simp [hp] <;> omega)))) (by decide) ?_
  refine st_v (rv_and8 (b := 127#8) rfl rfl) (by decide) ?_
  refine st_v (rv_indexR1 (rd_own (i := 0) rfl) Tryd.underlying22 sz5 rfl rfl (j := 31) rfl (by first | omega | (simp [hp] <;> omega))) (by decide) ?_
  refine st_storeOwn8 rfl rfl (i := 0) rfl sz5 (by first | omega | (simp [hp] <;> omega)) rfl ?_
  refine st_nil ?_
  refine st_then ?_
  refine st_seq ?_
  refine st_drawStart mixed ?_
  refine st_drawSeg1 (E0 := [(0, _), (6, _)]) [(fun _ v => fA 91 8 ((n32 8 pP).map U32) v), kpeq _, kpeq _] 0 3 [0, 0, 2, 7, 15, 31] [0, 6] (by kernel_rfl) (by decide) (by kernel_rfl) (.cons rfl (.cons rfl (.nil _))) rfl rfl (hall_cons (hop_val [] [] rfl rfl rfl (by decide) rfl (jnil) (xnil) (fun _ _ _ _ => does_call cal63 rfl (fun w hM => (asF (rP_calls w))))) (hall_cons (hop_mv rfl (by decide) rfl rfl) (hall_cons (hop_val [(1, 19, _)] [] rfl rfl rfl (by decide) rfl (jcons rfl rfl rfl rfl rfl (jnil)) (xnil) (fun _ _ _ _ => does_v (rv_string (rd_own (i := 0) rfl) Tryd.underlying22 Tryd.underlying9 Tryd.underlying5 rfl))) (hall_nil)))) (draw_end [(2, 20, _)] [(0, 18, (fun _ v => fA 91 8 ((n32 8 pP).map U32) v))] rfl (jcons rfl rfl rfl rfl rfl (jnil)) (xcons rfl rfl rfl rfl rfl rfl (xnil)) (fun vals => ?_))
  dsimp only [xenv, xmem]
  refine st_drawTail (N := 3) [0, 0, 2, 7, 15, 31] (by kernel_rfl) (by kernel_rfl) ?_
  refine st_call1 (ρ := Value) (fun r => r) (fun _ => True) (fun r => [own r 91 1 (8) ((n32 (8) (leN (topB p))).map U32)]) cal26 rfl (fun w hM => ((Of5_calls (topB p) (by rw [length_topB]; exact hp) w)).mono fun e w' ⟨r, h1, h2⟩ => ⟨r, h1, trivial, h2⟩) (by decide) (fun r3 _ => ?_)
  refine st_openF (i := 1) rfl (fun vP hvP => ?_)
  rw [hvP]
  refine st_call1 (ρ := Value) (fun r => r) (fun _ => True) (fun r => [own r 91 1 (8) ((n32 (8) ((fN (leN (topB p))).val)).map U32)]) cal64 rfl (fun w hM => ((FMod_calls _ _ pP 8 (leN (topB p)) goodP.g7 goodP.g8 (by decide) (leN8 (by rw [length_topB]; exact hp)) w ((rd_own (i := 1) rfl) w hM) ((rd_own (i := 0) rfl) w hM))).mono fun e w' ⟨r, h1, h2⟩ => ⟨r, h1, trivial, h2⟩) (by decide) (fun r4 _ => ?_)
  refine st_v (rv_assign rfl) (by decide) ?_
  refine st_nil ?_
  refine st_then ?_
  refine st_seq ?_
  refine st_region ?_
  refine st_v (rv_move rfl) (by decide) ?_
  refine st_call1 (ρ := Value) (fun r => r) (fun _ => True) (fun r => [own r 91 1 (8) ((n32 (8) (leN (clampB q))).map U32)]) cal61 rfl (fun w hM => ((secret_calls q hq w)).mono fun e w' ⟨r, h1, h2⟩ => ⟨r, h1, trivial, h2⟩) (by decide) (fun r5 _ => ?_)
  refine st_v (rv_move rfl) (by decide) ?_
  refine st_call1 (ρ := Value) (fun r => r) (fun _ => True) (fun r => [own r 91 1 (8) ((n32 (8) ((shrF q p).val)).map U32)]) cal60 rfl (fun w hM => ((rProduct_calls _ _ (leN (clampB q)) (fN (leN (topB p))) (leN8 (by rw [length_clampB]; exact hq)) w ((rd_own (i := 0) rfl) w hM) ((rd_own (i := 1) rfl) w hM))).mono fun e w' ⟨r, h1, h2⟩ => ⟨r, h1, trivial, h2⟩) (by decide) (fun r6 _ => ?_)
  refine st_v (rv_assign rfl) (by decide) ?_
  refine st_nil ?_
  refine st_then ?_
  refine st_seq ?_
  refine st_region ?_
  refine st_v (rv_move rfl) (by decide) ?_
  refine st_call0 cal65 rfl (fun w hM => (rZero_calls _ 8 (shrF q p).val (by decide) (val8 _) w ((rd_own (i := 0) rfl) w hM))) (by decide) ?_
  refine st_v (rv_assign rfl) (by decide) ?_
  refine st_nil ?_
  refine st_then ?_
  refine st_seq ?_
  refine st_region ?_
  refine st_v (rv_move rfl) (by decide) ?_
  refine st_call0 cal59 rfl (fun w hM => (Bytes5_calls _ (shrF q p).val (val8 _) w ((rd_own (i := 0) rfl) w hM))) (by decide) ?_
  refine st_v (rv_move rfl) (by decide) ?_
  refine st_v (rv_not rfl) (by decide) ?_
  refine st_v (rv_assign rfl) (by decide) ?_
  refine st_v (rv_assign rfl) (by decide) ?_
  refine st_nil ?_
  refine st_then ?_
  refine st_ret ?_
  exact st_done2 rfl rfl rfl (fun w hM => ⟨rfl, hM.sublist (List.nil_sublist _)⟩)
end Go.Proofs.YtjhjjhpfjadjpaaDoor
