/- Walks: what functions of the given program do, operation by operation. Written by wip/gen. -/
import Derived.Test.YtjhjjhpfjadjpaaDoorCC
import Derived.Test.YtjhjjhpfjadjpaaDoorMV
namespace Go.Proofs.YtjhjjhpfjadjpaaDoor
set_option linter.all false
open Go
set_option maxRecDepth 20000 in
theorem OfP_calls (w : World) (hL : LaidM w) : Calls Tryd.prog 92 #[vI (0 : Nat)] w (fun e w' => ∃ r : Nat, e = .returned (.tuple #[pt r 0, .bool true]) ∧ Mem (All w) w w' [blk r (c64 (modW pP)) 142]) := by
  obtain ⟨Tg, frg, hg⟩ := hL
  have hSg : All w 4 := ⟨(Array.getElem?_eq_some_iff.1 hg).1, fun h => h⟩
  refine calls_of_st (n := 14) (args := [vI (0 : Nat)]) Tryd.func92 rfl Tryd.ntmps92 (Nat.le_of_ble_eq_true rfl) (Mem.all w) ?_
  refine st_seq ?_
  refine st_region ?_
  refine st_v (rv_assign rfl) (by decide) ?_
  refine st_v (rv_assign rfl) (by decide) ?_
  refine st_nil ?_
  refine st_then ?_
  refine st_seq ?_
  refine st_seq ?_
  refine st_region ?_
  refine st_v (rv_move rfl) (by decide) ?_
  refine st_v (rv_lssZ rfl rfl) (by decide) ?_
  refine st_v (rv_move rfl) (by decide) ?_
  refine' st_or 3 (L := _) (s := 7) (d := 10) [0] rfl (fun hg3 => ?_) (fun _ => ?_) ?_; rotate_left
  · -- true
    refine st_gskip rfl rfl rfl (by decide) ?_
    refine st_gskip rfl rfl rfl (by decide) ?_
    first | refine st_v (rv_pick_true rfl rfl) (by decide) ?_ | refine st_v (rv_pick_false rfl rfl) (by decide) ?_ | refine st_v (rv_pick rfl rfl rfl) (by decide) ?_
    refine st_nil ?_
    exact st_meet_b (.cons rfl (.cons rfl (.nil _)))
  · -- false
    refine st_gon rfl rfl ?_
    refine st_v (rv_move rfl) (by decide) ?_
    refine st_gon rfl rfl ?_
    refine st_v (rv_geqZ rfl rfl) (by decide) ?_
    first | refine st_v (rv_pick_true rfl rfl) (by decide) ?_ | refine st_v (rv_pick_false rfl rfl) (by decide) ?_ | refine st_v (rv_pick rfl rfl rfl) (by decide) ?_
    refine st_nil ?_
    exact st_meet_b (.cons rfl (.cons rfl (.nil _)))
  refine st_nil ?_
  refine st_then ?_
  refine st_false rfl ?_
  refine st_skip ?_
  refine st_then ?_
  refine st_seq ?_
  refine st_region ?_
  refine st_v (rv_move rfl) (by decide) ?_
  refine st_v (rv_indexA (k := 0) Tryd.underlying174 sz142 rfl rfl (j := 0) rfl (by decide) rfl) (by decide) ?_
  refine st_v (rv_loadA_old tyA142 rfl hg hSg (by first | omega | (simp [length_modsW] <;> omega)) (by exact (ext64 _ _ _).trans (congrArg c64 mods0))) (by decide) ?_
  refine st_alloc tyZ142 (by decide) (cs := c64 (List.replicate 13 0#64)) (rfl) (fun b1 hb1 => ?_)
  refine st_storeW64 rfl rfl (i := 0) rfl sz142 (by first | omega | (simp [length_modsW]; done) | (simp [length_modsW] <;> omega)) (by first | omega | (simp [length_modsW]; done) | (simp [length_modsW] <;> omega)) (l' := [_]) rfl ?_
  refine st_nil ?_
  refine st_then ?_
  refine st_seq ?_
  refine st_region ?_
  refine st_v (rv_assign rfl) (by decide) ?_
  refine st_v (rv_assign rfl) (by decide) ?_
  refine st_nil ?_
  refine st_then ?_
  refine st_ret ?_
  exact st_done2 rfl rfl rfl (fun w hM => ⟨b1, rfl, hM⟩)
set_option maxRecDepth 20000 in
theorem fp_calls (w : World) (hL : LaidM w) : Calls Tryd.prog 48 #[] w (fun e w' => ∃ r : Nat, e = .returned (pt r 0) ∧ Mem (All w) w w' [blk r (c64 (modW pP)) 142]) := by
  refine calls_of_st (n := 8) (args := []) Tryd.func48 rfl Tryd.ntmps48 (Nat.le_of_ble_eq_true rfl) (Mem.all w) ?_
  refine st_seq ?_
  refine st_region ?_
  refine st_v (rv_assign rfl) (by decide) ?_
  refine st_nil ?_
  refine st_then ?_
  refine st_seq ?_
  refine st_region ?_
  refine st_call1 (ρ := Nat) (fun r => .tuple #[pt r 0, .bool true]) (fun _ => True) (fun r => [blk r (c64 (modW pP)) 142]) cal92 rfl (fun w hM => ((OfP_calls w (hL.at hM))).mono fun e w' ⟨r, h1, h2⟩ => ⟨r, h1, trivial, h2⟩) (by decide) (fun r1 _ => ?_)
  refine st_v (rv_move rfl) (by decide) ?_
  refine st_v (rv_extract rfl rfl) (by decide) ?_
  refine st_v (rv_extract rfl rfl) (by decide) ?_
  refine st_v (rv_assign rfl) (by decide) ?_
  refine st_v (rv_assign rfl) (by decide) ?_
  refine st_nil ?_
  refine st_then ?_
  refine st_seq ?_
  refine st_region ?_
  refine st_v (rv_move rfl) (by decide) ?_
  refine st_v (rv_assign rfl) (by decide) ?_
  refine st_nil ?_
  refine st_then ?_
  refine st_ret ?_
  exact st_done rfl rfl (fun w hM => ⟨r1, rfl, hM⟩)
set_option maxRecDepth 20000 in
theorem OfL_calls (w : World) (hL : LaidM w) : Calls Tryd.prog 92 #[vI (1 : Nat)] w (fun e w' => ∃ r : Nat, e = .returned (.tuple #[pt r 0, .bool true]) ∧ Mem (All w) w w' [blk r (c64 (modW pL)) 142]) := by
  obtain ⟨Tg, frg, hg⟩ := hL
  have hSg : All w 4 := ⟨(Array.getElem?_eq_some_iff.1 hg).1, fun h => h⟩
  refine calls_of_st (n := 14) (args := [vI (1 : Nat)]) Tryd.func92 rfl Tryd.ntmps92 (Nat.le_of_ble_eq_true rfl) (Mem.all w) ?_
  refine st_seq ?_
  refine st_region ?_
  refine st_v (rv_assign rfl) (by decide) ?_
  refine st_v (rv_assign rfl) (by decide) ?_
  refine st_nil ?_
  refine st_then ?_
  refine st_seq ?_
  refine st_seq ?_
  refine st_region ?_
  refine st_v (rv_move rfl) (by decide) ?_
  refine st_v (rv_lssZ rfl rfl) (by decide) ?_
  refine st_v (rv_move rfl) (by decide) ?_
  refine' st_or 3 (L := _) (s := 7) (d := 10) [0] rfl (fun hg3 => ?_) (fun _ => ?_) ?_; rotate_left
  · -- true
    refine st_gskip rfl rfl rfl (by decide) ?_
    refine st_gskip rfl rfl rfl (by decide) ?_
    first | refine st_v (rv_pick_true rfl rfl) (by decide) ?_ | refine st_v (rv_pick_false rfl rfl) (by decide) ?_ | refine st_v (rv_pick rfl rfl rfl) (by decide) ?_
    refine st_nil ?_
    exact st_meet_b (.cons rfl (.cons rfl (.nil _)))
  · -- false
    refine st_gon rfl rfl ?_
    refine st_v (rv_move rfl) (by decide) ?_
    refine st_gon rfl rfl ?_
    refine st_v (rv_geqZ rfl rfl) (by decide) ?_
    first | refine st_v (rv_pick_true rfl rfl) (by decide) ?_ | refine st_v (rv_pick_false rfl rfl) (by decide) ?_ | refine st_v (rv_pick rfl rfl rfl) (by decide) ?_
    refine st_nil ?_
    exact st_meet_b (.cons rfl (.cons rfl (.nil _)))
  refine st_nil ?_
  refine st_then ?_
  refine st_false rfl ?_
  refine st_skip ?_
  refine st_then ?_
  refine st_seq ?_
  refine st_region ?_
  refine st_v (rv_move rfl) (by decide) ?_
  refine st_v (rv_indexA (k := 13) Tryd.underlying174 sz142 rfl rfl (j := 1) rfl (by decide) rfl) (by decide) ?_
  refine st_v (rv_loadA_old tyA142 rfl hg hSg (by first | omega | (simp [length_modsW] <;> omega)) (by exact (ext64 _ _ _).trans (congrArg c64 mods1))) (by decide) ?_
  refine st_alloc tyZ142 (by decide) (cs := c64 (List.replicate 13 0#64)) (rfl) (fun b1 hb1 => ?_)
  refine st_storeW64 rfl rfl (i := 0) rfl sz142 (by first | omega | (simp [length_modsW]; done) | (simp [length_modsW] <;> omega)) (by first | omega | (simp [length_modsW]; done) | (simp [length_modsW] <;> omega)) (l' := [_]) rfl ?_
  refine st_nil ?_
  refine st_then ?_
  refine st_seq ?_
  refine st_region ?_
  refine st_v (rv_assign rfl) (by decide) ?_
  refine st_v (rv_assign rfl) (by decide) ?_
  refine st_nil ?_
  refine st_then ?_
  refine st_ret ?_
  exact st_done2 rfl rfl rfl (fun w hM => ⟨b1, rfl, hM⟩)
set_option maxRecDepth 20000 in
theorem Clone_calls (v : Value) (q : List (BitVec 8)) (h0 : 0 < q.length) (hq : q.length ≤ 1000000) (w : World) (hR : Rd w v q.length 1 (q.map U8)) : Calls Tryd.prog 54 #[v] w (fun e w' => ∃ r, e = .returned r ∧ Mem (All w) w w' [own r 5 1 q.length (q.map U8)]) := by
  refine calls_of_st (n := 8) (args := [v]) Tryd.func54 rfl Tryd.ntmps54 (Nat.le_of_ble_eq_true rfl) (Mem.all w) ?_
  refine st_seq ?_
  refine st_region ?_
  refine st_v (rv_assign rfl) (by decide) ?_
  refine st_nil ?_
  refine st_then ?_
  refine st_seq ?_
  refine st_seq ?_
  refine st_region ?_
  refine st_v (rv_move rfl) (by decide) ?_
  refine st_v (rv_eqlNilR (rd_old hR hR.all) h0 Tryd.underlying22 rfl rfl) (by decide) ?_
  refine st_nil ?_
  refine st_then ?_
  refine st_false rfl ?_
  refine st_skip ?_
  refine st_then ?_
  refine st_seq ?_
  refine st_region ?_
  refine st_buildO0 Tryd.underlying22 tyZ5 rfl (by decide) (fun v1 => ?_)
  refine st_v (rv_move rfl) (by decide) ?_
  refine st_append8 Tryd.underlying22 Tryd.underlying22 (.inr ⟨_, rfl⟩) tyZ5 rfl rfl rfl (i := 0) rfl (fun w hM => src_rd ((rd_old hR hR.all) w hM) (one8 _)) (by first | omega | (simp <;> omega)) (by first | omega | (simp <;> omega)) (by decide) (fun v1 => ?_)
  refine st_v (rv_assign rfl) (by decide) ?_
  refine st_nil ?_
  refine st_then ?_
  refine st_ret ?_
  exact st_done rfl rfl (fun w hM => ⟨_, rfl, by rw [List.nil_append, Nat.zero_add] at hM; exact hM⟩)
set_option maxRecDepth 20000 in
set_option maxHeartbeats 1000000 in
theorem Reverse_calls (u : Value) (nn : Nat) (q : List (BitVec 8)) (hq : q.length = nn) (h0 : 0 < nn) (hn : nn ≤ 1000000) (w : World) (hX : (own u 5 1 nn (q.map U8)).holds w) : Calls Tryd.prog 55 #[u] w (fun e w' => e = .returned (.tuple #[]) ∧ Mem (Old w (vfoot u)) w w' [own u 5 1 nn (q.reverse.map U8)]) := by
  subst hq
  refine calls_of_st (n := 28) (args := [u]) Tryd.func55 rfl Tryd.ntmps55 (Nat.le_of_ble_eq_true rfl) (Mem.paramOwn hX) ?_
  refine st_seq ?_
  refine st_region ?_
  refine st_v (rv_move rfl) (by decide) ?_
  refine st_v (rv_lenR (rd_own (i := 0) rfl) Tryd.underlying22 rfl) (by decide) ?_
  first | refine st_v (rv_subN (b := 1) rfl rfl (by first | omega | (simp; done) | (simp; omega))) (by decide) ?_ | refine st_v (rv_subZ rfl rfl (by first | omega | (simp; done) | (simp; omega))) (by decide) ?_
  refine st_v (rv_assign rfl) (by decide) ?_
  refine st_v (rv_assign rfl) (by decide) ?_
  refine st_nil ?_
  refine st_then ?_
  refine st_block ?_
  refine st_loopA (σ := Nat) [(0, kst _), (2, fun k => vI (k : Nat)), (3, fun k => vI (q.length - 1 - k : Nat))] [fun k => own u 5 1 q.length ((revW q k).map U8)] (fun k => 2 * k ≤ q.length) (fun k => q.length - k) 0 (by omega) (.cons rfl (.cons rfl (.cons rfl (.nil _)))) (fun _ hM => hM) ?_
  intro k hI
  try dsimp only at hI
  dsimp only [List.map, kst]
  refine st_seq ?_
  refine st_seq ?_
  refine st_region ?_
  refine st_v (rv_move rfl) (by decide) ?_
  refine st_v (rv_move rfl) (by decide) ?_
  refine st_v (rv_lssZ rfl rfl) (by decide) ?_
  refine st_nil ?_
  refine st_then ?_
  refine st_cond rfl (fun hc9 => ?_) (fun hc9 => ?_)
  · -- t9 True
    try simp only [z1, z2, z3, z4, z5, z6, z7, z8, z9, z10, z11, z12, z13, z14] at hc9
    refine st_skip ?_
    refine st_then ?_
    refine st_seq ?_
    refine st_block ?_
    refine st_drawStart mixed ?_
    refine st_drawSeg (E0 := [(0, _), (2, _), (3, _)]) [13] [kpeq _, kpeq _, kpeq _, kpeq _, kpeq _, kpeq _, kpeq _, kpeq _, kpeq _, kpeq _, kpeq _, kpeq _, kpeq _, kany] (phs [13] [[kst _], [kst (own _ _ _ _ _)]]) 0 14 [0, 0, 0, 0, 0, 0, 48, 112, 0, 0, 768, 1792, 4083, 8179, 16383, 32767] [0, 2, 3] (by kernel_rfl) (by decide) (by decide) (by kernel_rfl) rfl rfl (phs_skip _) (.cons rfl (.cons rfl (.cons rfl (.nil _)))) (fun _ h => h) (hall_cons (hop_valY [] [] [] rfl rfl rfl (by decide) rfl (jnil) (xnil) (ynil) (fun p h1 h2 vals => by obtain rfl : p = 0 := Nat.le_antisymm h2 h1; exact does_v (rv_move rfl))) (hall_cons (hop_valY [] [] [] rfl rfl rfl (by decide) rfl (jnil) (xnil) (ynil) (fun p h1 h2 vals => by obtain rfl : p = 0 := Nat.le_antisymm h2 h1; exact does_v (rv_move rfl))) (hall_cons (hop_valY [] [] [] rfl rfl rfl (by decide) rfl (jnil) (xnil) (ynil) (fun p h1 h2 vals => by
    have h1 : 0 ≤ p := h1
    have h2 : p ≤ 1 := h2
    obtain rfl | rfl : p = 0 ∨ p = 1 := by omega
    all_goals exact does_v (rv_move rfl))) (hall_cons (hop_valY [] [] [] rfl rfl rfl (by decide) rfl (jnil) (xnil) (ynil) (fun p h1 h2 vals => by
    have h1 : 0 ≤ p := h1
    have h2 : p ≤ 1 := h2
    obtain rfl | rfl : p = 0 ∨ p = 1 := by omega
    all_goals exact does_v (rv_move rfl))) (hall_cons (hop_valY [] [] [] rfl rfl rfl (by decide) rfl (jnil) (xnil) (ynil) (fun p h1 h2 vals => by obtain rfl : p = 0 := Nat.le_antisymm h2 h1; exact does_v (rv_move rfl))) (hall_cons (hop_valY [] [] [] rfl rfl rfl (by decide) rfl (jnil) (xnil) (ynil) (fun p h1 h2 vals => by obtain rfl : p = 0 := Nat.le_antisymm h2 h1; exact does_v (rv_move rfl))) (hall_cons (hop_valY [(4, 18, _), (5, 19, _)] [] [] rfl rfl rfl (by decide) rfl (jcons rfl rfl rfl rfl rfl (jcons rfl rfl rfl rfl rfl (jnil))) (xnil) (ynil) (fun p h1 h2 vals => by obtain rfl : p = 0 := Nat.le_antisymm h2 h1; exact does_v (rv_indexR1 (rd_own (i := 0) rfl) Tryd.underlying22 sz5 rfl rfl rfl (by first | omega | (simp <;> omega))))) (hall_cons (hop_valY [(6, 20, _)] [] [] rfl rfl rfl (by decide) rfl (jcons rfl rfl rfl rfl rfl (jnil)) (xnil) (ynil) (fun p h1 h2 vals => by obtain rfl : p = 0 := Nat.le_antisymm h2 h1; exact does_v (rv_load_rd (rd_own (i := 0) rfl) tyS5 rfl (get8 (by first | omega | (simp <;> omega)))))) (hall_cons (hop_valY [] [] [] rfl rfl rfl (by decide) rfl (jnil) (xnil) (ynil) (fun p h1 h2 vals => by obtain rfl : p = 0 := Nat.le_antisymm h2 h1; exact does_v (rv_move rfl))) (hall_cons (hop_valY [] [] [] rfl rfl rfl (by decide) rfl (jnil) (xnil) (ynil) (fun p h1 h2 vals => by obtain rfl : p = 0 := Nat.le_antisymm h2 h1; exact does_v (rv_move rfl))) (hall_cons (hop_valY [(8, 22, _), (9, 23, _)] [] [] rfl rfl rfl (by decide) rfl (jcons rfl rfl rfl rfl rfl (jcons rfl rfl rfl rfl rfl (jnil))) (xnil) (ynil) (fun p h1 h2 vals => by obtain rfl : p = 0 := Nat.le_antisymm h2 h1; exact does_v (rv_indexR1 (rd_own (i := 0) rfl) Tryd.underlying22 sz5 rfl rfl rfl (by first | omega | (simp <;> omega))))) (hall_cons (hop_valY [(10, 24, _)] [] [] rfl rfl rfl (by decide) rfl (jcons rfl rfl rfl rfl rfl (jnil)) (xnil) (ynil) (fun p h1 h2 vals => by obtain rfl : p = 0 := Nat.le_antisymm h2 h1; exact does_v (rv_load_rd (rd_own (i := 0) rfl) tyS5 rfl (get8 (by first | omega | (simp <;> omega)))))) (hall_cons (hop_valY [(0, 14, _), (1, 15, _)] [] [] rfl rfl rfl (by decide) rfl (jcons rfl rfl rfl rfl rfl (jcons rfl rfl rfl rfl rfl (jnil))) (xnil) (ynil) (fun p h1 h2 vals => by obtain rfl : p = 0 := Nat.le_antisymm h2 h1; exact does_v (rv_indexR1 (rd_own (i := 0) rfl) Tryd.underlying22 sz5 rfl rfl rfl (by first | omega | (simp <;> omega))))) (hall_cons (hop_mem [(12, 26, _), (7, 21, _)] [] [] rfl rfl rfl (fun d h => by cases h) (⟨fun _ => rfl, ⟨fun _ => rfl, ⟨fun _ => rfl, ⟨fun _ => rfl, ⟨fun _ => rfl, ⟨fun _ => rfl, ⟨fun _ => rfl, ⟨fun _ => rfl, ⟨fun _ => rfl, ⟨fun _ => rfl, ⟨fun _ => rfl, ⟨fun _ => rfl, ⟨fun _ => rfl, ⟨fun _ => rfl, trivial⟩⟩⟩⟩⟩⟩⟩⟩⟩⟩⟩⟩⟩⟩) (jcons rfl rfl rfl rfl rfl (jcons rfl rfl rfl rfl rfl (jnil))) (xnil) (ynil) (fun vals => dm_storeOwn8 rfl rfl (i := 0) rfl sz5 (by first | omega | (simp <;> omega)) (fun v u => rfl))) (hall_nil))))))))))))))) (draw_endY [(2, 16, _), (3, 17, _), (11, 25, _)] [] [] rfl (jcons rfl rfl rfl rfl rfl (jcons rfl rfl rfl rfl rfl (jcons rfl rfl rfl rfl rfl (jnil)))) (xnil) (ynil) (fun vals => ?_))
    refine St.conv (E' := [(16, _), (17, _), (25, _), (0, _), (2, _), (3, _)]) (l1 := [_]) rfl rfl ?_
    try dsimp only [kst]
    refine st_drawTail (N := 14) [0, 0, 0, 0, 0, 0, 48, 112, 0, 0, 768, 1792, 4083, 8179, 16383, 32767] (by kernel_rfl) (by kernel_rfl) ?_
    refine st_v (rv_indexR1 (rd_own (i := 0) rfl) Tryd.underlying22 sz5 rfl rfl rfl (by first | omega | (simp <;> omega))) (by decide) ?_
    refine st_storeOwn8 rfl rfl (i := 0) rfl sz5 (by first | omega | (simp <;> omega)) rfl ?_
    refine st_nil ?_
    refine st_in_normal ?_
    refine st_then ?_
    refine st_region ?_
    refine st_v (rv_move rfl) (by decide) ?_
    first | refine st_v (rv_addN (b := 1) rfl rfl (by first | omega | (simp; done) | (simp; omega))) (by decide) ?_ | refine st_v (rv_addZ rfl rfl (by first | omega | (simp; done) | (simp; omega))) (by decide) ?_
    refine st_v (rv_move rfl) (by decide) ?_
    first | refine st_v (rv_subN (b := 1) rfl rfl (by first | omega | (simp; done) | (simp; omega))) (by decide) ?_ | refine st_v (rv_subZ rfl rfl (by first | omega | (simp; done) | (simp; omega))) (by decide) ?_
    refine st_v (rv_assign rfl) (by decide) ?_
    refine st_v (rv_assign rfl) (by decide) ?_
    refine st_nil ?_
    refine st_then ?_
    exact st_again (k + 1) (by omega) (by omega) (.cons rfl (.cons rfl (SubE.cons (congrArg some (congrArg (fun z : Nat => vI z) (by omega))) (.nil _)))) (fun _ hM => hM)
  · -- t9 False
    try simp only [z1, z2, z3, z4, z5, z6, z7, z8, z9, z10, z11, z12, z13, z14] at hc9
    have hk2 : q.length ≤ 2 * k + 1 := by omega
    refine st_exit ?_
    refine st_then_exit ?_
    refine st_then_exit ?_
    refine st_in_exit ?_
    exact st_done0' rfl (fun w hM => ⟨rfl, by rw [revW_all hI hk2] at hM; exact hM⟩)
set_option maxRecDepth 20000 in
theorem lowBytes_calls (n : Nat) (w : World) : Calls Tryd.prog 49 #[.agg (c64 (w64 4 (n)))] w (fun e w' => ∃ r, e = .returned r ∧ Mem (All w) w w' [own r 5 1 32 ((leB 32 n).map U8)]) := by
  refine calls_of_st (n := 9) (args := [.agg (c64 (w64 4 (n)))]) Tryd.func49 rfl Tryd.ntmps49 (Nat.le_of_ble_eq_true rfl) (Mem.all w) ?_
  refine st_seq ?_
  refine st_region ?_
  refine st_box rfl (by decide) (cs := c64 (w64 4 n)) rfl (fun b1 hb1 => ?_)
  refine st_v (rv_assign rfl) (by decide) ?_
  refine st_nil ?_
  refine st_then ?_
  refine st_seq ?_
  refine st_region ?_
  refine st_v (rv_loadW_blk tyA79 rfl (i := 0) rfl (by first | omega | (simp; done) | (simp <;> omega))) (by decide) ?_
  refine st_call1 (ρ := Value) (fun r => r) (fun _ => True) (fun r => [own r 5 1 32 ((beB 32 n).map U8)]) cal93 rfl (fun w hM => ((IBytes_calls n w)).mono fun e w' ⟨r, h1, h2⟩ => ⟨r, h1, trivial, h2⟩) (by decide) (fun r2 _ => ?_)
  refine st_v (rv_assign rfl) (by decide) ?_
  refine st_nil ?_
  refine st_then ?_
  refine st_seq ?_
  refine st_region ?_
  refine st_v (rv_move rfl) (by decide) ?_
  refine st_callO cal55 rfl (i := 0) rfl (fun w hM => Reverse_calls _ _ _ (length_beB 32 n) (by decide) (by first | decide | omega) w (hM.ownAt (i := 0) rfl)) (by decide) (l' := [_, _]) rfl ?_
  refine st_nil ?_
  refine st_then ?_
  refine st_seq ?_
  refine st_region ?_
  refine st_v (rv_move rfl) (by decide) ?_
  refine st_v (rv_assign rfl) (by decide) ?_
  refine st_nil ?_
  refine st_then ?_
  refine st_ret ?_
  exact st_done rfl rfl (fun w hM => ⟨_, rfl, hM.sublist (List.Sublist.cons_cons _ (List.Sublist.cons _ (List.Sublist.slnil)))⟩)
set_option maxRecDepth 20000 in
theorem low_calls (v : Value) (q : List (BitVec 8)) (h0 : 0 < q.length) (hq : q.length ≤ 32) (w : World) (hR : Rd w v q.length 1 (q.map U8)) : Calls Tryd.prog 76 #[v] w (fun r w' => r = .returned (.agg (c64 (w64 4 (leN q)))) ∧ Mem (All w) w w' []) := by
  refine calls_of_st (n := 10) (args := [v]) Tryd.func76 rfl Tryd.ntmps76 (Nat.le_of_ble_eq_true rfl) (Mem.all w) ?_
  refine st_seq ?_
  refine st_region ?_
  refine st_alloc tyZ79 (by decide) (cs := c64 (List.replicate 4 0#64)) (rfl) (fun b1 hb1 => ?_)
  refine st_nil ?_
  refine st_then ?_
  refine st_seq ?_
  refine st_region ?_
  refine st_v (rv_move rfl) (by decide) ?_
  refine st_call1 (ρ := Value) (fun r => r) (fun _ => True) (fun r => [own r 5 1 (q).length ((q).map U8)]) cal54 rfl (fun w hM => ((Clone_calls _ (q) (by omega) (by omega) w (Rd.n_eq ((rd_old hR hR.all) w hM) (by omega)))).mono fun e w' ⟨r, h1, h2⟩ => ⟨r, h1, trivial, h2⟩) (by decide) (fun r2 _ => ?_)
  refine st_v (rv_assign rfl) (by decide) ?_
  refine st_nil ?_
  refine st_then ?_
  refine st_seq ?_
  refine st_region ?_
  refine st_v (rv_move rfl) (by decide) ?_
  refine st_callO cal55 rfl (i := 0) rfl (fun w hM => Reverse_calls _ _ _ (rfl) (h0) (by first | decide | omega) w (hM.ownAt (i := 0) rfl)) (by decide) (l' := [_, _]) rfl ?_
  refine st_nil ?_
  refine st_then ?_
  refine st_seq ?_
  refine st_region ?_
  refine st_v (rv_move rfl) (by decide) ?_
  refine st_call0 cal118 rfl (fun w hM => (FromBytes_calls _ q.reverse (by simp; omega) w (Rd.n_eq ((rd_own (i := 0) rfl) w hM) (by simp)))) (by decide) ?_
  refine st_storeW64 rfl rfl (i := 1) rfl sz79 (by first | omega | (simp; done) | (simp <;> omega)) (by first | omega | (simp; done) | (simp <;> omega)) (l' := [_, _]) rfl ?_
  refine st_nil ?_
  refine st_then ?_
  refine st_ret ?_
  exact st_doneC tyA79 rfl rfl (i := 1) rfl (by first | omega | (simp <;> omega)) (fun w hM => ⟨rfl, hM.sublist (List.nil_sublist _)⟩)
set_option maxRecDepth 20000 in
theorem clamp_calls (v : Value) (q : List (BitVec 8)) (hq : q.length = 32) (w : World) (hR : Rd w v q.length 1 (q.map U8)) : Calls Tryd.prog 52 #[v] w (fun r w' => r = .returned (.agg (c64 (w64 4 (leN (clampB q))))) ∧ Mem (All w) w w' []) := by
  refine calls_of_st (n := 20) (args := [v]) Tryd.func52 rfl Tryd.ntmps52 (Nat.le_of_ble_eq_true rfl) (Mem.all w) ?_
  refine st_seq ?_
  refine st_region ?_
  refine st_alloc tyZ79 (by decide) (cs := c64 (List.replicate 4 0#64)) (rfl) (fun b1 hb1 => ?_)
  refine st_nil ?_
  refine st_then ?_
  refine st_seq ?_
  refine st_region ?_
  refine st_v (rv_move rfl) (by decide) ?_
  refine st_call1 (ρ := Value) (fun r => r) (fun _ => True) (fun r => [own r 5 1 (q).length ((q).map U8)]) cal54 rfl (fun w hM => ((Clone_calls _ (q) (by omega) (by omega) w (Rd.n_eq ((rd_old hR hR.all) w hM) (by omega)))).mono fun e w' ⟨r, h1, h2⟩ => ⟨r, h1, trivial, h2⟩) (by decide) (fun r2 _ => ?_)
  refine st_v (rv_assign rfl) (by decide) ?_
  refine st_nil ?_
  refine st_then ?_
  refine st_seq ?_
  refine st_region ?_
  refine st_v (rv_move rfl) (by decide) ?_
  refine st_v (rv_indexR1 (rd_own (i := 0) rfl) Tryd.underlying22 sz5 rfl rfl (j := 0) rfl (by first | omega | (simp [hq] <;> omega))) (by decide) ?_
  refine st_v (rv_load_rd (rd_own (i := 0) rfl) tyS5 rfl (get8 (by first | omega | (simp [hq] <;> omega)))) (by decide) ?_
  refine st_v (rv_and8 (b := 248#8) rfl rfl) (by decide) ?_
  refine st_v (rv_indexR1 (rd_own (i := 0) rfl) Tryd.underlying22 sz5 rfl rfl (j := 0) rfl (by first | omega | (simp [hq] <;> omega))) (by decide) ?_
  refine st_storeOwn8 rfl rfl (i := 0) rfl sz5 (by first | omega | (simp [hq] <;> omega)) rfl ?_
  refine st_nil ?_
  refine st_then ?_
  refine st_seq ?_
  refine st_region ?_
  refine st_v (rv_move rfl) (by decide) ?_
  refine st_v (rv_move rfl) (by decide) ?_
  refine st_v (rv_indexR1 (rd_own (i := 0) rfl) Tryd.underlying22 sz5 rfl rfl (j := 31) rfl (by first | omega | (simp [hq] <;> omega))) (by decide) ?_
  refine st_v (rv_load_rd (rd_own (i := 0) rfl) tyS5 rfl (get8 (by first | omega | (simp [hq] <;> omega)))) (by decide) ?_
  refine st_v (rv_and8 (b := 127#8) rfl rfl) (by decide) ?_
  refine st_v (rv_or8 (b := 64#8) rfl rfl) (by decide) ?_
  refine st_v (rv_indexR1 (rd_own (i := 0) rfl) Tryd.underlying22 sz5 rfl rfl (j := 31) rfl (by first | omega | (simp [hq] <;> omega))) (by decide) ?_
  refine st_storeOwn8 rfl rfl (i := 0) rfl sz5 (by first | omega | (simp [hq] <;> omega)) rfl ?_
  refine st_nil ?_
  refine st_then ?_
  refine st_seq ?_
  refine st_region ?_
  refine st_v (rv_move rfl) (by decide) ?_
  refine st_call0 cal76 rfl (fun w hM => (low_calls _ (clampB q) (by simp; omega) (by simp; omega) w (Rd.n_eq ((rd_own (i := 0) rfl) w hM) (by simp)))) (by decide) ?_
  refine st_storeW64 rfl rfl (i := 1) rfl sz79 (by first | omega | (simp [hq]; done) | (simp [hq] <;> omega)) (by first | omega | (simp [hq]; done) | (simp [hq] <;> omega)) (l' := [_, _]) rfl ?_
  refine st_nil ?_
  refine st_then ?_
  refine st_ret ?_
  exact st_doneC tyA79 rfl rfl (i := 1) rfl (by first | omega | (simp [hq] <;> omega)) (fun w hM => ⟨rfl, hM.sublist (List.nil_sublist _)⟩)
set_option maxRecDepth 20000 in
set_option maxHeartbeats 4000000 in
theorem ladder_calls (n : Nat) (u : Fp) (w : World) (hL : LaidM w) : Calls Tryd.prog 51 #[.agg (c64 (w64 4 (n))), .agg (c64 (El (u)))] w (fun r w' => r = .returned (.agg (c64 (El (ladder n u)))) ∧ Mem (All w) w w' []) := by
  refine calls_of_st (n := 116) (args := [.agg (c64 (w64 4 (n))), .agg (c64 (El (u)))]) Tryd.func51 rfl Tryd.ntmps51 (Nat.le_of_ble_eq_true rfl) (Mem.all w) ?_
  refine st_seq ?_
  refine st_region ?_
  refine st_box rfl (by decide) (cs := c64 (w64 4 n)) rfl (fun b1 hb1 => ?_)
  refine st_box rfl (by decide) (cs := c64 (El u)) rfl (fun b2 hb2 => ?_)
  refine st_alloc tyZ81 (by decide) (cs := c64 (List.replicate 4 0#64)) (rfl) (fun b3 hb3 => ?_)
  refine st_nil ?_
  refine st_then ?_
  refine st_seq ?_
  refine st_region ?_
  refine st_call1 (ρ := Nat) (fun r => pt r 0) (fun _ => True) (fun r => [blk r (c64 (modW pP)) 142]) cal48 rfl (fun w hM => ((fp_calls w (hL.at hM))).mono fun e w' ⟨r, h1, h2⟩ => ⟨r, h1, trivial, h2⟩) (by decide) (fun r4 _ => ?_)
  refine st_v (rv_assign rfl) (by decide) ?_
  refine st_nil ?_
  refine st_then ?_
  refine st_seq ?_
  refine st_drawStart mixed ?_
  refine st_drawSeg (E0 := [(2, _), (3, _), (4, _), (5, _)]) [10, 11] [kpeq _, kpeq _, kpeq _, kpeq _, kpeq _, kpeq _, kAl 0 (c64 (List.replicate 4 0#64)) _ 81, kAl 1 (c64 (List.replicate 4 0#64)) _ 81, (fun _ => blkV (c64 (List.replicate 4 0#64)) 81), (fun _ => blkV (c64 (List.replicate 4 0#64)) 81), kany, kany] (phs [10, 11] [[kst _, kst _, kst _, kst _], [kst _, kst _, kst _, kst _], [kst _, kst _, kst _, kst _]]) 0 12 [0, 1, 0, 0, 0, 19, 0, 0, 0, 0, 1011, 2039, 4095, 8191] [2, 3, 4, 5] (by kernel_rfl) (by decide) (by decide) (by kernel_rfl) rfl rfl (phs_skip _) (.cons rfl (.cons rfl (.cons rfl (.cons rfl (.nil _))))) (fun _ h => h) (hall_cons (hop_valY [] [] [] rfl rfl rfl (by decide) rfl (jnil) (xnil) (ynil) (fun p h1 h2 vals => by obtain rfl : p = 0 := Nat.le_antisymm h2 h1; exact does_v (rv_move rfl))) (hall_cons (hop_valY [(0, 22, _)] [] [] rfl rfl rfl (by decide) rfl (jcons rfl rfl rfl rfl rfl (jnil)) (xnil) (ynil) (fun p h1 h2 vals => by obtain rfl : p = 0 := Nat.le_antisymm h2 h1; exact does_call0 cal96 rfl (fun w hM => (One_calls goodP _ w (ModAt.blk hM (i := 0) rfl))))) (hall_cons (hop_valY [] [] [] rfl rfl rfl (by decide) rfl (jnil) (xnil) (ynil) (fun p h1 h2 vals => by
    have h1 : 0 ≤ p := h1
    have h2 : p ≤ 1 := h2
    obtain rfl | rfl : p = 0 ∨ p = 1 := by omega
    all_goals exact does_v (rv_buildArray_of Tryd.underlying81 tyZ81 sz77 rfl (cs := c64 [0#64, 0#64, 0#64, 0#64]) (by rfl)))) (hall_cons (hop_valY [] [] [] rfl rfl rfl (by decide) rfl (jnil) (xnil) (ynil) (fun p h1 h2 vals => by
    have h1 : 0 ≤ p := h1
    have h2 : p ≤ 2 := h2
    obtain rfl | rfl | rfl : p = 0 ∨ p = 1 ∨ p = 2 := by omega
    all_goals exact does_v (rv_loadW_blk tyA81 rfl (i := 2) rfl (by first | omega | (simp; done) | (simp <;> omega))))) (hall_cons (hop_valY [] [] [] rfl rfl rfl (by decide) rfl (jnil) (xnil) (ynil) (fun p h1 h2 vals => by obtain rfl : p = 0 := Nat.le_antisymm h2 h1; exact does_v (rv_move rfl))) (hall_cons (hop_valY [(4, 26, _)] [] [] rfl rfl rfl (by decide) rfl (jcons rfl rfl rfl rfl rfl (jnil)) (xnil) (ynil) (fun p h1 h2 vals => by obtain rfl : p = 0 := Nat.le_antisymm h2 h1; exact does_call0 cal96 rfl (fun w hM => (One_calls goodP _ w (ModAt.blk hM (i := 0) rfl))))) (hall_cons (hop_valY [] [] [] rfl rfl rfl (by decide) rfl (jnil) (xnil) (ynil) (fun p h1 h2 vals => by obtain rfl : p = 0 := Nat.le_antisymm h2 h1; exact does_alloc tyZ81 (rfl))) (hall_cons (hop_valY [] [] [] rfl rfl rfl (by decide) rfl (jnil) (xnil) (ynil) (fun p h1 h2 vals => by obtain rfl : p = 0 := Nat.le_antisymm h2 h1; exact does_alloc tyZ81 (rfl))) (hall_cons (hop_valY [] [] [] rfl rfl rfl (by decide) rfl (jnil) (xnil) (ynil) (fun p h1 h2 vals => by obtain rfl : p = 0 := Nat.le_antisymm h2 h1; exact does_alloc tyZ81 (rfl))) (hall_cons (hop_valY [] [] [] rfl rfl rfl (by decide) rfl (jnil) (xnil) (ynil) (fun p h1 h2 vals => by obtain rfl : p = 0 := Nat.le_antisymm h2 h1; exact does_alloc tyZ81 (rfl))) (hall_cons (hop_memC 6 6 _ [(1, 23, _)] [] rfl rfl rfl (fun d h => by cases h) rfl rfl rfl (⟨.inr fun _ => rfl, ⟨.inr fun _ => rfl, ⟨.inr fun _ => rfl, ⟨.inr fun _ => rfl, ⟨.inr fun _ => rfl, ⟨.inr fun _ => rfl, ⟨.inl rfl, ⟨.inr fun _ => rfl, ⟨.inr fun _ => rfl, ⟨.inr fun _ => rfl, ⟨.inr fun _ => rfl, ⟨.inr fun _ => rfl, trivial⟩⟩⟩⟩⟩⟩⟩⟩⟩⟩⟩⟩) (jcons rfl rfl rfl rfl rfl (jnil)) (ynil) (fun vals => dm_storeV64 rfl rfl (i := 0) rfl sz81 (by first | omega | (simp <;> omega)) (by first | omega | (simp <;> omega)) (fun v u => rfl))) (hall_cons (hop_memC 7 7 _ [(2, 24, _)] [] rfl rfl rfl (fun d h => by cases h) rfl rfl rfl (⟨.inr fun _ => rfl, ⟨.inr fun _ => rfl, ⟨.inr fun _ => rfl, ⟨.inr fun _ => rfl, ⟨.inr fun _ => rfl, ⟨.inr fun _ => rfl, ⟨.inr fun _ => rfl, ⟨.inl rfl, ⟨.inr fun _ => rfl, ⟨.inr fun _ => rfl, ⟨.inr fun _ => rfl, ⟨.inr fun _ => rfl, trivial⟩⟩⟩⟩⟩⟩⟩⟩⟩⟩⟩⟩) (jcons rfl rfl rfl rfl rfl (jnil)) (ynil) (fun vals => dm_storeV64 rfl rfl (i := 0) rfl sz81 (by first | omega | (simp <;> omega)) (by first | omega | (simp <;> omega)) (fun v u => rfl))) (hall_nil))))))))))))) (draw_endY [(3, 25, _), (5, 27, _)] [(6, 6, kAl 0 (c64 (List.replicate 4 0#64)) _ 81), (7, 7, kAl 1 (c64 (List.replicate 4 0#64)) _ 81), (8, 8, (fun _ => blkV (c64 (List.replicate 4 0#64)) 81)), (9, 9, (fun _ => blkV (c64 (List.replicate 4 0#64)) 81))] [] rfl (jcons rfl rfl rfl rfl rfl (jcons rfl rfl rfl rfl rfl (jnil))) (xcons rfl rfl rfl rfl rfl rfl (xcons rfl rfl rfl rfl rfl rfl (xcons rfl rfl rfl rfl rfl rfl (xcons rfl rfl rfl rfl rfl rfl (xnil))))) (ynil) (fun vals => ?_))
  refine St.conv (E' := [(6, vals 6), (7, vals 7), (8, vals 8), (9, vals 9), (25, _), (27, _), (2, _), (3, _), (4, _), (5, _)]) (l1 := [blkV (c64 _) 81 (vals 6), blkV (c64 _) 81 (vals 7), blkV (c64 _) 81 (vals 8), blkV (c64 _) 81 (vals 9), _, _, _, _]) rfl rfl ?_
  try dsimp only [kst]
  refine st_openV (i := 0) rfl (fun b7 hb7 => ?_)
  rw [hb7]
  refine st_openV (i := 1) rfl (fun b8 hb8 => ?_)
  rw [hb8]
  refine st_openV (i := 2) rfl (fun b9 hb9 => ?_)
  rw [hb9]
  refine st_openV (i := 3) rfl (fun b10 hb10 => ?_)
  rw [hb10]
  refine st_drawTail (N := 12) [0, 1, 0, 0, 0, 19, 0, 0, 0, 0, 1011, 2039, 4095, 8191] (by kernel_rfl) (by kernel_rfl) ?_
  refine st_storeW64 rfl rfl (i := 2) rfl sz81 (by first | omega | (simp; done) | (simp <;> omega)) (by first | omega | (simp; done) | (simp <;> omega)) (l' := [_, _, _, _, _, _, _, _]) rfl ?_
  refine st_storeW64 rfl rfl (i := 3) rfl sz81 (by first | omega | (simp; done) | (simp <;> omega)) (by first | omega | (simp; done) | (simp <;> omega)) (l' := [_, _, _, _, _, _, _, _]) rfl ?_
  refine st_nil ?_
  refine st_then ?_
  refine st_seq ?_
  refine st_region ?_
  refine st_v (rv_assign rfl) (by decide) ?_
  rw [El_zeroL (m := pP)]
  refine st_nil ?_
  refine st_then ?_
  refine st_seq ?_
  refine st_region ?_
  refine st_v (rv_move rfl) (by decide) ?_
  refine st_call0 cal53 rfl (fun w hM => (Small_calls goodP _ 121665 (by decide) w (ModAt.blk hM (i := 4) rfl))) (by decide) ?_
  refine st_alloc tyZ81 (by decide) (cs := c64 (List.replicate 4 0#64)) (rfl) (fun b11 hb11 => ?_)
  refine st_storeW64 rfl rfl (i := 0) rfl sz81 (by first | omega | (simp; done) | (simp <;> omega)) (by first | omega | (simp; done) | (simp <;> omega)) (l' := [_, _, _, _, _, _, _, _, _]) rfl ?_
  refine st_nil ?_
  refine st_then ?_
  refine st_seq ?_
  refine st_seq ?_
  refine st_region ?_
  refine st_v (rv_assign rfl) (by decide) ?_
  refine st_nil ?_
  refine st_then ?_
  refine st_block ?_
  refine st_loopA (σ := Nat) [(2, kst _), (3, kst _), (4, kst _), (5, kst _), (6, kst _), (7, kst _), (8, kst _), (9, kst _), (10, fun k => U64 (BitVec.ofNat 64 (ladS n u (255 - k)).sw)), (11, kst _), (12, fun k => vI ((k : Nat) - 1 : Int))] [kst _, fun k => blk b7 (c64 (El (ladS n u (255 - k)).x2)) 81, fun k => blk b8 (c64 (El (ladS n u (255 - k)).z2)) 81, fun k => blk b9 (c64 (El (ladS n u (255 - k)).x3)) 81, fun k => blk b10 (c64 (El (ladS n u (255 - k)).z3)) 81, kst _, kst _, kst _, kst _] (fun k => k ≤ 255) (fun k => k) 255 (by omega) (.cons rfl (.cons rfl (.cons rfl (.cons rfl (.cons rfl (.cons rfl (.cons rfl (.cons rfl (SubE.cons (by dsimp only; (first | rw [ladS_0 n u] | rw [ladS_00 n u]); rfl) (.cons rfl (.cons rfl (.nil _)))))))))))) (by intro w hM; dsimp only [List.map, kst]; (first | rw [ladS_0 n u] | rw [ladS_00 n u]); dsimp only; exact hM) ?_
  intro k hI
  try dsimp only at hI
  dsimp only [List.map, kst]
  refine st_seq ?_
  refine st_seq ?_
  refine st_region ?_
  refine st_v (rv_move rfl) (by decide) ?_
  refine st_v (rv_geqZ rfl rfl) (by decide) ?_
  refine st_nil ?_
  refine st_then ?_
  refine st_cond rfl (fun hc31 => ?_) (fun hc31 => ?_)
  · -- t31 True
    try simp only [z1, z2, z3, z4, z5, z6, z7, z8, z9, z10, z11, z12, z13, z14] at hc31
    obtain ⟨j, rfl⟩ : ∃ j, k = j + 1 := ⟨k - 1, by omega⟩
    rw [dn_succ]
    have hsw := ladS_sw n u (255 - (j + 1))
    refine st_skip ?_
    refine st_then ?_
    refine st_seq ?_
    refine st_block ?_
    refine st_seq ?_
    refine st_seq ?_
    refine st_region ?_
    refine st_v (rv_loadW_blk tyA79 rfl (i := 8) rfl (by first | omega | (simp; done) | (simp <;> omega))) (by decide) ?_
    refine st_v (rv_move rfl) (by decide) ?_
    refine st_call0 cal97 rfl (fun w hM => (Bit_calls _ j (by omega) w)) (by decide) ?_
    refine st_v (rv_assign rfl) (by decide) ?_
    refine st_nil ?_
    refine st_then ?_
    refine st_seq ?_
    refine st_region ?_
    refine st_v (rv_move rfl) (by decide) ?_
    refine st_v (rv_move rfl) (by decide) ?_
    refine st_v (rv_neq64 rfl rfl) (by decide) ?_
    refine st_nil ?_
    refine st_then ?_
    refine st_cond rfl (fun hc39 => ?_) (fun hc39 => ?_)
    · -- t39 True
      try simp only [z1, z2, z3, z4, z5, z6, z7, z8, z9, z10, z11, z12, z13, z14] at hc39
      have hst := (ladS_next n u hI).trans (ladStep_swap (by omega) hsw hc39)
      refine st_seq ?_
      refine st_drawStart mixed ?_
      refine st_drawSeg (E0 := [(2, _), (3, _), (4, _), (5, _), (6, _), (7, _), (8, _), (9, _), (11, _), (12, _), (13, _)]) [4] [kpeq _, kpeq _, kpeq _, kpeq _, kany] (phs [4] [[kst _, kst _, kst _, kst _, kst _, kst _, kst _, kst _, kst _], [kst _, kst (blk _ _ _), kst _, kst _, kst _, kst _, kst _, kst _, kst _]]) 0 5 [0, 0, 0, 0, 13, 31, 63, 127] [2, 3, 4, 5, 6, 7, 8, 9, 11, 12, 13] (by kernel_rfl) (by decide) (by decide) (by kernel_rfl) rfl rfl (phs_skip _) (.cons rfl (.cons rfl (.cons rfl (.cons rfl (.cons rfl (.cons rfl (.cons rfl (.cons rfl (.cons rfl (.cons rfl (.cons rfl (.nil _)))))))))))) (fun _ h => h) (hall_cons (hop_valY [] [] [] rfl rfl rfl (by decide) rfl (jnil) (xnil) (ynil) (fun p h1 h2 vals => by obtain rfl : p = 0 := Nat.le_antisymm h2 h1; exact does_v (rv_loadW_blk tyA81 rfl (i := 3) rfl (by first | omega | (simp; done) | (simp <;> omega))))) (hall_cons (hop_valY [] [] [] rfl rfl rfl (by decide) rfl (jnil) (xnil) (ynil) (fun p h1 h2 vals => by
    have h1 : 0 ≤ p := h1
    have h2 : p ≤ 1 := h2
    obtain rfl | rfl : p = 0 ∨ p = 1 := by omega
    all_goals exact does_v (rv_loadW_blk tyA81 rfl (i := 4) rfl (by first | omega | (simp; done) | (simp <;> omega))))) (hall_cons (hop_valY [] [] [] rfl rfl rfl (by decide) rfl (jnil) (xnil) (ynil) (fun p h1 h2 vals => by obtain rfl : p = 0 := Nat.le_antisymm h2 h1; exact does_v (rv_loadW_blk tyA81 rfl (i := 1) rfl (by first | omega | (simp; done) | (simp <;> omega))))) (hall_cons (hop_valY [] [] [] rfl rfl rfl (by decide) rfl (jnil) (xnil) (ynil) (fun p h1 h2 vals => by obtain rfl : p = 0 := Nat.le_antisymm h2 h1; exact does_v (rv_loadW_blk tyA81 rfl (i := 2) rfl (by first | omega | (simp; done) | (simp <;> omega))))) (hall_cons (hop_mem [(0, 40, _)] [] [] rfl rfl rfl (fun d h => by cases h) (⟨fun _ => rfl, ⟨fun _ => rfl, ⟨fun _ => rfl, ⟨fun _ => rfl, ⟨fun _ => rfl, trivial⟩⟩⟩⟩⟩) (jcons rfl rfl rfl rfl rfl (jnil)) (xnil) (ynil) (fun vals => dm_storeW64 rfl rfl (i := 1) rfl sz81 (by first | omega | (simp <;> omega)) (by first | omega | (simp <;> omega)) (fun v u => rfl))) (hall_nil)))))) (draw_endY [(1, 41, _), (2, 42, _), (3, 43, _)] [] [] rfl (jcons rfl rfl rfl rfl rfl (jcons rfl rfl rfl rfl rfl (jcons rfl rfl rfl rfl rfl (jnil)))) (xnil) (ynil) (fun vals => ?_))
      refine St.conv (E' := [(41, _), (42, _), (43, _), (2, _), (3, _), (4, _), (5, _), (6, _), (7, _), (8, _), (9, _), (11, _), (12, _), (13, _)]) (l1 := [_, _, _, _, _, _, _, _, _]) rfl rfl ?_
      try dsimp only [kst]
      refine st_drawTail (N := 5) [0, 0, 0, 0, 13, 31, 63, 127] (by kernel_rfl) (by kernel_rfl) ?_
      refine st_storeW64 rfl rfl (i := 2) rfl sz81 (by first | omega | (simp; done) | (simp <;> omega)) (by first | omega | (simp; done) | (simp <;> omega)) (l' := [_, _, _, _, _, _, _, _, _]) rfl ?_
      refine st_storeW64 rfl rfl (i := 3) rfl sz81 (by first | omega | (simp; done) | (simp <;> omega)) (by first | omega | (simp; done) | (simp <;> omega)) (l' := [_, _, _, _, _, _, _, _, _]) rfl ?_
      refine st_storeW64 rfl rfl (i := 4) rfl sz81 (by first | omega | (simp; done) | (simp <;> omega)) (by first | omega | (simp; done) | (simp <;> omega)) (l' := [_, _, _, _, _, _, _, _, _]) rfl ?_
      refine st_nil ?_
      refine st_then ?_
      refine st_region ?_
      refine st_v (rv_move rfl) (by decide) ?_
      refine st_v (rv_assign rfl) (by decide) ?_
      refine st_nil ?_
      refine st_then ?_
      refine st_seq ?_
      refine st_drawStart mixed ?_
      refine st_drawSeg1 (E0 := [(2, _), (3, _), (4, _), (5, _), (6, _), (7, _), (8, _), (9, _), (10, _), (11, _), (12, _)]) [kpeq _, kpeq _, kpeq _, kpeq _, kpeq _, kpeq _, kpeq _, kpeq _, (fun _ => blkV (c64 (List.replicate 4 0#64)) 81), (fun _ => blkV (c64 (List.replicate 4 0#64)) 81)] 0 10 [0, 0, 0, 7, 0, 0, 0, 127, 0, 0, 1023, 2047] [2, 3, 4, 5, 6, 7, 8, 9, 10, 11, 12] (by kernel_rfl) (by decide) (by kernel_rfl) (.cons rfl (.cons rfl (.cons rfl (.cons rfl (.cons rfl (.cons rfl (.cons rfl (.cons rfl (.cons rfl (.cons rfl (.cons rfl (.nil _)))))))))))) rfl rfl (hall_cons (hop_mv rfl (by decide) rfl rfl) (hall_cons (hop_val [] [] rfl rfl rfl (by decide) rfl (jnil) (xnil) (fun _ _ _ _ => does_v (rv_loadW_blk tyA81 rfl (i := 1) rfl (by first | omega | (simp; done) | (simp <;> omega))))) (hall_cons (hop_val [] [] rfl rfl rfl (by decide) rfl (jnil) (xnil) (fun _ _ _ _ => does_v (rv_loadW_blk tyA81 rfl (i := 2) rfl (by first | omega | (simp; done) | (simp <;> omega))))) (hall_cons (hop_val [(0, 45, _), (1, 46, _), (2, 47, _)] [] rfl rfl rfl (by decide) rfl (jcons rfl rfl rfl rfl rfl (jcons rfl rfl rfl rfl rfl (jcons rfl rfl rfl rfl rfl (jnil)))) (xnil) (fun _ _ _ _ => does_call0 cal98 rfl (fun w hM => (Add_calls goodP _ _ _ w (ModAt.blk hM (i := 5) rfl))))) (hall_cons (hop_mv rfl (by decide) rfl rfl) (hall_cons (hop_val [] [] rfl rfl rfl (by decide) rfl (jnil) (xnil) (fun _ _ _ _ => does_v (rv_loadW_blk tyA81 rfl (i := 1) rfl (by first | omega | (simp; done) | (simp <;> omega))))) (hall_cons (hop_val [] [] rfl rfl rfl (by decide) rfl (jnil) (xnil) (fun _ _ _ _ => does_v (rv_loadW_blk tyA81 rfl (i := 2) rfl (by first | omega | (simp; done) | (simp <;> omega))))) (hall_cons (hop_val [(4, 49, _), (5, 50, _), (6, 51, _)] [] rfl rfl rfl (by decide) rfl (jcons rfl rfl rfl rfl rfl (jcons rfl rfl rfl rfl rfl (jcons rfl rfl rfl rfl rfl (jnil)))) (xnil) (fun _ _ _ _ => does_call0 cal99 rfl (fun w hM => (Sub_calls goodP _ _ _ w (ModAt.blk hM (i := 5) rfl))))) (hall_cons (hop_val [] [] rfl rfl rfl (by decide) rfl (jnil) (xnil) (fun _ _ _ _ => does_alloc tyZ81 (rfl))) (hall_cons (hop_val [] [] rfl rfl rfl (by decide) rfl (jnil) (xnil) (fun _ _ _ _ => does_alloc tyZ81 (rfl))) (hall_nil))))))))))) (draw_end [(3, 48, _), (7, 52, _)] [(8, 14, (fun _ => blkV (c64 (List.replicate 4 0#64)) 81)), (9, 15, (fun _ => blkV (c64 (List.replicate 4 0#64)) 81))] rfl (jcons rfl rfl rfl rfl rfl (jcons rfl rfl rfl rfl rfl (jnil))) (xcons rfl rfl rfl rfl rfl rfl (xcons rfl rfl rfl rfl rfl rfl (xnil))) (fun vals => ?_))
      dsimp only [xenv, xmem]
      refine st_openV (i := 0) rfl (fun b13 hb13 => ?_)
      rw [hb13]
      refine st_openV (i := 1) rfl (fun b14 hb14 => ?_)
      rw [hb14]
      refine st_drawTail (N := 10) [0, 0, 0, 7, 0, 0, 0, 127, 0, 0, 1023, 2047] (by kernel_rfl) (by kernel_rfl) ?_
      refine st_storeW64 rfl rfl (i := 0) rfl sz81 (by first | omega | (simp; done) | (simp <;> omega)) (by first | omega | (simp; done) | (simp <;> omega)) (l' := [_, _, _, _, _, _, _, _, _, _, _]) rfl ?_
      refine st_storeW64 rfl rfl (i := 1) rfl sz81 (by first | omega | (simp; done) | (simp <;> omega)) (by first | omega | (simp; done) | (simp <;> omega)) (l' := [_, _, _, _, _, _, _, _, _, _, _]) rfl ?_
      refine st_nil ?_
      refine st_then ?_
      refine st_seq ?_
      refine st_drawStart mixed ?_
      refine st_drawSeg1 (E0 := [(2, _), (3, _), (4, _), (5, _), (6, _), (7, _), (8, _), (9, _), (10, _), (11, _), (12, _), (14, _), (15, _)]) [kpeq _, kpeq _, kpeq _, kpeq _, kpeq _, kpeq _, kpeq _, kpeq _, kpeq _, kpeq _, kpeq _, kpeq _, kpeq _, kpeq _, (fun _ => blkV (c64 (List.replicate 4 0#64)) 81), (fun _ => blkV (c64 (List.replicate 4 0#64)) 81)] 0 16 [0, 0, 0, 0, 14, 0, 63, 0, 0, 0, 0, 1919, 0, 8191, 0, 0, 65535, 131071] [2, 3, 4, 5, 6, 7, 8, 9, 10, 11, 12, 14, 15] (by kernel_rfl) (by decide) (by kernel_rfl) (.cons rfl (.cons rfl (.cons rfl (.cons rfl (.cons rfl (.cons rfl (.cons rfl (.cons rfl (.cons rfl (.cons rfl (.cons rfl (.cons rfl (.cons rfl (.nil _)))))))))))))) rfl rfl (hall_cons (hop_mv rfl (by decide) rfl rfl) (hall_cons (hop_mv rfl (by decide) rfl rfl) (hall_cons (hop_val [] [] rfl rfl rfl (by decide) rfl (jnil) (xnil) (fun _ _ _ _ => does_v (rv_loadW_blk tyA81 rfl (i := 5) rfl (by first | omega | (simp; done) | (simp <;> omega))))) (hall_cons (hop_val [] [] rfl rfl rfl (by decide) rfl (jnil) (xnil) (fun _ _ _ _ => does_v (rv_loadW_blk tyA81 rfl (i := 6) rfl (by first | omega | (simp; done) | (simp <;> omega))))) (hall_cons (hop_val [(1, 54, _), (2, 55, _), (3, 56, _)] [] rfl rfl rfl (by decide) rfl (jcons rfl rfl rfl rfl rfl (jcons rfl rfl rfl rfl rfl (jcons rfl rfl rfl rfl rfl (jnil)))) (xnil) (fun _ _ _ _ => does_call0 cal99 rfl (fun w hM => (Sub_calls goodP _ _ _ w (ModAt.blk hM (i := 7) rfl))))) (hall_cons (hop_val [] [] rfl rfl rfl (by decide) rfl (jnil) (xnil) (fun _ _ _ _ => does_v (rv_loadW_blk tyA81 rfl (i := 0) rfl (by first | omega | (simp; done) | (simp <;> omega))))) (hall_cons (hop_val [(0, 53, _), (4, 57, _), (5, 58, _)] [] rfl rfl rfl (by decide) rfl (jcons rfl rfl rfl rfl rfl (jcons rfl rfl rfl rfl rfl (jcons rfl rfl rfl rfl rfl (jnil)))) (xnil) (fun _ _ _ _ => does_call0 cal94 rfl (fun w hM => (Mul_calls goodP _ _ _ w (ModAt.blk hM (i := 7) rfl))))) (hall_cons (hop_mv rfl (by decide) rfl rfl) (hall_cons (hop_mv rfl (by decide) rfl rfl) (hall_cons (hop_val [] [] rfl rfl rfl (by decide) rfl (jnil) (xnil) (fun _ _ _ _ => does_v (rv_loadW_blk tyA81 rfl (i := 5) rfl (by first | omega | (simp; done) | (simp <;> omega))))) (hall_cons (hop_val [] [] rfl rfl rfl (by decide) rfl (jnil) (xnil) (fun _ _ _ _ => does_v (rv_loadW_blk tyA81 rfl (i := 6) rfl (by first | omega | (simp; done) | (simp <;> omega))))) (hall_cons (hop_val [(8, 61, _), (9, 62, _), (10, 63, _)] [] rfl rfl rfl (by decide) rfl (jcons rfl rfl rfl rfl rfl (jcons rfl rfl rfl rfl rfl (jcons rfl rfl rfl rfl rfl (jnil)))) (xnil) (fun _ _ _ _ => does_call0 cal98 rfl (fun w hM => (Add_calls goodP _ _ _ w (ModAt.blk hM (i := 7) rfl))))) (hall_cons (hop_val [] [] rfl rfl rfl (by decide) rfl (jnil) (xnil) (fun _ _ _ _ => does_v (rv_loadW_blk tyA81 rfl (i := 1) rfl (by first | omega | (simp; done) | (simp <;> omega))))) (hall_cons (hop_val [(7, 60, _), (11, 64, _), (12, 65, _)] [] rfl rfl rfl (by decide) rfl (jcons rfl rfl rfl rfl rfl (jcons rfl rfl rfl rfl rfl (jcons rfl rfl rfl rfl rfl (jnil)))) (xnil) (fun _ _ _ _ => does_call0 cal94 rfl (fun w hM => (Mul_calls goodP _ _ _ w (ModAt.blk hM (i := 7) rfl))))) (hall_cons (hop_val [] [] rfl rfl rfl (by decide) rfl (jnil) (xnil) (fun _ _ _ _ => does_alloc tyZ81 (rfl))) (hall_cons (hop_val [] [] rfl rfl rfl (by decide) rfl (jnil) (xnil) (fun _ _ _ _ => does_alloc tyZ81 (rfl))) (hall_nil))))))))))))))))) (draw_end [(6, 59, _), (13, 66, _)] [(14, 16, (fun _ => blkV (c64 (List.replicate 4 0#64)) 81)), (15, 17, (fun _ => blkV (c64 (List.replicate 4 0#64)) 81))] rfl (jcons rfl rfl rfl rfl rfl (jcons rfl rfl rfl rfl rfl (jnil))) (xcons rfl rfl rfl rfl rfl rfl (xcons rfl rfl rfl rfl rfl rfl (xnil))) (fun vals => ?_))
      dsimp only [xenv, xmem]
      refine st_openV (i := 0) rfl (fun b15 hb15 => ?_)
      rw [hb15]
      refine st_openV (i := 1) rfl (fun b16 hb16 => ?_)
      rw [hb16]
      refine st_drawTail (N := 16) [0, 0, 0, 0, 14, 0, 63, 0, 0, 0, 0, 1919, 0, 8191, 0, 0, 65535, 131071] (by kernel_rfl) (by kernel_rfl) ?_
      refine st_storeW64 rfl rfl (i := 0) rfl sz81 (by first | omega | (simp; done) | (simp <;> omega)) (by first | omega | (simp; done) | (simp <;> omega)) (l' := [_, _, _, _, _, _, _, _, _, _, _, _, _]) rfl ?_
      refine st_storeW64 rfl rfl (i := 1) rfl sz81 (by first | omega | (simp; done) | (simp <;> omega)) (by first | omega | (simp; done) | (simp <;> omega)) (l' := [_, _, _, _, _, _, _, _, _, _, _, _, _]) rfl ?_
      refine st_nil ?_
      refine st_then ?_
      refine st_seq ?_
      refine st_drawStart mixed ?_
      refine st_drawSeg1 (E0 := [(2, _), (3, _), (4, _), (5, _), (6, _), (7, _), (8, _), (9, _), (10, _), (11, _), (12, _), (14, _), (15, _), (16, _), (17, _)]) [kpeq _, kpeq _, kpeq _, kpeq _, kpeq _, kpeq _, (fun _ => blkV (c64 (List.replicate 4 0#64)) 81), (fun _ => blkV (c64 (List.replicate 4 0#64)) 81)] 0 8 [0, 0, 3, 0, 0, 31, 0, 0, 255, 511] [2, 3, 4, 5, 6, 7, 8, 9, 10, 11, 12, 14, 15, 16, 17] (by kernel_rfl) (by decide) (by kernel_rfl) (.cons rfl (.cons rfl (.cons rfl (.cons rfl (.cons rfl (.cons rfl (.cons rfl (.cons rfl (.cons rfl (.cons rfl (.cons rfl (.cons rfl (.cons rfl (.cons rfl (.cons rfl (.nil _)))))))))))))))) rfl rfl (hall_cons (hop_mv rfl (by decide) rfl rfl) (hall_cons (hop_val [] [] rfl rfl rfl (by decide) rfl (jnil) (xnil) (fun _ _ _ _ => does_v (rv_loadW_blk tyA81 rfl (i := 2) rfl (by first | omega | (simp; done) | (simp <;> omega))))) (hall_cons (hop_val [(0, 67, _), (1, 68, _)] [] rfl rfl rfl (by decide) rfl (jcons rfl rfl rfl rfl rfl (jcons rfl rfl rfl rfl rfl (jnil))) (xnil) (fun _ _ _ _ => does_call0 cal100 rfl (fun w hM => (Square_calls goodP _ _ w (ModAt.blk hM (i := 9) rfl))))) (hall_cons (hop_mv rfl (by decide) rfl rfl) (hall_cons (hop_val [] [] rfl rfl rfl (by decide) rfl (jnil) (xnil) (fun _ _ _ _ => does_v (rv_loadW_blk tyA81 rfl (i := 3) rfl (by first | omega | (simp; done) | (simp <;> omega))))) (hall_cons (hop_val [(3, 70, _), (4, 71, _)] [] rfl rfl rfl (by decide) rfl (jcons rfl rfl rfl rfl rfl (jcons rfl rfl rfl rfl rfl (jnil))) (xnil) (fun _ _ _ _ => does_call0 cal100 rfl (fun w hM => (Square_calls goodP _ _ w (ModAt.blk hM (i := 9) rfl))))) (hall_cons (hop_val [] [] rfl rfl rfl (by decide) rfl (jnil) (xnil) (fun _ _ _ _ => does_alloc tyZ81 (rfl))) (hall_cons (hop_val [] [] rfl rfl rfl (by decide) rfl (jnil) (xnil) (fun _ _ _ _ => does_alloc tyZ81 (rfl))) (hall_nil))))))))) (draw_end [(2, 69, _), (5, 72, _)] [(6, 18, (fun _ => blkV (c64 (List.replicate 4 0#64)) 81)), (7, 19, (fun _ => blkV (c64 (List.replicate 4 0#64)) 81))] rfl (jcons rfl rfl rfl rfl rfl (jcons rfl rfl rfl rfl rfl (jnil))) (xcons rfl rfl rfl rfl rfl rfl (xcons rfl rfl rfl rfl rfl rfl (xnil))) (fun vals => ?_))
      dsimp only [xenv, xmem]
      refine st_openV (i := 0) rfl (fun b17 hb17 => ?_)
      rw [hb17]
      refine st_openV (i := 1) rfl (fun b18 hb18 => ?_)
      rw [hb18]
      refine st_drawTail (N := 8) [0, 0, 3, 0, 0, 31, 0, 0, 255, 511] (by kernel_rfl) (by kernel_rfl) ?_
      refine st_storeW64 rfl rfl (i := 0) rfl sz81 (by first | omega | (simp; done) | (simp <;> omega)) (by first | omega | (simp; done) | (simp <;> omega)) (l' := [_, _, _, _, _, _, _, _, _, _, _, _, _, _, _]) rfl ?_
      refine st_storeW64 rfl rfl (i := 1) rfl sz81 (by first | omega | (simp; done) | (simp <;> omega)) (by first | omega | (simp; done) | (simp <;> omega)) (l' := [_, _, _, _, _, _, _, _, _, _, _, _, _, _, _]) rfl ?_
      refine st_nil ?_
      refine st_then ?_
      refine st_seq ?_
      refine st_region ?_
      refine st_v (rv_move rfl) (by decide) ?_
      refine st_v (rv_loadW_blk tyA81 rfl (i := 0) rfl (by first | omega | (simp; done) | (simp <;> omega))) (by decide) ?_
      refine st_v (rv_loadW_blk tyA81 rfl (i := 1) rfl (by first | omega | (simp; done) | (simp <;> omega))) (by decide) ?_
      refine st_call0 cal99 rfl (fun w hM => (Sub_calls goodP _ _ _ w (ModAt.blk hM (i := 11) rfl))) (by decide) ?_
      refine st_alloc tyZ81 (by decide) (cs := c64 (List.replicate 4 0#64)) (rfl) (fun b19 hb19 => ?_)
      refine st_storeW64 rfl rfl (i := 0) rfl sz81 (by first | omega | (simp; done) | (simp <;> omega)) (by first | omega | (simp; done) | (simp <;> omega)) (l' := [_, _, _, _, _, _, _, _, _, _, _, _, _, _, _, _]) rfl ?_
      refine st_nil ?_
      refine st_then ?_
      refine st_seq ?_
      refine st_region ?_
      refine st_v (rv_move rfl) (by decide) ?_
      refine st_v (rv_move rfl) (by decide) ?_
      refine st_v (rv_loadW_blk tyA81 rfl (i := 3) rfl (by first | omega | (simp; done) | (simp <;> omega))) (by decide) ?_
      refine st_v (rv_loadW_blk tyA81 rfl (i := 4) rfl (by first | omega | (simp; done) | (simp <;> omega))) (by decide) ?_
      refine st_call0 cal98 rfl (fun w hM => (Add_calls goodP _ _ _ w (ModAt.blk hM (i := 12) rfl))) (by decide) ?_
      refine st_call0 cal100 rfl (fun w hM => (Square_calls goodP _ _ w (ModAt.blk hM (i := 12) rfl))) (by decide) ?_
      refine st_storeW64 rfl rfl (i := 10) rfl sz81 (by first | omega | (simp; done) | (simp <;> omega)) (by first | omega | (simp; done) | (simp <;> omega)) (l' := [_, _, _, _, _, _, _, _, _, _, _, _, _, _, _, _]) rfl ?_
      refine st_nil ?_
      refine st_then ?_
      refine st_seq ?_
      refine st_drawStart mixed ?_
      refine st_drawSeg1 (E0 := [(2, _), (3, _), (4, _), (5, _), (6, _), (7, _), (8, _), (9, _), (10, _), (11, _), (12, _), (16, _), (17, _), (18, _), (19, _), (20, _)]) [kpeq _, kpeq _, kpeq _, kpeq _, kpeq _, kpeq _, kpeq _, kpeq _] 0 8 [0, 0, 0, 0, 0, 0, 56, 124, 255, 511] [2, 3, 4, 5, 6, 7, 8, 9, 10, 11, 12, 16, 17, 18, 19, 20] (by kernel_rfl) (by decide) (by kernel_rfl) (.cons rfl (.cons rfl (.cons rfl (.cons rfl (.cons rfl (.cons rfl (.cons rfl (.cons rfl (.cons rfl (.cons rfl (.cons rfl (.cons rfl (.cons rfl (.cons rfl (.cons rfl (.cons rfl (.nil _))))))))))))))))) rfl rfl (hall_cons (hop_mv rfl (by decide) rfl rfl) (hall_cons (hop_val [] [] rfl rfl rfl (by decide) rfl (jnil) (xnil) (fun _ _ _ _ => does_v (rv_loadW_blk tyA81 rfl (i := 14) rfl (by first | omega | (simp; done) | (simp <;> omega))))) (hall_cons (hop_mv rfl (by decide) rfl rfl) (hall_cons (hop_mv rfl (by decide) rfl rfl) (hall_cons (hop_val [] [] rfl rfl rfl (by decide) rfl (jnil) (xnil) (fun _ _ _ _ => does_v (rv_loadW_blk tyA81 rfl (i := 3) rfl (by first | omega | (simp; done) | (simp <;> omega))))) (hall_cons (hop_val [] [] rfl rfl rfl (by decide) rfl (jnil) (xnil) (fun _ _ _ _ => does_v (rv_loadW_blk tyA81 rfl (i := 4) rfl (by first | omega | (simp; done) | (simp <;> omega))))) (hall_cons (hop_val [(3, 86, _), (4, 87, _), (5, 88, _)] [] rfl rfl rfl (by decide) rfl (jcons rfl rfl rfl rfl rfl (jcons rfl rfl rfl rfl rfl (jcons rfl rfl rfl rfl rfl (jnil)))) (xnil) (fun _ _ _ _ => does_call0 cal99 rfl (fun w hM => (Sub_calls goodP _ _ _ w (ModAt.blk hM (i := 12) rfl))))) (hall_cons (hop_val [(2, 85, _), (6, 89, _)] [] rfl rfl rfl (by decide) rfl (jcons rfl rfl rfl rfl rfl (jcons rfl rfl rfl rfl rfl (jnil))) (xnil) (fun _ _ _ _ => does_call0 cal100 rfl (fun w hM => (Square_calls goodP _ _ w (ModAt.blk hM (i := 12) rfl))))) (hall_nil))))))))) (draw_end1 [(0, 83, _), (1, 84, _), (7, 90, _)] (jcons rfl rfl rfl rfl rfl (jcons rfl rfl rfl rfl rfl (jcons rfl rfl rfl rfl rfl (jnil)))) ?_)
      refine st_drawTail (N := 8) [0, 0, 0, 0, 0, 0, 56, 124, 255, 511] (by kernel_rfl) (by kernel_rfl) ?_
      refine st_call0 cal94 rfl (fun w hM => (Mul_calls goodP _ _ _ w (ModAt.blk hM (i := 12) rfl))) (by decide) ?_
      refine st_storeW64 rfl rfl (i := 11) rfl sz81 (by first | omega | (simp; done) | (simp <;> omega)) (by first | omega | (simp; done) | (simp <;> omega)) (l' := [_, _, _, _, _, _, _, _, _, _, _, _, _, _, _, _]) rfl ?_
      refine st_nil ?_
      refine st_then ?_
      refine st_seq ?_
      refine st_region ?_
      refine st_v (rv_move rfl) (by decide) ?_
      refine st_v (rv_loadW_blk tyA81 rfl (i := 1) rfl (by first | omega | (simp; done) | (simp <;> omega))) (by decide) ?_
      refine st_v (rv_loadW_blk tyA81 rfl (i := 2) rfl (by first | omega | (simp; done) | (simp <;> omega))) (by decide) ?_
      refine st_call0 cal94 rfl (fun w hM => (Mul_calls goodP _ _ _ w (ModAt.blk hM (i := 12) rfl))) (by decide) ?_
      refine st_storeW64 rfl rfl (i := 8) rfl sz81 (by first | omega | (simp; done) | (simp <;> omega)) (by first | omega | (simp; done) | (simp <;> omega)) (l' := [_, _, _, _, _, _, _, _, _, _, _, _, _, _, _, _]) rfl ?_
      refine st_nil ?_
      refine st_then ?_
      refine st_drawStart mixed ?_
      refine st_drawSeg1 (E0 := [(2, _), (3, _), (4, _), (5, _), (6, _), (7, _), (8, _), (9, _), (10, _), (11, _), (12, _), (18, _), (20, _)]) [kpeq _, kpeq _, kpeq _, kpeq _, kpeq _, kpeq _, kpeq _, kpeq _, kpeq _] 0 9 [0, 0, 0, 0, 0, 0, 0, 112, 252, 511, 1023] [2, 3, 4, 5, 6, 7, 8, 9, 10, 11, 12, 18, 20] (by kernel_rfl) (by decide) (by kernel_rfl) (.cons rfl (.cons rfl (.cons rfl (.cons rfl (.cons rfl (.cons rfl (.cons rfl (.cons rfl (.cons rfl (.cons rfl (.cons rfl (.cons rfl (.cons rfl (.nil _)))))))))))))) rfl rfl (hall_cons (hop_mv rfl (by decide) rfl rfl) (hall_cons (hop_val [] [] rfl rfl rfl (by decide) rfl (jnil) (xnil) (fun _ _ _ _ => does_v (rv_loadW_blk tyA81 rfl (i := 0) rfl (by first | omega | (simp; done) | (simp <;> omega))))) (hall_cons (hop_mv rfl (by decide) rfl rfl) (hall_cons (hop_val [] [] rfl rfl rfl (by decide) rfl (jnil) (xnil) (fun _ _ _ _ => does_v (rv_loadW_blk tyA81 rfl (i := 1) rfl (by first | omega | (simp; done) | (simp <;> omega))))) (hall_cons (hop_mv rfl (by decide) rfl rfl) (hall_cons (hop_val [] [] rfl rfl rfl (by decide) rfl (jnil) (xnil) (fun _ _ _ _ => does_v (rv_loadW_blk tyA81 rfl (i := 7) rfl (by first | omega | (simp; done) | (simp <;> omega))))) (hall_cons (hop_val [] [] rfl rfl rfl (by decide) rfl (jnil) (xnil) (fun _ _ _ _ => does_v (rv_loadW_blk tyA81 rfl (i := 0) rfl (by first | omega | (simp; done) | (simp <;> omega))))) (hall_cons (hop_val [(4, 100, _), (5, 101, _), (6, 102, _)] [] rfl rfl rfl (by decide) rfl (jcons rfl rfl rfl rfl rfl (jcons rfl rfl rfl rfl rfl (jcons rfl rfl rfl rfl rfl (jnil)))) (xnil) (fun _ _ _ _ => does_call0 cal94 rfl (fun w hM => (Mul_calls goodP _ _ _ w (ModAt.blk hM (i := 12) rfl))))) (hall_cons (hop_val [(2, 98, _), (3, 99, _), (7, 103, _)] [] rfl rfl rfl (by decide) rfl (jcons rfl rfl rfl rfl rfl (jcons rfl rfl rfl rfl rfl (jcons rfl rfl rfl rfl rfl (jnil)))) (xnil) (fun _ _ _ _ => does_call0 cal98 rfl (fun w hM => (Add_calls goodP _ _ _ w (ModAt.blk hM (i := 12) rfl))))) (hall_nil)))))))))) (draw_end1 [(0, 96, _), (1, 97, _), (8, 104, _)] (jcons rfl rfl rfl rfl rfl (jcons rfl rfl rfl rfl rfl (jcons rfl rfl rfl rfl rfl (jnil)))) ?_)
      refine st_drawTail (N := 9) [0, 0, 0, 0, 0, 0, 0, 112, 252, 511, 1023] (by kernel_rfl) (by kernel_rfl) ?_
      refine st_call0 cal94 rfl (fun w hM => (Mul_calls goodP _ _ _ w (ModAt.blk hM (i := 12) rfl))) (by decide) ?_
      refine st_storeW64 rfl rfl (i := 9) rfl sz81 (by first | omega | (simp; done) | (simp <;> omega)) (by first | omega | (simp; done) | (simp <;> omega)) (l' := [_, _, _, _, _, _, _, _, _, _, _, _, _, _, _, _]) rfl ?_
      refine st_nil ?_
      refine st_in_normal ?_
      refine st_then ?_
      refine st_region ?_
      refine st_v (rv_move rfl) (by decide) ?_
      first | refine st_v (rv_subN (b := 1) rfl rfl (by first | omega | (simp; done) | (simp; omega))) (by decide) ?_ | refine st_v (rv_subZ rfl rfl (by first | omega | (simp; done) | (simp; omega))) (by decide) ?_
      refine st_v (rv_assign rfl) (by decide) ?_
      refine st_nil ?_
      refine st_then ?_
      exact st_again j (by omega) (by omega) (.cons rfl (.cons rfl (.cons rfl (.cons rfl (.cons rfl (.cons rfl (.cons rfl (.cons rfl (SubE.cons (by rw [hst]; first | rfl | (rw [← hc39]; rfl)) (.cons rfl (.cons rfl (.nil _)))))))))))) (by intro w hM; have hM := hM.sublist (List.Sublist.cons _ (List.Sublist.cons _ (List.Sublist.cons _ (List.Sublist.cons _ (List.Sublist.cons _ (List.Sublist.cons _ (List.Sublist.cons _ (List.Sublist.cons_cons _ (List.Sublist.cons_cons _ (List.Sublist.cons_cons _ (List.Sublist.cons_cons _ (List.Sublist.cons_cons _ (List.Sublist.cons_cons _ (List.Sublist.cons_cons _ (List.Sublist.cons_cons _ (List.Sublist.cons_cons _ (List.Sublist.slnil))))))))))))))))); ((try dsimp only [List.map, kst]); rw [hst]; (try dsimp only [rung])); exact hM)
    · -- t39 False
      try simp only [z1, z2, z3, z4, z5, z6, z7, z8, z9, z10, z11, z12, z13, z14] at hc39
      have hst := (ladS_next n u hI).trans (ladStep_keep (by omega) hsw hc39)
      refine st_skip ?_
      refine st_then ?_
      refine st_seq ?_
      refine st_drawStart mixed ?_
      refine st_drawSeg1 (E0 := [(2, _), (3, _), (4, _), (5, _), (6, _), (7, _), (8, _), (9, _), (10, _), (11, _), (12, _)]) [kpeq _, kpeq _, kpeq _, kpeq _, kpeq _, kpeq _, kpeq _, kpeq _, (fun _ => blkV (c64 (List.replicate 4 0#64)) 81), (fun _ => blkV (c64 (List.replicate 4 0#64)) 81)] 0 10 [0, 0, 0, 7, 0, 0, 0, 127, 0, 0, 1023, 2047] [2, 3, 4, 5, 6, 7, 8, 9, 10, 11, 12] (by kernel_rfl) (by decide) (by kernel_rfl) (.cons rfl (.cons rfl (.cons rfl (.cons rfl (.cons rfl (.cons rfl (.cons rfl (.cons rfl (.cons rfl (.cons rfl (.cons rfl (.nil _)))))))))))) rfl rfl (hall_cons (hop_mv rfl (by decide) rfl rfl) (hall_cons (hop_val [] [] rfl rfl rfl (by decide) rfl (jnil) (xnil) (fun _ _ _ _ => does_v (rv_loadW_blk tyA81 rfl (i := 1) rfl (by first | omega | (simp; done) | (simp <;> omega))))) (hall_cons (hop_val [] [] rfl rfl rfl (by decide) rfl (jnil) (xnil) (fun _ _ _ _ => does_v (rv_loadW_blk tyA81 rfl (i := 2) rfl (by first | omega | (simp; done) | (simp <;> omega))))) (hall_cons (hop_val [(0, 45, _), (1, 46, _), (2, 47, _)] [] rfl rfl rfl (by decide) rfl (jcons rfl rfl rfl rfl rfl (jcons rfl rfl rfl rfl rfl (jcons rfl rfl rfl rfl rfl (jnil)))) (xnil) (fun _ _ _ _ => does_call0 cal98 rfl (fun w hM => (Add_calls goodP _ _ _ w (ModAt.blk hM (i := 5) rfl))))) (hall_cons (hop_mv rfl (by decide) rfl rfl) (hall_cons (hop_val [] [] rfl rfl rfl (by decide) rfl (jnil) (xnil) (fun _ _ _ _ => does_v (rv_loadW_blk tyA81 rfl (i := 1) rfl (by first | omega | (simp; done) | (simp <;> omega))))) (hall_cons (hop_val [] [] rfl rfl rfl (by decide) rfl (jnil) (xnil) (fun _ _ _ _ => does_v (rv_loadW_blk tyA81 rfl (i := 2) rfl (by first | omega | (simp; done) | (simp <;> omega))))) (hall_cons (hop_val [(4, 49, _), (5, 50, _), (6, 51, _)] [] rfl rfl rfl (by decide) rfl (jcons rfl rfl rfl rfl rfl (jcons rfl rfl rfl rfl rfl (jcons rfl rfl rfl rfl rfl (jnil)))) (xnil) (fun _ _ _ _ => does_call0 cal99 rfl (fun w hM => (Sub_calls goodP _ _ _ w (ModAt.blk hM (i := 5) rfl))))) (hall_cons (hop_val [] [] rfl rfl rfl (by decide) rfl (jnil) (xnil) (fun _ _ _ _ => does_alloc tyZ81 (rfl))) (hall_cons (hop_val [] [] rfl rfl rfl (by decide) rfl (jnil) (xnil) (fun _ _ _ _ => does_alloc tyZ81 (rfl))) (hall_nil))))))))))) (draw_end [(3, 48, _), (7, 52, _)] [(8, 14, (fun _ => blkV (c64 (List.replicate 4 0#64)) 81)), (9, 15, (fun _ => blkV (c64 (List.replicate 4 0#64)) 81))] rfl (jcons rfl rfl rfl rfl rfl (jcons rfl rfl rfl rfl rfl (jnil))) (xcons rfl rfl rfl rfl rfl rfl (xcons rfl rfl rfl rfl rfl rfl (xnil))) (fun vals => ?_))
      dsimp only [xenv, xmem]
      refine st_openV (i := 0) rfl (fun b20 hb20 => ?_)
      rw [hb20]
      refine st_openV (i := 1) rfl (fun b21 hb21 => ?_)
      rw [hb21]
      refine st_drawTail (N := 10) [0, 0, 0, 7, 0, 0, 0, 127, 0, 0, 1023, 2047] (by kernel_rfl) (by kernel_rfl) ?_
      refine st_storeW64 rfl rfl (i := 0) rfl sz81 (by first | omega | (simp; done) | (simp <;> omega)) (by first | omega | (simp; done) | (simp <;> omega)) (l' := [_, _, _, _, _, _, _, _, _, _, _]) rfl ?_
      refine st_storeW64 rfl rfl (i := 1) rfl sz81 (by first | omega | (simp; done) | (simp <;> omega)) (by first | omega | (simp; done) | (simp <;> omega)) (l' := [_, _, _, _, _, _, _, _, _, _, _]) rfl ?_
      refine st_nil ?_
      refine st_then ?_
      refine st_seq ?_
      refine st_drawStart mixed ?_
      refine st_drawSeg1 (E0 := [(2, _), (3, _), (4, _), (5, _), (6, _), (7, _), (8, _), (9, _), (10, _), (11, _), (12, _), (14, _), (15, _)]) [kpeq _, kpeq _, kpeq _, kpeq _, kpeq _, kpeq _, kpeq _, kpeq _, kpeq _, kpeq _, kpeq _, kpeq _, kpeq _, kpeq _, (fun _ => blkV (c64 (List.replicate 4 0#64)) 81), (fun _ => blkV (c64 (List.replicate 4 0#64)) 81)] 0 16 [0, 0, 0, 0, 14, 0, 63, 0, 0, 0, 0, 1919, 0, 8191, 0, 0, 65535, 131071] [2, 3, 4, 5, 6, 7, 8, 9, 10, 11, 12, 14, 15] (by kernel_rfl) (by decide) (by kernel_rfl) (.cons rfl (.cons rfl (.cons rfl (.cons rfl (.cons rfl (.cons rfl (.cons rfl (.cons rfl (.cons rfl (.cons rfl (.cons rfl (.cons rfl (.cons rfl (.nil _)))))))))))))) rfl rfl (hall_cons (hop_mv rfl (by decide) rfl rfl) (hall_cons (hop_mv rfl (by decide) rfl rfl) (hall_cons (hop_val [] [] rfl rfl rfl (by decide) rfl (jnil) (xnil) (fun _ _ _ _ => does_v (rv_loadW_blk tyA81 rfl (i := 5) rfl (by first | omega | (simp; done) | (simp <;> omega))))) (hall_cons (hop_val [] [] rfl rfl rfl (by decide) rfl (jnil) (xnil) (fun _ _ _ _ => does_v (rv_loadW_blk tyA81 rfl (i := 6) rfl (by first | omega | (simp; done) | (simp <;> omega))))) (hall_cons (hop_val [(1, 54, _), (2, 55, _), (3, 56, _)] [] rfl rfl rfl (by decide) rfl (jcons rfl rfl rfl rfl rfl (jcons rfl rfl rfl rfl rfl (jcons rfl rfl rfl rfl rfl (jnil)))) (xnil) (fun _ _ _ _ => does_call0 cal99 rfl (fun w hM => (Sub_calls goodP _ _ _ w (ModAt.blk hM (i := 7) rfl))))) (hall_cons (hop_val [] [] rfl rfl rfl (by decide) rfl (jnil) (xnil) (fun _ _ _ _ => does_v (rv_loadW_blk tyA81 rfl (i := 0) rfl (by first | omega | (simp; done) | (simp <;> omega))))) (hall_cons (hop_val [(0, 53, _), (4, 57, _), (5, 58, _)] [] rfl rfl rfl (by decide) rfl (jcons rfl rfl rfl rfl rfl (jcons rfl rfl rfl rfl rfl (jcons rfl rfl rfl rfl rfl (jnil)))) (xnil) (fun _ _ _ _ => does_call0 cal94 rfl (fun w hM => (Mul_calls goodP _ _ _ w (ModAt.blk hM (i := 7) rfl))))) (hall_cons (hop_mv rfl (by decide) rfl rfl) (hall_cons (hop_mv rfl (by decide) rfl rfl) (hall_cons (hop_val [] [] rfl rfl rfl (by decide) rfl (jnil) (xnil) (fun _ _ _ _ => does_v (rv_loadW_blk tyA81 rfl (i := 5) rfl (by first | omega | (simp; done) | (simp <;> omega))))) (hall_cons (hop_val [] [] rfl rfl rfl (by decide) rfl (jnil) (xnil) (fun _ _ _ _ => does_v (rv_loadW_blk tyA81 rfl (i := 6) rfl (by first | omega | (simp; done) | (simp <;> omega))))) (hall_cons (hop_val [(8, 61, _), (9, 62, _), (10, 63, _)] [] rfl rfl rfl (by decide) rfl (jcons rfl rfl rfl rfl rfl (jcons rfl rfl rfl rfl rfl (jcons rfl rfl rfl rfl rfl (jnil)))) (xnil) (fun _ _ _ _ => does_call0 cal98 rfl (fun w hM => (Add_calls goodP _ _ _ w (ModAt.blk hM (i := 7) rfl))))) (hall_cons (hop_val [] [] rfl rfl rfl (by decide) rfl (jnil) (xnil) (fun _ _ _ _ => does_v (rv_loadW_blk tyA81 rfl (i := 1) rfl (by first | omega | (simp; done) | (simp <;> omega))))) (hall_cons (hop_val [(7, 60, _), (11, 64, _), (12, 65, _)] [] rfl rfl rfl (by decide) rfl (jcons rfl rfl rfl rfl rfl (jcons rfl rfl rfl rfl rfl (jcons rfl rfl rfl rfl rfl (jnil)))) (xnil) (fun _ _ _ _ => does_call0 cal94 rfl (fun w hM => (Mul_calls goodP _ _ _ w (ModAt.blk hM (i := 7) rfl))))) (hall_cons (hop_val [] [] rfl rfl rfl (by decide) rfl (jnil) (xnil) (fun _ _ _ _ => does_alloc tyZ81 (rfl))) (hall_cons (hop_val [] [] rfl rfl rfl (by decide) rfl (jnil) (xnil) (fun _ _ _ _ => does_alloc tyZ81 (rfl))) (hall_nil))))))))))))))))) (draw_end [(6, 59, _), (13, 66, _)] [(14, 16, (fun _ => blkV (c64 (List.replicate 4 0#64)) 81)), (15, 17, (fun _ => blkV (c64 (List.replicate 4 0#64)) 81))] rfl (jcons rfl rfl rfl rfl rfl (jcons rfl rfl rfl rfl rfl (jnil))) (xcons rfl rfl rfl rfl rfl rfl (xcons rfl rfl rfl rfl rfl rfl (xnil))) (fun vals => ?_))
      dsimp only [xenv, xmem]
      refine st_openV (i := 0) rfl (fun b22 hb22 => ?_)
      rw [hb22]
      refine st_openV (i := 1) rfl (fun b23 hb23 => ?_)
      rw [hb23]
      refine st_drawTail (N := 16) [0, 0, 0, 0, 14, 0, 63, 0, 0, 0, 0, 1919, 0, 8191, 0, 0, 65535, 131071] (by kernel_rfl) (by kernel_rfl) ?_
      refine st_storeW64 rfl rfl (i := 0) rfl sz81 (by first | omega | (simp; done) | (simp <;> omega)) (by first | omega | (simp; done) | (simp <;> omega)) (l' := [_, _, _, _, _, _, _, _, _, _, _, _, _]) rfl ?_
      refine st_storeW64 rfl rfl (i := 1) rfl sz81 (by first | omega | (simp; done) | (simp <;> omega)) (by first | omega | (simp; done) | (simp <;> omega)) (l' := [_, _, _, _, _, _, _, _, _, _, _, _, _]) rfl ?_
      refine st_nil ?_
      refine st_then ?_
      refine st_seq ?_
      refine st_drawStart mixed ?_
      refine st_drawSeg1 (E0 := [(2, _), (3, _), (4, _), (5, _), (6, _), (7, _), (8, _), (9, _), (10, _), (11, _), (12, _), (14, _), (15, _), (16, _), (17, _)]) [kpeq _, kpeq _, kpeq _, kpeq _, kpeq _, kpeq _, (fun _ => blkV (c64 (List.replicate 4 0#64)) 81), (fun _ => blkV (c64 (List.replicate 4 0#64)) 81)] 0 8 [0, 0, 3, 0, 0, 31, 0, 0, 255, 511] [2, 3, 4, 5, 6, 7, 8, 9, 10, 11, 12, 14, 15, 16, 17] (by kernel_rfl) (by decide) (by kernel_rfl) (.cons rfl (.cons rfl (.cons rfl (.cons rfl (.cons rfl (.cons rfl (.cons rfl (.cons rfl (.cons rfl (.cons rfl (.cons rfl (.cons rfl (.cons rfl (.cons rfl (.cons rfl (.nil _)))))))))))))))) rfl rfl (hall_cons (hop_mv rfl (by decide) rfl rfl) (hall_cons (hop_val [] [] rfl rfl rfl (by decide) rfl (jnil) (xnil) (fun _ _ _ _ => does_v (rv_loadW_blk tyA81 rfl (i := 2) rfl (by first | omega | (simp; done) | (simp <;> omega))))) (hall_cons (hop_val [(0, 67, _), (1, 68, _)] [] rfl rfl rfl (by decide) rfl (jcons rfl rfl rfl rfl rfl (jcons rfl rfl rfl rfl rfl (jnil))) (xnil) (fun _ _ _ _ => does_call0 cal100 rfl (fun w hM => (Square_calls goodP _ _ w (ModAt.blk hM (i := 9) rfl))))) (hall_cons (hop_mv rfl (by decide) rfl rfl) (hall_cons (hop_val [] [] rfl rfl rfl (by decide) rfl (jnil) (xnil) (fun _ _ _ _ => does_v (rv_loadW_blk tyA81 rfl (i := 3) rfl (by first | omega | (simp; done) | (simp <;> omega))))) (hall_cons (hop_val [(3, 70, _), (4, 71, _)] [] rfl rfl rfl (by decide) rfl (jcons rfl rfl rfl rfl rfl (jcons rfl rfl rfl rfl rfl (jnil))) (xnil) (fun _ _ _ _ => does_call0 cal100 rfl (fun w hM => (Square_calls goodP _ _ w (ModAt.blk hM (i := 9) rfl))))) (hall_cons (hop_val [] [] rfl rfl rfl (by decide) rfl (jnil) (xnil) (fun _ _ _ _ => does_alloc tyZ81 (rfl))) (hall_cons (hop_val [] [] rfl rfl rfl (by decide) rfl (jnil) (xnil) (fun _ _ _ _ => does_alloc tyZ81 (rfl))) (hall_nil))))))))) (draw_end [(2, 69, _), (5, 72, _)] [(6, 18, (fun _ => blkV (c64 (List.replicate 4 0#64)) 81)), (7, 19, (fun _ => blkV (c64 (List.replicate 4 0#64)) 81))] rfl (jcons rfl rfl rfl rfl rfl (jcons rfl rfl rfl rfl rfl (jnil))) (xcons rfl rfl rfl rfl rfl rfl (xcons rfl rfl rfl rfl rfl rfl (xnil))) (fun vals => ?_))
      dsimp only [xenv, xmem]
      refine st_openV (i := 0) rfl (fun b24 hb24 => ?_)
      rw [hb24]
      refine st_openV (i := 1) rfl (fun b25 hb25 => ?_)
      rw [hb25]
      refine st_drawTail (N := 8) [0, 0, 3, 0, 0, 31, 0, 0, 255, 511] (by kernel_rfl) (by kernel_rfl) ?_
      refine st_storeW64 rfl rfl (i := 0) rfl sz81 (by first | omega | (simp; done) | (simp <;> omega)) (by first | omega | (simp; done) | (simp <;> omega)) (l' := [_, _, _, _, _, _, _, _, _, _, _, _, _, _, _]) rfl ?_
      refine st_storeW64 rfl rfl (i := 1) rfl sz81 (by first | omega | (simp; done) | (simp <;> omega)) (by first | omega | (simp; done) | (simp <;> omega)) (l' := [_, _, _, _, _, _, _, _, _, _, _, _, _, _, _]) rfl ?_
      refine st_nil ?_
      refine st_then ?_
      refine st_seq ?_
      refine st_region ?_
      refine st_v (rv_move rfl) (by decide) ?_
      refine st_v (rv_loadW_blk tyA81 rfl (i := 0) rfl (by first | omega | (simp; done) | (simp <;> omega))) (by decide) ?_
      refine st_v (rv_loadW_blk tyA81 rfl (i := 1) rfl (by first | omega | (simp; done) | (simp <;> omega))) (by decide) ?_
      refine st_call0 cal99 rfl (fun w hM => (Sub_calls goodP _ _ _ w (ModAt.blk hM (i := 11) rfl))) (by decide) ?_
      refine st_alloc tyZ81 (by decide) (cs := c64 (List.replicate 4 0#64)) (rfl) (fun b26 hb26 => ?_)
      refine st_storeW64 rfl rfl (i := 0) rfl sz81 (by first | omega | (simp; done) | (simp <;> omega)) (by first | omega | (simp; done) | (simp <;> omega)) (l' := [_, _, _, _, _, _, _, _, _, _, _, _, _, _, _, _]) rfl ?_
      refine st_nil ?_
      refine st_then ?_
      refine st_seq ?_
      refine st_region ?_
      refine st_v (rv_move rfl) (by decide) ?_
      refine st_v (rv_move rfl) (by decide) ?_
      refine st_v (rv_loadW_blk tyA81 rfl (i := 3) rfl (by first | omega | (simp; done) | (simp <;> omega))) (by decide) ?_
      refine st_v (rv_loadW_blk tyA81 rfl (i := 4) rfl (by first | omega | (simp; done) | (simp <;> omega))) (by decide) ?_
      refine st_call0 cal98 rfl (fun w hM => (Add_calls goodP _ _ _ w (ModAt.blk hM (i := 12) rfl))) (by decide) ?_
      refine st_call0 cal100 rfl (fun w hM => (Square_calls goodP _ _ w (ModAt.blk hM (i := 12) rfl))) (by decide) ?_
      refine st_storeW64 rfl rfl (i := 10) rfl sz81 (by first | omega | (simp; done) | (simp <;> omega)) (by first | omega | (simp; done) | (simp <;> omega)) (l' := [_, _, _, _, _, _, _, _, _, _, _, _, _, _, _, _]) rfl ?_
      refine st_nil ?_
      refine st_then ?_
      refine st_seq ?_
      refine st_drawStart mixed ?_
      refine st_drawSeg1 (E0 := [(2, _), (3, _), (4, _), (5, _), (6, _), (7, _), (8, _), (9, _), (10, _), (11, _), (12, _), (16, _), (17, _), (18, _), (19, _), (20, _)]) [kpeq _, kpeq _, kpeq _, kpeq _, kpeq _, kpeq _, kpeq _, kpeq _] 0 8 [0, 0, 0, 0, 0, 0, 56, 124, 255, 511] [2, 3, 4, 5, 6, 7, 8, 9, 10, 11, 12, 16, 17, 18, 19, 20] (by kernel_rfl) (by decide) (by kernel_rfl) (.cons rfl (.cons rfl (.cons rfl (.cons rfl (.cons rfl (.cons rfl (.cons rfl (.cons rfl (.cons rfl (.cons rfl (.cons rfl (.cons rfl (.cons rfl (.cons rfl (.cons rfl (.cons rfl (.nil _))))))))))))))))) rfl rfl (hall_cons (hop_mv rfl (by decide) rfl rfl) (hall_cons (hop_val [] [] rfl rfl rfl (by decide) rfl (jnil) (xnil) (fun _ _ _ _ => does_v (rv_loadW_blk tyA81 rfl (i := 14) rfl (by first | omega | (simp; done) | (simp <;> omega))))) (hall_cons (hop_mv rfl (by decide) rfl rfl) (hall_cons (hop_mv rfl (by decide) rfl rfl) (hall_cons (hop_val [] [] rfl rfl rfl (by decide) rfl (jnil) (xnil) (fun _ _ _ _ => does_v (rv_loadW_blk tyA81 rfl (i := 3) rfl (by first | omega | (simp; done) | (simp <;> omega))))) (hall_cons (hop_val [] [] rfl rfl rfl (by decide) rfl (jnil) (xnil) (fun _ _ _ _ => does_v (rv_loadW_blk tyA81 rfl (i := 4) rfl (by first | omega | (simp; done) | (simp <;> omega))))) (hall_cons (hop_val [(3, 86, _), (4, 87, _), (5, 88, _)] [] rfl rfl rfl (by decide) rfl (jcons rfl rfl rfl rfl rfl (jcons rfl rfl rfl rfl rfl (jcons rfl rfl rfl rfl rfl (jnil)))) (xnil) (fun _ _ _ _ => does_call0 cal99 rfl (fun w hM => (Sub_calls goodP _ _ _ w (ModAt.blk hM (i := 12) rfl))))) (hall_cons (hop_val [(2, 85, _), (6, 89, _)] [] rfl rfl rfl (by decide) rfl (jcons rfl rfl rfl rfl rfl (jcons rfl rfl rfl rfl rfl (jnil))) (xnil) (fun _ _ _ _ => does_call0 cal100 rfl (fun w hM => (Square_calls goodP _ _ w (ModAt.blk hM (i := 12) rfl))))) (hall_nil))))))))) (draw_end1 [(0, 83, _), (1, 84, _), (7, 90, _)] (jcons rfl rfl rfl rfl rfl (jcons rfl rfl rfl rfl rfl (jcons rfl rfl rfl rfl rfl (jnil)))) ?_)
      refine st_drawTail (N := 8) [0, 0, 0, 0, 0, 0, 56, 124, 255, 511] (by kernel_rfl) (by kernel_rfl) ?_
      refine st_call0 cal94 rfl (fun w hM => (Mul_calls goodP _ _ _ w (ModAt.blk hM (i := 12) rfl))) (by decide) ?_
      refine st_storeW64 rfl rfl (i := 11) rfl sz81 (by first | omega | (simp; done) | (simp <;> omega)) (by first | omega | (simp; done) | (simp <;> omega)) (l' := [_, _, _, _, _, _, _, _, _, _, _, _, _, _, _, _]) rfl ?_
      refine st_nil ?_
      refine st_then ?_
      refine st_seq ?_
      refine st_region ?_
      refine st_v (rv_move rfl) (by decide) ?_
      refine st_v (rv_loadW_blk tyA81 rfl (i := 1) rfl (by first | omega | (simp; done) | (simp <;> omega))) (by decide) ?_
      refine st_v (rv_loadW_blk tyA81 rfl (i := 2) rfl (by first | omega | (simp; done) | (simp <;> omega))) (by decide) ?_
      refine st_call0 cal94 rfl (fun w hM => (Mul_calls goodP _ _ _ w (ModAt.blk hM (i := 12) rfl))) (by decide) ?_
      refine st_storeW64 rfl rfl (i := 8) rfl sz81 (by first | omega | (simp; done) | (simp <;> omega)) (by first | omega | (simp; done) | (simp <;> omega)) (l' := [_, _, _, _, _, _, _, _, _, _, _, _, _, _, _, _]) rfl ?_
      refine st_nil ?_
      refine st_then ?_
      refine st_drawStart mixed ?_
      refine st_drawSeg1 (E0 := [(2, _), (3, _), (4, _), (5, _), (6, _), (7, _), (8, _), (9, _), (10, _), (11, _), (12, _), (18, _), (20, _)]) [kpeq _, kpeq _, kpeq _, kpeq _, kpeq _, kpeq _, kpeq _, kpeq _, kpeq _] 0 9 [0, 0, 0, 0, 0, 0, 0, 112, 252, 511, 1023] [2, 3, 4, 5, 6, 7, 8, 9, 10, 11, 12, 18, 20] (by kernel_rfl) (by decide) (by kernel_rfl) (.cons rfl (.cons rfl (.cons rfl (.cons rfl (.cons rfl (.cons rfl (.cons rfl (.cons rfl (.cons rfl (.cons rfl (.cons rfl (.cons rfl (.cons rfl (.nil _)))))))))))))) rfl rfl (hall_cons (hop_mv rfl (by decide) rfl rfl) (hall_cons (hop_val [] [] rfl rfl rfl (by decide) rfl (jnil) (xnil) (fun _ _ _ _ => does_v (rv_loadW_blk tyA81 rfl (i := 0) rfl (by first | omega | (simp; done) | (simp <;> omega))))) (hall_cons (hop_mv rfl (by decide) rfl rfl) (hall_cons (hop_val [] [] rfl rfl rfl (by decide) rfl (jnil) (xnil) (fun _ _ _ _ => does_v (rv_loadW_blk tyA81 rfl (i := 1) rfl (by first | omega | (simp; done) | (simp <;> omega))))) (hall_cons (hop_mv rfl (by decide) rfl rfl) (hall_cons (hop_val [] [] rfl rfl rfl (by decide) rfl (jnil) (xnil) (fun _ _ _ _ => does_v (rv_loadW_blk tyA81 rfl (i := 7) rfl (by first | omega | (simp; done) | (simp <;> omega))))) (hall_cons (hop_val [] [] rfl rfl rfl (by decide) rfl (jnil) (xnil) (fun _ _ _ _ => does_v (rv_loadW_blk tyA81 rfl (i := 0) rfl (by first | omega | (simp; done) | (simp <;> omega))))) (hall_cons (hop_val [(4, 100, _), (5, 101, _), (6, 102, _)] [] rfl rfl rfl (by decide) rfl (jcons rfl rfl rfl rfl rfl (jcons rfl rfl rfl rfl rfl (jcons rfl rfl rfl rfl rfl (jnil)))) (xnil) (fun _ _ _ _ => does_call0 cal94 rfl (fun w hM => (Mul_calls goodP _ _ _ w (ModAt.blk hM (i := 12) rfl))))) (hall_cons (hop_val [(2, 98, _), (3, 99, _), (7, 103, _)] [] rfl rfl rfl (by decide) rfl (jcons rfl rfl rfl rfl rfl (jcons rfl rfl rfl rfl rfl (jcons rfl rfl rfl rfl rfl (jnil)))) (xnil) (fun _ _ _ _ => does_call0 cal98 rfl (fun w hM => (Add_calls goodP _ _ _ w (ModAt.blk hM (i := 12) rfl))))) (hall_nil)))))))))) (draw_end1 [(0, 96, _), (1, 97, _), (8, 104, _)] (jcons rfl rfl rfl rfl rfl (jcons rfl rfl rfl rfl rfl (jcons rfl rfl rfl rfl rfl (jnil)))) ?_)
      refine st_drawTail (N := 9) [0, 0, 0, 0, 0, 0, 0, 112, 252, 511, 1023] (by kernel_rfl) (by kernel_rfl) ?_
      refine st_call0 cal94 rfl (fun w hM => (Mul_calls goodP _ _ _ w (ModAt.blk hM (i := 12) rfl))) (by decide) ?_
      refine st_storeW64 rfl rfl (i := 9) rfl sz81 (by first | omega | (simp; done) | (simp <;> omega)) (by first | omega | (simp; done) | (simp <;> omega)) (l' := [_, _, _, _, _, _, _, _, _, _, _, _, _, _, _, _]) rfl ?_
      refine st_nil ?_
      refine st_in_normal ?_
      refine st_then ?_
      refine st_region ?_
      refine st_v (rv_move rfl) (by decide) ?_
      first | refine st_v (rv_subN (b := 1) rfl rfl (by first | omega | (simp; done) | (simp; omega))) (by decide) ?_ | refine st_v (rv_subZ rfl rfl (by first | omega | (simp; done) | (simp; omega))) (by decide) ?_
      refine st_v (rv_assign rfl) (by decide) ?_
      refine st_nil ?_
      refine st_then ?_
      exact st_again j (by omega) (by omega) (.cons rfl (.cons rfl (.cons rfl (.cons rfl (.cons rfl (.cons rfl (.cons rfl (.cons rfl (SubE.cons (by rw [hst]; first | rfl | (rw [← hc39]; rfl)) (.cons rfl (.cons rfl (.nil _)))))))))))) (by intro w hM; have hM := hM.sublist (List.Sublist.cons _ (List.Sublist.cons _ (List.Sublist.cons _ (List.Sublist.cons _ (List.Sublist.cons _ (List.Sublist.cons _ (List.Sublist.cons _ (List.Sublist.cons_cons _ (List.Sublist.cons_cons _ (List.Sublist.cons_cons _ (List.Sublist.cons_cons _ (List.Sublist.cons_cons _ (List.Sublist.cons_cons _ (List.Sublist.cons_cons _ (List.Sublist.cons_cons _ (List.Sublist.cons_cons _ (List.Sublist.slnil))))))))))))))))); ((try dsimp only [List.map, kst]); rw [hst]; (try dsimp only [rung])); exact hM)
  · -- t31 False
    try simp only [z1, z2, z3, z4, z5, z6, z7, z8, z9, z10, z11, z12, z13, z14] at hc31
    obtain rfl : k = 0 := by omega
    refine st_exit ?_
    refine st_then_exit ?_
    refine st_then_exit ?_
    refine st_in_exit ?_
    refine st_then ?_
    refine st_seq ?_
    refine st_seq ?_
    refine st_region ?_
    refine st_v (rv_move rfl) (by decide) ?_
    refine st_v (rv_eql64 (b := 1#64) rfl rfl) (by decide) ?_
    refine st_nil ?_
    refine st_then ?_
    refine st_cond rfl (fun hc107 => ?_) (fun hc107 => ?_)
    · -- t107 True
      try simp only [z1, z2, z3, z4, z5, z6, z7, z8, z9, z10, z11, z12, z13, z14] at hc107
      have hld := ladder1 hc107
      refine st_drawStart mixed ?_
      refine st_drawSeg (E0 := [(4, _), (5, _), (6, _), (7, _), (8, _), (9, _)]) [2] [kpeq _, kpeq _, kany] (phs [2] [[kst _, kst _, kst _, kst _, kst _, kst _, kst _, kst _, kst _], [kst _, kst (blk _ _ _), kst _, kst _, kst _, kst _, kst _, kst _, kst _]]) 0 3 [0, 0, 1, 7] [4, 5, 6, 7, 8, 9] (by kernel_rfl) (by decide) (by decide) (by kernel_rfl) rfl rfl (phs_skip _) (.cons rfl (.cons rfl (.cons rfl (.cons rfl (.cons rfl (.cons rfl (.nil _))))))) (fun _ h => h) (hall_cons (hop_valY [] [] [] rfl rfl rfl (by decide) rfl (jnil) (xnil) (ynil) (fun p h1 h2 vals => by obtain rfl : p = 0 := Nat.le_antisymm h2 h1; exact does_v (rv_loadW_blk tyA81 rfl (i := 3) rfl (by first | omega | (simp; done) | (simp <;> omega))))) (hall_cons (hop_valY [] [] [] rfl rfl rfl (by decide) rfl (jnil) (xnil) (ynil) (fun p h1 h2 vals => by
    have h1 : 0 ≤ p := h1
    have h2 : p ≤ 1 := h2
    obtain rfl | rfl : p = 0 ∨ p = 1 := by omega
    all_goals exact does_v (rv_loadW_blk tyA81 rfl (i := 4) rfl (by first | omega | (simp; done) | (simp <;> omega))))) (hall_cons (hop_mem [(0, 108, _)] [] [] rfl rfl rfl (fun d h => by cases h) (⟨fun _ => rfl, ⟨fun _ => rfl, ⟨fun _ => rfl, trivial⟩⟩⟩) (jcons rfl rfl rfl rfl rfl (jnil)) (xnil) (ynil) (fun vals => dm_storeW64 rfl rfl (i := 1) rfl sz81 (by first | omega | (simp <;> omega)) (by first | omega | (simp <;> omega)) (fun v u => rfl))) (hall_nil)))) (draw_endY [(1, 109, _)] [] [] rfl (jcons rfl rfl rfl rfl rfl (jnil)) (xnil) (ynil) (fun vals => ?_))
      refine St.conv (E' := [(109, _), (4, _), (5, _), (6, _), (7, _), (8, _), (9, _)]) (l1 := [_, _, _, _, _, _, _, _, _]) rfl rfl ?_
      try dsimp only [kst]
      refine st_drawTail (N := 3) [0, 0, 1, 7] (by kernel_rfl) (by kernel_rfl) ?_
      refine st_storeW64 rfl rfl (i := 2) rfl sz81 (by first | omega | (simp; done) | (simp <;> omega)) (by first | omega | (simp; done) | (simp <;> omega)) (l' := [_, _, _, _, _, _, _, _, _]) rfl ?_
      refine st_nil ?_
      refine st_then ?_
      refine st_seq ?_
      refine st_drawStart mixed ?_
      refine st_drawSeg1 (E0 := [(4, _), (5, _), (6, _), (7, _)]) [kpeq _, kpeq _, kpeq _, kpeq _, kpeq _] 0 5 [0, 0, 0, 0, 12, 31, 63] [4, 5, 6, 7] (by kernel_rfl) (by decide) (by kernel_rfl) (.cons rfl (.cons rfl (.cons rfl (.cons rfl (.nil _))))) rfl rfl (hall_cons (hop_mv rfl (by decide) rfl rfl) (hall_cons (hop_val [] [] rfl rfl rfl (by decide) rfl (jnil) (xnil) (fun _ _ _ _ => does_v (rv_loadW_blk tyA81 rfl (i := 1) rfl (by first | omega | (simp; done) | (simp <;> omega))))) (hall_cons (hop_mv rfl (by decide) rfl rfl) (hall_cons (hop_val [] [] rfl rfl rfl (by decide) rfl (jnil) (xnil) (fun _ _ _ _ => does_v (rv_loadW_blk tyA81 rfl (i := 2) rfl (by first | omega | (simp; done) | (simp <;> omega))))) (hall_cons (hop_val [(2, 112, _), (3, 113, _)] [] rfl rfl rfl (by decide) rfl (jcons rfl rfl rfl rfl rfl (jcons rfl rfl rfl rfl rfl (jnil))) (xnil) (fun _ _ _ _ => does_call0 cal101 rfl (fun w hM => (Inv_calls goodP _ _ w (ModAt.blk hM (i := 5) rfl))))) (hall_nil)))))) (draw_end1 [(0, 110, _), (1, 111, _), (4, 114, _)] (jcons rfl rfl rfl rfl rfl (jcons rfl rfl rfl rfl rfl (jcons rfl rfl rfl rfl rfl (jnil)))) ?_)
      refine st_drawTail (N := 5) [0, 0, 0, 0, 12, 31, 63] (by kernel_rfl) (by kernel_rfl) ?_
      refine st_call0 cal94 rfl (fun w hM => (Mul_calls goodP _ _ _ w (ModAt.blk hM (i := 5) rfl))) (by decide) ?_
      refine st_storeW64 rfl rfl (i := 6) rfl sz81 (by first | omega | (simp; done) | (simp <;> omega)) (by first | omega | (simp; done) | (simp <;> omega)) (l' := [_, _, _, _, _, _, _, _, _]) rfl ?_
      refine st_nil ?_
      refine st_then ?_
      refine st_ret ?_
      exact st_doneC tyA81 rfl rfl (i := 6) rfl (by first | omega | (simp <;> omega)) (fun w hM => ⟨by rw [hld], hM.sublist (List.nil_sublist _)⟩)
    · -- t107 False
      try simp only [z1, z2, z3, z4, z5, z6, z7, z8, z9, z10, z11, z12, z13, z14] at hc107
      have hld := ladder0 hc107
      refine st_skip ?_
      refine st_then ?_
      refine st_seq ?_
      refine st_drawStart mixed ?_
      refine st_drawSeg1 (E0 := [(4, _), (5, _), (6, _), (7, _)]) [kpeq _, kpeq _, kpeq _, kpeq _, kpeq _] 0 5 [0, 0, 0, 0, 12, 31, 63] [4, 5, 6, 7] (by kernel_rfl) (by decide) (by kernel_rfl) (.cons rfl (.cons rfl (.cons rfl (.cons rfl (.nil _))))) rfl rfl (hall_cons (hop_mv rfl (by decide) rfl rfl) (hall_cons (hop_val [] [] rfl rfl rfl (by decide) rfl (jnil) (xnil) (fun _ _ _ _ => does_v (rv_loadW_blk tyA81 rfl (i := 1) rfl (by first | omega | (simp; done) | (simp <;> omega))))) (hall_cons (hop_mv rfl (by decide) rfl rfl) (hall_cons (hop_val [] [] rfl rfl rfl (by decide) rfl (jnil) (xnil) (fun _ _ _ _ => does_v (rv_loadW_blk tyA81 rfl (i := 2) rfl (by first | omega | (simp; done) | (simp <;> omega))))) (hall_cons (hop_val [(2, 112, _), (3, 113, _)] [] rfl rfl rfl (by decide) rfl (jcons rfl rfl rfl rfl rfl (jcons rfl rfl rfl rfl rfl (jnil))) (xnil) (fun _ _ _ _ => does_call0 cal101 rfl (fun w hM => (Inv_calls goodP _ _ w (ModAt.blk hM (i := 5) rfl))))) (hall_nil)))))) (draw_end1 [(0, 110, _), (1, 111, _), (4, 114, _)] (jcons rfl rfl rfl rfl rfl (jcons rfl rfl rfl rfl rfl (jcons rfl rfl rfl rfl rfl (jnil)))) ?_)
      refine st_drawTail (N := 5) [0, 0, 0, 0, 12, 31, 63] (by kernel_rfl) (by kernel_rfl) ?_
      refine st_call0 cal94 rfl (fun w hM => (Mul_calls goodP _ _ _ w (ModAt.blk hM (i := 5) rfl))) (by decide) ?_
      refine st_storeW64 rfl rfl (i := 6) rfl sz81 (by first | omega | (simp; done) | (simp <;> omega)) (by first | omega | (simp; done) | (simp <;> omega)) (l' := [_, _, _, _, _, _, _, _, _]) rfl ?_
      refine st_nil ?_
      refine st_then ?_
      refine st_ret ?_
      exact st_doneC tyA81 rfl rfl (i := 6) rfl (by first | omega | (simp <;> omega)) (fun w hM => ⟨by rw [hld], hM.sublist (List.nil_sublist _)⟩)
set_option maxRecDepth 20000 in
theorem Public_bad (v : Value) (q : List (BitVec 8)) (hq : q.length ≠ 32) (w : World) (hR : Rd w v q.length 1 (q.map U8)) : Calls Tryd.prog 11 #[v] w (fun r w' => r = .returned (.tuple #[nilS, vI 2]) ∧ Mem (All w) w w' []) := by
  refine calls_of_st (n := 17) (args := [v]) Tryd.func11 rfl Tryd.ntmps11 (Nat.le_of_ble_eq_true rfl) (Mem.all w) ?_
  refine st_seq ?_
  refine st_region ?_
  refine st_v (rv_assign rfl) (by decide) ?_
  refine st_v (rv_assign rfl) (by decide) ?_
  refine st_nil ?_
  refine st_then ?_
  refine st_seq ?_
  refine st_seq ?_
  refine st_region ?_
  refine st_v (rv_move rfl) (by decide) ?_
  refine st_v (rv_lenR (rd_old hR hR.all) Tryd.underlying22 rfl) (by decide) ?_
  refine st_v (rv_neqZ rfl rfl) (by decide) ?_
  refine st_nil ?_
  refine st_then ?_
  refine st_cond rfl (fun hc7 => ?_) (fun hc7 => ?_)
  · -- t7 True
    try simp only [z1, z2, z3, z4, z5, z6, z7, z8, z9, z10, z11, z12, z13, z14] at hc7
    refine st_seq ?_
    refine st_region ?_
    refine st_v (rv_assign rfl) (by decide) ?_
    refine st_v (rv_assign rfl) (by decide) ?_
    refine st_nil ?_
    refine st_then ?_
    refine st_ret ?_
    refine st_then_ret ?_
    exact st_done2 rfl rfl rfl (fun w hM => ⟨rfl, hM.sublist (List.nil_sublist _)⟩)
  · -- t7 False
    try simp only [z1, z2, z3, z4, z5, z6, z7, z8, z9, z10, z11, z12, z13, z14] at hc7
    exact absurd (Int.ofNat.inj hc7) hq
set_option maxRecDepth 20000 in
theorem Public_ok (v : Value) (q : List (BitVec 8)) (hq : q.length = 32) (w : World) (hL : LaidM w) (hR : Rd w v q.length 1 (q.map U8)) : Calls Tryd.prog 11 #[v] w (fun e w' => ∃ r, e = .returned (.tuple #[r, vI 0]) ∧ Mem (All w) w w' [own r 5 1 32 ((leB 32 ((pubF q).val)).map U8)]) := by
  refine calls_of_st (n := 17) (args := [v]) Tryd.func11 rfl Tryd.ntmps11 (Nat.le_of_ble_eq_true rfl) (Mem.all w) ?_
  refine st_seq ?_
  refine st_region ?_
  refine st_v (rv_assign rfl) (by decide) ?_
  refine st_v (rv_assign rfl) (by decide) ?_
  refine st_nil ?_
  refine st_then ?_
  refine st_seq ?_
  refine st_seq ?_
  refine st_region ?_
  refine st_v (rv_move rfl) (by decide) ?_
  refine st_v (rv_lenR (rd_old hR hR.all) Tryd.underlying22 rfl) (by decide) ?_
  refine st_v (rv_neqZ rfl rfl) (by decide) ?_
  refine st_nil ?_
  refine st_then ?_
  refine st_cond rfl (fun hc7 => ?_) (fun hc7 => ?_)
  · -- t7 True
    try simp only [z1, z2, z3, z4, z5, z6, z7, z8, z9, z10, z11, z12, z13, z14] at hc7
    exact absurd (congrArg Int.ofNat hq) hc7
  · -- t7 False
    try simp only [z1, z2, z3, z4, z5, z6, z7, z8, z9, z10, z11, z12, z13, z14] at hc7
    refine st_skip ?_
    refine st_then ?_
    refine st_seq ?_
    refine st_region ?_
    refine st_call1 (ρ := Nat) (fun r => pt r 0) (fun _ => True) (fun r => [blk r (c64 (modW pP)) 142]) cal48 rfl (fun w hM => ((fp_calls w (hL.at hM))).mono fun e w' ⟨r, h1, h2⟩ => ⟨r, h1, trivial, h2⟩) (by decide) (fun r1 _ => ?_)
    refine st_v (rv_assign rfl) (by decide) ?_
    refine st_nil ?_
    refine st_then ?_
    refine st_seq ?_
    refine st_region ?_
    refine st_v (rv_move rfl) (by decide) ?_
    refine st_v (rv_move rfl) (by decide) ?_
    refine st_call0 cal52 rfl (fun w hM => (clamp_calls _ q hq w ((rd_old hR hR.all) w hM))) (by decide) ?_
    refine st_v (rv_move rfl) (by decide) ?_
    refine st_call0 cal53 rfl (fun w hM => (Small_calls goodP _ 9 (by decide) w (ModAt.blk hM (i := 0) rfl))) (by decide) ?_
    refine st_call0 cal51 rfl (fun w hM => (ladder_calls (leN (clampB q)) (fN 9) w (hL.at hM))) (by decide) ?_
    refine st_call0 cal50 rfl (fun w hM => (From_calls goodP _ _ w (ModAt.blk hM (i := 0) rfl))) (by decide) ?_
    refine st_call1 (ρ := Value) (fun r => r) (fun _ => True) (fun r => [own r 5 1 32 ((leB 32 ((pubF q).val)).map U8)]) cal49 rfl (fun w hM => ((lowBytes_calls ((pubF q).val) w)).mono fun e w' ⟨r, h1, h2⟩ => ⟨r, h1, trivial, h2⟩) (by decide) (fun r2 _ => ?_)
    refine st_v (rv_assign rfl) (by decide) ?_
    refine st_v (rv_assign rfl) (by decide) ?_
    refine st_nil ?_
    refine st_then ?_
    refine st_ret ?_
    exact st_done2 rfl rfl rfl (fun w hM => ⟨_, rfl, hM.sublist (List.Sublist.cons_cons _ (List.Sublist.cons _ (List.Sublist.slnil)))⟩)
set_option maxRecDepth 20000 in
theorem Shared_bad (v u : Value) (q p : List (BitVec 8)) (hq : ¬ (q.length = 32 ∧ p.length = 32)) (w : World) (hR : Rd w v q.length 1 (q.map U8)) (hR2 : Rd w u p.length 1 (p.map U8)) : Calls Tryd.prog 13 #[v, u] w (fun r w' => r = .returned (.tuple #[nilS, vI 2]) ∧ Mem (All w) w w' []) := by
  refine calls_of_st (n := 41) (args := [v, u]) Tryd.func13 rfl Tryd.ntmps13 (Nat.le_of_ble_eq_true rfl) (Mem.all w) ?_
  refine st_seq ?_
  refine st_region ?_
  refine st_v (rv_assign rfl) (by decide) ?_
  refine st_v (rv_assign rfl) (by decide) ?_
  refine st_nil ?_
  refine st_then ?_
  refine st_seq ?_
  refine st_seq ?_
  refine st_region ?_
  refine st_v (rv_move rfl) (by decide) ?_
  refine st_v (rv_lenR (rd_old hR hR.all) Tryd.underlying22 rfl) (by decide) ?_
  refine st_v (rv_neqZ rfl rfl) (by decide) ?_
  refine st_v (rv_move rfl) (by decide) ?_
  refine' st_or 4 (L := _) (s := 12) (d := 16) [0, 1] rfl (fun hg4 => ?_) (fun _ => ?_) ?_; rotate_left
  · -- true
    refine st_gskip rfl rfl rfl (by decide) ?_
    refine st_gskip rfl rfl rfl (by decide) ?_
    refine st_gskip rfl rfl rfl (by decide) ?_
    first | refine st_v (rv_pick_true rfl rfl) (by decide) ?_ | refine st_v (rv_pick_false rfl rfl) (by decide) ?_ | refine st_v (rv_pick rfl rfl rfl) (by decide) ?_
    refine st_nil ?_
    exact st_meet_b (.cons rfl (.cons rfl (.cons rfl (.nil _))))
  · -- false
    refine st_gon rfl rfl ?_
    refine st_v (rv_move rfl) (by decide) ?_
    refine st_gon rfl rfl ?_
    refine st_v (rv_lenR (rd_old hR2 hR2.all) Tryd.underlying22 rfl) (by decide) ?_
    refine st_gon rfl rfl ?_
    refine st_v (rv_neqZ rfl rfl) (by decide) ?_
    first | refine st_v (rv_pick_true rfl rfl) (by decide) ?_ | refine st_v (rv_pick_false rfl rfl) (by decide) ?_ | refine st_v (rv_pick rfl rfl rfl) (by decide) ?_
    refine st_nil ?_
    exact st_meet_b (.cons rfl (.cons rfl (.cons rfl (.nil _))))
  refine st_nil ?_
  refine st_then ?_
  refine st_cond rfl (fun hc16 => ?_) (fun hc16 => ?_)
  · -- t16 True
    try simp only [z1, z2, z3, z4, z5, z6, z7, z8, z9, z10, z11, z12, z13, z14] at hc16
    refine st_seq ?_
    refine st_region ?_
    refine st_v (rv_assign rfl) (by decide) ?_
    refine st_v (rv_assign rfl) (by decide) ?_
    refine st_nil ?_
    refine st_then ?_
    refine st_ret ?_
    refine st_then_ret ?_
    exact st_done2 rfl rfl rfl (fun w hM => ⟨rfl, hM.sublist (List.nil_sublist _)⟩)
  · -- t16 False
    try simp only [z1, z2, z3, z4, z5, z6, z7, z8, z9, z10, z11, z12, z13, z14] at hc16
    exact absurd ⟨Int.ofNat.inj hc16.1, Int.ofNat.inj hc16.2⟩ hq
theorem ofNat_modP (n : Nat) : Fin.ofNat pP (n % pP) = fN n := by
  apply Fin.ext; show n % pP % pP = n % pP; rw [Nat.mod_mod]
set_option maxRecDepth 20000 in
theorem Shared_zero (v u : Value) (q p : List (BitVec 8)) (hq : q.length = 32) (hp : p.length = 32) (hz : shrF q p = 0) (w : World) (hL : LaidM w) (hR : Rd w v q.length 1 (q.map U8)) (hR2 : Rd w u p.length 1 (p.map U8)) : Calls Tryd.prog 13 #[v, u] w (fun r w' => r = .returned (.tuple #[nilS, vI 3]) ∧ Mem (All w) w w' []) := by
  refine calls_of_st (n := 41) (args := [v, u]) Tryd.func13 rfl Tryd.ntmps13 (Nat.le_of_ble_eq_true rfl) (Mem.all w) ?_
  refine st_seq ?_
  refine st_region ?_
  refine st_v (rv_assign rfl) (by decide) ?_
  refine st_v (rv_assign rfl) (by decide) ?_
  refine st_nil ?_
  refine st_then ?_
  refine st_seq ?_
  refine st_seq ?_
  refine st_region ?_
  refine st_v (rv_move rfl) (by decide) ?_
  refine st_v (rv_lenR (rd_old hR hR.all) Tryd.underlying22 rfl) (by decide) ?_
  refine st_v (rv_neqZ rfl rfl) (by decide) ?_
  refine st_v (rv_move rfl) (by decide) ?_
  refine' st_or 4 (L := _) (s := 12) (d := 16) [0, 1] rfl (fun hg4 => ?_) (fun _ => ?_) ?_; rotate_left
  · -- true
    refine st_gskip rfl rfl rfl (by decide) ?_
    refine st_gskip rfl rfl rfl (by decide) ?_
    refine st_gskip rfl rfl rfl (by decide) ?_
    first | refine st_v (rv_pick_true rfl rfl) (by decide) ?_ | refine st_v (rv_pick_false rfl rfl) (by decide) ?_ | refine st_v (rv_pick rfl rfl rfl) (by decide) ?_
    refine st_nil ?_
    exact st_meet_b (.cons rfl (.cons rfl (.cons rfl (.nil _))))
  · -- false
    refine st_gon rfl rfl ?_
    refine st_v (rv_move rfl) (by decide) ?_
    refine st_gon rfl rfl ?_
    refine st_v (rv_lenR (rd_old hR2 hR2.all) Tryd.underlying22 rfl) (by decide) ?_
    refine st_gon rfl rfl ?_
    refine st_v (rv_neqZ rfl rfl) (by decide) ?_
    first | refine st_v (rv_pick_true rfl rfl) (by decide) ?_ | refine st_v (rv_pick_false rfl rfl) (by decide) ?_ | refine st_v (rv_pick rfl rfl rfl) (by decide) ?_
    refine st_nil ?_
    exact st_meet_b (.cons rfl (.cons rfl (.cons rfl (.nil _))))
  refine st_nil ?_
  refine st_then ?_
  refine st_cond rfl (fun hc16 => ?_) (fun hc16 => ?_)
  · -- t16 True
    try simp only [z1, z2, z3, z4, z5, z6, z7, z8, z9, z10, z11, z12, z13, z14] at hc16
    exact absurd (hc16.resolve_left (fun h => h (congrArg Int.ofNat hq))) (fun h => h (congrArg Int.ofNat hp))
  · -- t16 False
    try simp only [z1, z2, z3, z4, z5, z6, z7, z8, z9, z10, z11, z12, z13, z14] at hc16
    refine st_skip ?_
    refine st_then ?_
    refine st_seq ?_
    refine st_region ?_
    refine st_v (rv_move rfl) (by decide) ?_
    refine st_call1 (ρ := Value) (fun r => r) (fun _ => True) (fun r => [own r 5 1 (p).length ((p).map U8)]) cal54 rfl (fun w hM => ((Clone_calls _ (p) (by omega) (by omega) w (Rd.n_eq ((rd_old hR2 hR2.all) w hM) (by omega)))).mono fun e w' ⟨r, h1, h2⟩ => ⟨r, h1, trivial, h2⟩) (by decide) (fun r1 _ => ?_)
    refine st_v (rv_assign rfl) (by decide) ?_
    refine st_nil ?_
    refine st_then ?_
    refine st_seq ?_
    refine st_region ?_
    refine st_v (rv_move rfl) (by decide) ?_
    refine st_v (rv_indexR1 (rd_own (i := 0) rfl) Tryd.underlying22 sz5 rfl rfl (j := 31) rfl (by first | omega | (simp [hp] <;> omega))) (by decide) ?_
    refine st_v (rv_load_rd (rd_own (i := 0) rfl) tyS5 rfl (get8 (by first | omega | (simp [hp] <;> omega)))) (by decide) ?_
    refine st_v (rv_and8 (b := 127#8) rfl rfl) (by decide) ?_
    refine st_v (rv_indexR1 (rd_own (i := 0) rfl) Tryd.underlying22 sz5 rfl rfl (j := 31) rfl (by first | omega | (simp [hp] <;> omega))) (by decide) ?_
    refine st_storeOwn8 rfl rfl (i := 0) rfl sz5 (by first | omega | (simp [hp] <;> omega)) rfl ?_
    refine st_nil ?_
    refine st_then ?_
    refine st_seq ?_
    refine st_region ?_
    refine st_v (rv_move rfl) (by decide) ?_
    refine st_callO cal55 rfl (i := 0) rfl (fun w hM => Reverse_calls _ _ _ (by simp) (by omega) (by first | decide | omega) w (hM.ownAt (i := 0) rfl)) (by decide) (l' := [_]) rfl ?_
    refine st_nil ?_
    refine st_then ?_
    refine st_seq ?_
    refine st_region ?_
    refine st_call1 (ρ := Nat) (fun r => pt r 0) (fun _ => True) (fun r => [blk r (c64 (modW pP)) 142]) cal48 rfl (fun w hM => ((fp_calls w (hL.at hM))).mono fun e w' ⟨r, h1, h2⟩ => ⟨r, h1, trivial, h2⟩) (by decide) (fun r2 _ => ?_)
    refine st_v (rv_assign rfl) (by decide) ?_
    refine st_nil ?_
    refine st_then ?_
    refine st_seq ?_
    refine st_region ?_
    refine st_v (rv_move rfl) (by decide) ?_
    refine st_call0 cal52 rfl (fun w hM => (clamp_calls _ q hq w ((rd_old hR hR.all) w hM))) (by decide) ?_
    refine st_v (rv_move rfl) (by decide) ?_
    refine st_v (rv_move rfl) (by decide) ?_
    refine st_v (rv_move rfl) (by decide) ?_
    refine st_call0 cal57 rfl (fun w hM => (Reduce_calls goodP _ 1 (by decide) _ (topB p).reverse (by simp; omega) w (ModAt.blk hM (i := 0) rfl) (Rd.n_eq ((rd_own (i := 1) rfl) w hM) (by simp; omega)))) (by decide) ?_
    refine st_call0 cal56 rfl (fun w hM => (by have := To_calls goodP _ (leN (topB p) % pP) (Nat.mod_lt _ goodP.pos) w (ModAt.blk hM (i := 0) rfl); rwa [ofNat_modP] at this)) (by decide) ?_
    refine st_call0 cal51 rfl (fun w hM => (ladder_calls (leN (clampB q)) (fN (leN (topB p))) w (hL.at hM))) (by decide) ?_
    refine st_alloc tyZ81 (by decide) (cs := c64 (List.replicate 4 0#64)) (rfl) (fun b3 hb3 => ?_)
    refine st_storeW64 rfl rfl (i := 0) rfl sz81 (by first | omega | (simp [hp]; done) | (simp [hp] <;> omega)) (by first | omega | (simp [hp]; done) | (simp [hp] <;> omega)) (l' := [_, _, _]) rfl ?_
    refine st_nil ?_
    refine st_then ?_
    refine st_seq ?_
    refine st_seq ?_
    refine st_region ?_
    refine st_v (rv_loadW_blk tyA81 rfl (i := 0) rfl (by first | omega | (simp [hp]; done) | (simp [hp] <;> omega))) (by decide) ?_
    refine st_call0 cal58 rfl (fun w hM => (EZero_calls goodP _ w)) (by decide) ?_
    refine st_nil ?_
    refine st_then ?_
    refine st_cond rfl (fun hc36 => ?_) (fun hc36 => ?_)
    · -- t36 True
      try simp only [z1, z2, z3, z4, z5, z6, z7, z8, z9, z10, z11, z12, z13, z14] at hc36
      refine st_seq ?_
      refine st_region ?_
      refine st_v (rv_assign rfl) (by decide) ?_
      refine st_v (rv_assign rfl) (by decide) ?_
      refine st_nil ?_
      refine st_then ?_
      refine st_ret ?_
      refine st_then_ret ?_
      exact st_done2 rfl rfl rfl (fun w hM => ⟨rfl, hM.sublist (List.nil_sublist _)⟩)
    · -- t36 False
      try simp only [z1, z2, z3, z4, z5, z6, z7, z8, z9, z10, z11, z12, z13, z14] at hc36
      exact absurd hz hc36
set_option maxRecDepth 20000 in
theorem Shared_ok (v u : Value) (q p : List (BitVec 8)) (hq : q.length = 32) (hp : p.length = 32) (hz : shrF q p ≠ 0) (w : World) (hL : LaidM w) (hR : Rd w v q.length 1 (q.map U8)) (hR2 : Rd w u p.length 1 (p.map U8)) : Calls Tryd.prog 13 #[v, u] w (fun e w' => ∃ r, e = .returned (.tuple #[r, vI 0]) ∧ Mem (All w) w w' [own r 5 1 32 ((leB 32 ((shrF q p).val)).map U8)]) := by
  refine calls_of_st (n := 41) (args := [v, u]) Tryd.func13 rfl Tryd.ntmps13 (Nat.le_of_ble_eq_true rfl) (Mem.all w) ?_
  refine st_seq ?_
  refine st_region ?_
  refine st_v (rv_assign rfl) (by decide) ?_
  refine st_v (rv_assign rfl) (by decide) ?_
  refine st_nil ?_
  refine st_then ?_
  refine st_seq ?_
  refine st_seq ?_
  refine st_region ?_
  refine st_v (rv_move rfl) (by decide) ?_
  refine st_v (rv_lenR (rd_old hR hR.all) Tryd.underlying22 rfl) (by decide) ?_
  refine st_v (rv_neqZ rfl rfl) (by decide) ?_
  refine st_v (rv_move rfl) (by decide) ?_
  refine' st_or 4 (L := _) (s := 12) (d := 16) [0, 1] rfl (fun hg4 => ?_) (fun _ => ?_) ?_; rotate_left
  · -- true
    refine st_gskip rfl rfl rfl (by decide) ?_
    refine st_gskip rfl rfl rfl (by decide) ?_
    refine st_gskip rfl rfl rfl (by decide) ?_
    first | refine st_v (rv_pick_true rfl rfl) (by decide) ?_ | refine st_v (rv_pick_false rfl rfl) (by decide) ?_ | refine st_v (rv_pick rfl rfl rfl) (by decide) ?_
    refine st_nil ?_
    exact st_meet_b (.cons rfl (.cons rfl (.cons rfl (.nil _))))
  · -- false
    refine st_gon rfl rfl ?_
    refine st_v (rv_move rfl) (by decide) ?_
    refine st_gon rfl rfl ?_
    refine st_v (rv_lenR (rd_old hR2 hR2.all) Tryd.underlying22 rfl) (by decide) ?_
    refine st_gon rfl rfl ?_
    refine st_v (rv_neqZ rfl rfl) (by decide) ?_
    first | refine st_v (rv_pick_true rfl rfl) (by decide) ?_ | refine st_v (rv_pick_false rfl rfl) (by decide) ?_ | refine st_v (rv_pick rfl rfl rfl) (by decide) ?_
    refine st_nil ?_
    exact st_meet_b (.cons rfl (.cons rfl (.cons rfl (.nil _))))
  refine st_nil ?_
  refine st_then ?_
  refine st_cond rfl (fun hc16 => ?_) (fun hc16 => ?_)
  · -- t16 True
    try simp only [z1, z2, z3, z4, z5, z6, z7, z8, z9, z10, z11, z12, z13, z14] at hc16
    exact absurd (hc16.resolve_left (fun h => h (congrArg Int.ofNat hq))) (fun h => h (congrArg Int.ofNat hp))
  · -- t16 False
    try simp only [z1, z2, z3, z4, z5, z6, z7, z8, z9, z10, z11, z12, z13, z14] at hc16
    refine st_skip ?_
    refine st_then ?_
    refine st_seq ?_
    refine st_region ?_
    refine st_v (rv_move rfl) (by decide) ?_
    refine st_call1 (ρ := Value) (fun r => r) (fun _ => True) (fun r => [own r 5 1 (p).length ((p).map U8)]) cal54 rfl (fun w hM => ((Clone_calls _ (p) (by omega) (by omega) w (Rd.n_eq ((rd_old hR2 hR2.all) w hM) (by omega)))).mono fun e w' ⟨r, h1, h2⟩ => ⟨r, h1, trivial, h2⟩) (by decide) (fun r1 _ => ?_)
    refine st_v (rv_assign rfl) (by decide) ?_
    refine st_nil ?_
    refine st_then ?_
    refine st_seq ?_
    refine st_region ?_
    refine st_v (rv_move rfl) (by decide) ?_
    refine st_v (rv_indexR1 (rd_own (i := 0) rfl) Tryd.underlying22 sz5 rfl rfl (j := 31) rfl (by first | omega | (simp [hp] <;> omega))) (by decide) ?_
    refine st_v (rv_load_rd (rd_own (i := 0) rfl) tyS5 rfl (get8 (by first | omega | (simp [hp] <;> omega)))) (by decide) ?_
    refine st_v (rv_and8 (b := 127#8) rfl rfl) (by decide) ?_
    refine st_v (rv_indexR1 (rd_own (i := 0) rfl) Tryd.underlying22 sz5 rfl rfl (j := 31) rfl (by first | omega | (simp [hp] <;> omega))) (by decide) ?_
    refine st_storeOwn8 rfl rfl (i := 0) rfl sz5 (by first | omega | (simp [hp] <;> omega)) rfl ?_
    refine st_nil ?_
    refine st_then ?_
    refine st_seq ?_
    refine st_region ?_
    refine st_v (rv_move rfl) (by decide) ?_
    refine st_callO cal55 rfl (i := 0) rfl (fun w hM => Reverse_calls _ _ _ (by simp) (by omega) (by first | decide | omega) w (hM.ownAt (i := 0) rfl)) (by decide) (l' := [_]) rfl ?_
    refine st_nil ?_
    refine st_then ?_
    refine st_seq ?_
    refine st_region ?_
    refine st_call1 (ρ := Nat) (fun r => pt r 0) (fun _ => True) (fun r => [blk r (c64 (modW pP)) 142]) cal48 rfl (fun w hM => ((fp_calls w (hL.at hM))).mono fun e w' ⟨r, h1, h2⟩ => ⟨r, h1, trivial, h2⟩) (by decide) (fun r2 _ => ?_)
    refine st_v (rv_assign rfl) (by decide) ?_
    refine st_nil ?_
    refine st_then ?_
    refine st_seq ?_
    refine st_region ?_
    refine st_v (rv_move rfl) (by decide) ?_
    refine st_call0 cal52 rfl (fun w hM => (clamp_calls _ q hq w ((rd_old hR hR.all) w hM))) (by decide) ?_
    refine st_v (rv_move rfl) (by decide) ?_
    refine st_v (rv_move rfl) (by decide) ?_
    refine st_v (rv_move rfl) (by decide) ?_
    refine st_call0 cal57 rfl (fun w hM => (Reduce_calls goodP _ 1 (by decide) _ (topB p).reverse (by simp; omega) w (ModAt.blk hM (i := 0) rfl) (Rd.n_eq ((rd_own (i := 1) rfl) w hM) (by simp; omega)))) (by decide) ?_
    refine st_call0 cal56 rfl (fun w hM => (by have := To_calls goodP _ (leN (topB p) % pP) (Nat.mod_lt _ goodP.pos) w (ModAt.blk hM (i := 0) rfl); rwa [ofNat_modP] at this)) (by decide) ?_
    refine st_call0 cal51 rfl (fun w hM => (ladder_calls (leN (clampB q)) (fN (leN (topB p))) w (hL.at hM))) (by decide) ?_
    refine st_alloc tyZ81 (by decide) (cs := c64 (List.replicate 4 0#64)) (rfl) (fun b3 hb3 => ?_)
    refine st_storeW64 rfl rfl (i := 0) rfl sz81 (by first | omega | (simp [hp]; done) | (simp [hp] <;> omega)) (by first | omega | (simp [hp]; done) | (simp [hp] <;> omega)) (l' := [_, _, _]) rfl ?_
    refine st_nil ?_
    refine st_then ?_
    refine st_seq ?_
    refine st_seq ?_
    refine st_region ?_
    refine st_v (rv_loadW_blk tyA81 rfl (i := 0) rfl (by first | omega | (simp [hp]; done) | (simp [hp] <;> omega))) (by decide) ?_
    refine st_call0 cal58 rfl (fun w hM => (EZero_calls goodP _ w)) (by decide) ?_
    refine st_nil ?_
    refine st_then ?_
    refine st_cond rfl (fun hc36 => ?_) (fun hc36 => ?_)
    · -- t36 True
      try simp only [z1, z2, z3, z4, z5, z6, z7, z8, z9, z10, z11, z12, z13, z14] at hc36
      exact absurd hc36 hz
    · -- t36 False
      try simp only [z1, z2, z3, z4, z5, z6, z7, z8, z9, z10, z11, z12, z13, z14] at hc36
      refine st_skip ?_
      refine st_then ?_
      refine st_seq ?_
      refine st_region ?_
      refine st_v (rv_move rfl) (by decide) ?_
      refine st_v (rv_loadW_blk tyA81 rfl (i := 0) rfl (by first | omega | (simp [hp]; done) | (simp [hp] <;> omega))) (by decide) ?_
      refine st_call0 cal50 rfl (fun w hM => (From_calls goodP _ _ w (ModAt.blk hM (i := 1) rfl))) (by decide) ?_
      refine st_call1 (ρ := Value) (fun r => r) (fun _ => True) (fun r => [own r 5 1 32 ((leB 32 ((shrF q p).val)).map U8)]) cal49 rfl (fun w hM => ((lowBytes_calls ((shrF q p).val) w)).mono fun e w' ⟨r, h1, h2⟩ => ⟨r, h1, trivial, h2⟩) (by decide) (fun r4 _ => ?_)
      refine st_v (rv_assign rfl) (by decide) ?_
      refine st_v (rv_assign rfl) (by decide) ?_
      refine st_nil ?_
      refine st_then ?_
      refine st_ret ?_
      exact st_done2 rfl rfl rfl (fun w hM => ⟨_, rfl, hM.sublist (List.Sublist.cons_cons _ (List.Sublist.cons _ (List.Sublist.cons _ (List.Sublist.cons _ (List.Sublist.slnil)))))⟩)
end Go.Proofs.YtjhjjhpfjadjpaaDoor
