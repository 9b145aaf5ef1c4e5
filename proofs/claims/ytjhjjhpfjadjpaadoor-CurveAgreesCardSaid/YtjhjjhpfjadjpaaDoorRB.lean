/- Walks: what functions of the given program do, operation by operation. Written by wip/gen. -/
import Derived.Test.YtjhjjhpfjadjpaaDoorRA
import Derived.Test.YtjhjjhpfjadjpaaDoorMM
import Derived.Test.YtjhjjhpfjadjpaaDoorVY
namespace Go.Proofs.YtjhjjhpfjadjpaaDoor
set_option linter.all false
open Go
theorem asRd {P : Program} {f : FuncId} {args : Array Value} {w : World} {T : TypeId} {n : Nat} {xs : List Value} (h : Calls P f args w (fun e w' => ∃ r, e = .returned r ∧ Mem (All w) w w' [own r T 1 n xs])) : Calls P f args w (fun e w' => ∃ r, e = .returned r ∧ Mem (All w) w w' [rdA r n 1 xs]) :=
  h.mono fun e w' ⟨r, h1, h2⟩ => ⟨r, h1, h2.toRd (i := 0) rfl⟩
theorem small8 (n : Nat) (h : n < W32) : [BitVec.ofNat 32 n, 0#32, 0#32, 0#32, 0#32, 0#32, 0#32, 0#32] = n32 8 n := by
  have e : n / W32 = 0 := Nat.div_eq_of_lt h
  simp [n32, e]
set_option maxRecDepth 20000 in
theorem rSmallW_calls (x : BitVec 32) (w : World) : Calls Tryd.prog 62 #[U32 x] w (fun e w' => ∃ r, e = .returned r ∧ Mem (All w) w w' [own r 91 1 8 ([x, 0#32, 0#32, 0#32, 0#32, 0#32, 0#32, 0#32].map U32)]) := by
  refine calls_of_st (n := 5) (args := [U32 x]) Tryd.func62 rfl Tryd.ntmps62 (Nat.le_of_ble_eq_true rfl) (Mem.all w) ?_
  refine st_seq ?_
  refine st_region ?_
  refine st_v (rv_assign rfl) (by decide) ?_
  refine st_nil ?_
  refine st_then ?_
  refine st_seq ?_
  refine st_region ?_
  refine st_v (rv_move rfl) (by decide) ?_
  refine st_buildO Tryd.underlying36 tyZ91 rfl rfl (by decide) (cs := ([x, 0#32, 0#32, 0#32, 0#32, 0#32, 0#32, 0#32].map U32).toArray) (by kernel_rfl) rfl (by decide) (fun v1 => ?_)
  refine st_v (rv_assign rfl) (by decide) ?_
  refine st_nil ?_
  refine st_then ?_
  refine st_ret ?_
  exact st_done rfl rfl (fun w hM => ⟨_, rfl, hM⟩)
theorem rSmall_calls (n : Nat) (hn : n < W32) (w : World) : Calls Tryd.prog 62 #[U32 (BitVec.ofNat 32 n)] w (fun e w' => ∃ r, e = .returned r ∧ Mem (All w) w w' [own r 91 1 (8) ((n32 (8) (n)).map U32)]) := by
  have := rSmallW_calls (BitVec.ofNat 32 n) w
  rwa [small8 n hn] at this
set_option maxRecDepth 20000 in
set_option maxHeartbeats 1000000 in
theorem rOf_calls (q : List (BitVec 8)) (hq : q.length ≤ 100000) (w : World) : Calls Tryd.prog 79 #[vS q] w (fun e w' => ∃ r, e = .returned r ∧ Mem (All w) w w' [own r 91 1 ((q.length + 3) / 4) ((n32 ((q.length + 3) / 4) (beN q)).map U32)]) := by
  refine calls_of_st (n := 41) (args := [vS q]) Tryd.func79 rfl Tryd.ntmps79 (Nat.le_of_ble_eq_true rfl) (Mem.all w) ?_
  refine st_seq ?_
  refine st_region ?_
  refine st_v (rv_assign rfl) (by decide) ?_
  refine st_nil ?_
  refine st_then ?_
  refine st_seq ?_
  refine st_region ?_
  refine st_v (rv_move rfl) (by decide) ?_
  refine st_v (rv_lenB Tryd.underlying9 rfl) (by decide) ?_
  first | refine st_v (rv_addN (b := 3) rfl rfl (by first | omega | (simp; done) | (simp; omega))) (by decide) ?_ | refine st_v (rv_addZ rfl rfl (by first | omega | (simp; done) | (simp; omega))) (by decide) ?_
  refine st_v (rv_quoN (b := 4) rfl rfl (by first | omega | (simp; done) | (simp; omega))) (by decide) ?_
  refine st_makeO32 Tryd.underlying36 tyZ91 rfl rfl (by omega) (by omega) (by decide) (fun v1 => ?_)
  rw [of_start q]
  refine st_v (rv_assign rfl) (by decide) ?_
  refine st_nil ?_
  refine st_then ?_
  refine st_seq ?_
  refine st_seq ?_
  refine st_region ?_
  refine st_v (rv_assign rfl) (by decide) ?_
  refine st_nil ?_
  refine st_then ?_
  refine st_block ?_
  refine st_loopA (σ := Nat) [(0, kst _), (3, kst _), (4, fun i => vI (i : Nat))] [fun i => own v1 91 1 ((q.length + 3) / 4) ((n32 ((q.length + 3) / 4) (beN (q.take i) * 256 ^ (q.length - i))).map U32)] (fun i => i ≤ q.length) (fun i => q.length - i) 0 (by omega) (.cons rfl (.cons rfl (.cons rfl (.nil _)))) (fun _ hM => hM) ?_
  intro i hI
  try dsimp only at hI
  dsimp only [List.map, kst]
  refine st_seq ?_
  refine st_seq ?_
  refine st_region ?_
  refine st_v (rv_move rfl) (by decide) ?_
  refine st_v (rv_move rfl) (by decide) ?_
  refine st_v (rv_lenB Tryd.underlying9 rfl) (by decide) ?_
  refine st_v (rv_lssZ rfl rfl) (by decide) ?_
  refine st_nil ?_
  refine st_then ?_
  refine st_cond rfl (fun hc14 => ?_) (fun hc14 => ?_)
  · -- t14 True
    try simp only [z1, z2, z3, z4, z5, z6, z7, z8, z9, z10, z11, z12, z13, z14] at hc14
    refine st_skip ?_
    refine st_then ?_
    refine st_seq ?_
    refine st_block ?_
    refine st_seq ?_
    refine st_region ?_
    refine st_v (rv_move rfl) (by decide) ?_
    refine st_v (rv_lenB Tryd.underlying9 rfl) (by decide) ?_
    first | refine st_v (rv_subN (b := 1) rfl rfl (by first | omega | (simp; done) | (simp; omega))) (by decide) ?_ | refine st_v (rv_subZ rfl rfl (by first | omega | (simp; done) | (simp; omega))) (by decide) ?_
    refine st_v (rv_move rfl) (by decide) ?_
    first | refine st_v (rv_subN rfl rfl (by first | omega | (simp; done) | (simp; omega))) (by decide) ?_ | refine st_v (rv_subZ rfl rfl (by first | omega | (simp; done) | (simp; omega))) (by decide) ?_
    refine st_v (rv_assign rfl) (by decide) ?_
    refine st_nil ?_
    refine st_then ?_
    refine st_drawStart mixed ?_
    refine st_drawSeg1 (E0 := [(0, _), (3, _), (4, _), (5, _)]) [kpeq _, kpeq _, kpeq _, kpeq _, kpeq _, kpeq _, kpeq _, kpeq _, kpeq _, kpeq _, kpeq _, kpeq _, kpeq _, kpeq _, kpeq _, kpeq _, kpeq _] 0 17 [0, 0, 2, 0, 0, 16, 56, 120, 0, 0, 768, 1792, 0, 4096, 12288, 32512, 65528, 131071, 262143] [0, 3, 4, 5] (by kernel_rfl) (by decide) (by kernel_rfl) (.cons rfl (.cons rfl (.cons rfl (.cons rfl (.nil _))))) rfl rfl (hall_cons (hop_mv rfl (by decide) rfl rfl) (hall_cons (hop_mv rfl (by decide) rfl rfl) (hall_cons (hop_val [(1, 23, _)] [] rfl rfl rfl (by decide) rfl (jcons rfl rfl rfl rfl rfl (jnil)) (xnil) (fun _ _ _ _ => does_v (rv_quoN (b := 4) rfl rfl (by first | omega | (simp; done) | (simp; omega))))) (hall_cons (hop_mv rfl (by decide) rfl rfl) (hall_cons (hop_mv rfl (by decide) rfl rfl) (hall_cons (hop_val [(4, 26, _)] [] rfl rfl rfl (by decide) rfl (jcons rfl rfl rfl rfl rfl (jnil)) (xnil) (fun _ _ _ _ => does_v (rv_quoN (b := 4) rfl rfl (by first | omega | (simp; done) | (simp; omega))))) (hall_cons (hop_val [(3, 25, _), (5, 27, _)] [] rfl rfl rfl (by decide) rfl (jcons rfl rfl rfl rfl rfl (jcons rfl rfl rfl rfl rfl (jnil))) (xnil) (fun _ _ _ _ => does_v (rv_indexR1 (rd_own (i := 0) rfl) Tryd.underlying36 sz91 rfl rfl rfl (by first | omega | (simp <;> omega))))) (hall_cons (hop_val [(6, 28, _)] [] rfl rfl rfl (by decide) rfl (jcons rfl rfl rfl rfl rfl (jnil)) (xnil) (fun _ _ _ _ => does_v (rv_load_rd (rd_own (i := 0) rfl) tyS91 rfl (get32 (by first | omega | (simp <;> omega)))))) (hall_cons (hop_mv rfl (by decide) rfl rfl) (hall_cons (hop_mv rfl (by decide) rfl rfl) (hall_cons (hop_val [(8, 30, _), (9, 31, _)] [] rfl rfl rfl (by decide) rfl (jcons rfl rfl rfl rfl rfl (jcons rfl rfl rfl rfl rfl (jnil))) (xnil) (fun _ _ _ _ => does_v (rv_indexB Tryd.underlying9 rfl rfl rfl (by first | omega | (simp <;> omega))))) (hall_cons (hop_val [(10, 32, _)] [] rfl rfl rfl (by decide) rfl (jcons rfl rfl rfl rfl rfl (jnil)) (xnil) (fun _ _ _ _ => does_v (rv_conv8to32 Tryd.underlying5 Tryd.underlying91 rfl))) (hall_cons (hop_mv rfl (by decide) rfl rfl) (hall_cons (hop_val [(12, 34, _)] [] rfl rfl rfl (by decide) rfl (jcons rfl rfl rfl rfl rfl (jnil)) (xnil) (fun _ _ _ _ => does_v (rv_remN (b := 4) rfl rfl (by first | omega | (simp; done) | (simp; omega))))) (hall_cons (hop_val [(13, 35, _)] [] rfl rfl rfl (by decide) rfl (jcons rfl rfl rfl rfl rfl (jnil)) (xnil) (fun _ _ _ _ => does_v (rv_mulN (a := 8) rfl rfl (by first | omega | (simp; done) | (simp; omega))))) (hall_cons (hop_val [(11, 33, _), (14, 36, _)] [] rfl rfl rfl (by decide) rfl (jcons rfl rfl rfl rfl rfl (jcons rfl rfl rfl rfl rfl (jnil))) (xnil) (fun _ _ _ _ => does_v (rv_shl32 rfl rfl rfl))) (hall_cons (hop_val [(7, 29, _), (15, 37, _)] [] rfl rfl rfl (by decide) rfl (jcons rfl rfl rfl rfl rfl (jcons rfl rfl rfl rfl rfl (jnil))) (xnil) (fun _ _ _ _ => does_v (rv_or32 rfl rfl))) (hall_nil)))))))))))))))))) (draw_end1 [(0, 22, _), (2, 24, _), (16, 38, _)] (jcons rfl rfl rfl rfl rfl (jcons rfl rfl rfl rfl rfl (jcons rfl rfl rfl rfl rfl (jnil)))) ?_)
    refine st_drawTail (N := 17) [0, 0, 2, 0, 0, 16, 56, 120, 0, 0, 768, 1792, 0, 4096, 12288, 32512, 65528, 131071, 262143] (by kernel_rfl) (by kernel_rfl) ?_
    refine st_v (rv_indexR1 (rd_own (i := 0) rfl) Tryd.underlying36 sz91 rfl rfl rfl (by first | omega | (simp <;> omega))) (by decide) ?_
    refine st_storeOwn32 rfl rfl (i := 0) rfl sz91 (by first | omega | (simp <;> omega)) rfl ?_
    refine st_nil ?_
    refine st_in_normal ?_
    refine st_then ?_
    refine st_region ?_
    refine st_v (rv_move rfl) (by decide) ?_
    first | refine st_v (rv_addN (b := 1) rfl rfl (by first | omega | (simp; done) | (simp; omega))) (by decide) ?_ | refine st_v (rv_addZ rfl rfl (by first | omega | (simp; done) | (simp; omega))) (by decide) ?_
    refine st_v (rv_assign rfl) (by decide) ?_
    refine st_nil ?_
    refine st_then ?_
    rw [of_step (by omega)]
    exact st_again (i + 1) (by omega) (by omega) (.cons rfl (.cons rfl (.cons rfl (.nil _)))) (fun _ hM => hM)
  · -- t14 False
    try simp only [z1, z2, z3, z4, z5, z6, z7, z8, z9, z10, z11, z12, z13, z14] at hc14
    obtain rfl : i = q.length := by omega
    refine st_exit ?_
    refine st_then_exit ?_
    refine st_then_exit ?_
    refine st_in_exit ?_
    refine st_then ?_
    refine st_seq ?_
    refine st_region ?_
    refine st_v (rv_move rfl) (by decide) ?_
    refine st_v (rv_assign rfl) (by decide) ?_
    refine st_nil ?_
    refine st_then ?_
    refine st_ret ?_
    exact st_done rfl rfl (fun w hM => ⟨_, rfl, by rw [List.take_length, Nat.sub_self, Nat.pow_zero, Nat.mul_one] at hM; exact hM⟩)
set_option maxRecDepth 20000 in
set_option maxHeartbeats 1000000 in
theorem rBytes_calls (v : Value) (la A n : Nat) (hn : n ≤ 1000) (hla : la ≤ 1000) (hlA : A < W32 ^ la) (w : World) (hA : Rd w v la 1 ((n32 (la) (A)).map U32)) : Calls Tryd.prog 103 #[v, vI (n : Nat)] w (fun r w' => r = .returned (vS (beB n A)) ∧ Mem (All w) w w' []) := by
  refine calls_of_st (n := 39) (args := [v, vI (n : Nat)]) Tryd.func103 rfl Tryd.ntmps103 (Nat.le_of_ble_eq_true rfl) (Mem.all w) ?_
  refine st_seq ?_
  refine st_region ?_
  refine st_v (rv_assign rfl) (by decide) ?_
  refine st_nil ?_
  refine st_then ?_
  refine st_seq ?_
  refine st_region ?_
  refine st_v (rv_move rfl) (by decide) ?_
  refine st_makeO8 Tryd.underlying22 tyZ5 rfl rfl (by omega) (by omega) (by decide) (fun v1 => ?_)
  rw [bB_zero n A]
  refine st_v (rv_assign rfl) (by decide) ?_
  refine st_nil ?_
  refine st_then ?_
  refine st_seq ?_
  refine st_seq ?_
  refine st_region ?_
  refine st_v (rv_assign rfl) (by decide) ?_
  refine st_nil ?_
  refine st_then ?_
  refine st_block ?_
  refine st_loopA (σ := Nat) [(0, kst _), (1, kst _), (5, kst _), (6, fun i => vI (i : Nat))] [fun i => own v1 5 1 n ((bB n A i).map U8)] (fun i => i ≤ n) (fun i => n - i) 0 (by omega) (.cons rfl (.cons rfl (.cons rfl (.cons rfl (.nil _))))) (fun _ hM => hM) ?_
  intro i hI
  try dsimp only at hI
  dsimp only [List.map, kst]
  refine st_seq ?_
  refine st_seq ?_
  refine st_region ?_
  refine st_v (rv_move rfl) (by decide) ?_
  refine st_v (rv_move rfl) (by decide) ?_
  refine st_v (rv_lssZ rfl rfl) (by decide) ?_
  refine st_nil ?_
  refine st_then ?_
  refine st_cond rfl (fun hc12 => ?_) (fun hc12 => ?_)
  · -- t12 True
    try simp only [z1, z2, z3, z4, z5, z6, z7, z8, z9, z10, z11, z12, z13, z14] at hc12
    refine st_skip ?_
    refine st_then ?_
    refine st_seq ?_
    refine st_block ?_
    refine st_seq ?_
    refine st_region ?_
    refine st_v (rv_move rfl) (by decide) ?_
    first | refine st_v (rv_subN (b := 1) rfl rfl (by first | omega | (simp; done) | (simp; omega))) (by decide) ?_ | refine st_v (rv_subZ rfl rfl (by first | omega | (simp; done) | (simp; omega))) (by decide) ?_
    refine st_v (rv_move rfl) (by decide) ?_
    first | refine st_v (rv_subN rfl rfl (by first | omega | (simp; done) | (simp; omega))) (by decide) ?_ | refine st_v (rv_subZ rfl rfl (by first | omega | (simp; done) | (simp; omega))) (by decide) ?_
    refine st_v (rv_assign rfl) (by decide) ?_
    refine st_nil ?_
    refine st_then ?_
    refine st_seq ?_
    refine st_region ?_
    refine st_v (rv_move rfl) (by decide) ?_
    refine st_v (rv_quoN (b := 4) rfl rfl (by first | omega | (simp; done) | (simp; omega))) (by decide) ?_
    refine st_v (rv_move rfl) (by decide) ?_
    refine st_v (rv_lenR (rd_old hA hA.all) Tryd.underlying36 rfl) (by decide) ?_
    refine st_v (rv_lssZ rfl rfl) (by decide) ?_
    refine st_nil ?_
    refine st_then ?_
    refine st_cond rfl (fun hc23 => ?_) (fun hc23 => ?_)
    · -- t23 True
      try simp only [z1, z2, z3, z4, z5, z6, z7, z8, z9, z10, z11, z12, z13, z14] at hc23
      refine st_region ?_
      refine st_v (rv_move rfl) (by decide) ?_
      refine st_v (rv_move rfl) (by decide) ?_
      refine st_v (rv_move rfl) (by decide) ?_
      refine st_v (rv_move rfl) (by decide) ?_
      refine st_v (rv_quoN (b := 4) rfl rfl (by first | omega | (simp; done) | (simp; omega))) (by decide) ?_
      refine st_v (rv_indexR1 (rd_old hA hA.all) Tryd.underlying36 sz91 rfl rfl rfl (by first | omega | (simp [length_bB (show i ≤ n by omega)] <;> omega))) (by decide) ?_
      refine st_v (rv_load_rd (rd_old hA hA.all) tyS91 rfl (get32 (by first | omega | (simp [length_bB (show i ≤ n by omega)] <;> omega)))) (by decide) ?_
      rw [getD_n32 hlA]
      refine st_v (rv_move rfl) (by decide) ?_
      refine st_v (rv_remN (b := 4) rfl rfl (by first | omega | (simp; done) | (simp; omega))) (by decide) ?_
      first | refine st_v (rv_mulN (a := 8) rfl rfl (by first | omega | (simp; done) | (simp; omega))) (by decide) ?_ | refine st_v (rv_mulZ rfl rfl (by first | omega | (simp; done) | (simp; omega))) (by decide) ?_
      refine st_v (rv_shr32 rfl rfl rfl) (by decide) ?_
      refine st_v (rv_conv32to8 Tryd.underlying91 Tryd.underlying5 rfl) (by decide) ?_
      refine st_v (rv_indexR1 (rd_own (i := 0) rfl) Tryd.underlying22 sz5 rfl rfl rfl (by first | omega | (simp [length_bB (show i ≤ n by omega)] <;> omega))) (by decide) ?_
      refine st_storeOwn8 rfl rfl (i := 0) rfl sz5 (by first | omega | (simp [length_bB (show i ≤ n by omega)] <;> omega)) rfl ?_
      refine st_nil ?_
      refine st_in_normal ?_
      refine st_then ?_
      refine st_region ?_
      refine st_v (rv_move rfl) (by decide) ?_
      first | refine st_v (rv_addN (b := 1) rfl rfl (by first | omega | (simp; done) | (simp; omega))) (by decide) ?_ | refine st_v (rv_addZ rfl rfl (by first | omega | (simp; done) | (simp; omega))) (by decide) ?_
      refine st_v (rv_assign rfl) (by decide) ?_
      refine st_nil ?_
      refine st_then ?_
      exact st_again (i + 1) (by omega) (by omega) (.cons rfl (.cons rfl (.cons rfl (.cons rfl (.nil _))))) (by intro w hM; (first | rw [bB_step (by omega)] at hM | rw [hsk] at hM); exact hM)
    · -- t23 False
      try simp only [z1, z2, z3, z4, z5, z6, z7, z8, z9, z10, z11, z12, z13, z14] at hc23
      have hsk := bB_skip (n := n) (A := A) (i := i) (by omega) (high_zero hlA (by omega))
      refine st_skip ?_
      refine st_in_normal ?_
      refine st_then ?_
      refine st_region ?_
      refine st_v (rv_move rfl) (by decide) ?_
      first | refine st_v (rv_addN (b := 1) rfl rfl (by first | omega | (simp; done) | (simp; omega))) (by decide) ?_ | refine st_v (rv_addZ rfl rfl (by first | omega | (simp; done) | (simp; omega))) (by decide) ?_
      refine st_v (rv_assign rfl) (by decide) ?_
      refine st_nil ?_
      refine st_then ?_
      exact st_again (i + 1) (by omega) (by omega) (.cons rfl (.cons rfl (.cons rfl (.cons rfl (.nil _))))) (by intro w hM; (first | rw [bB_step (by omega)] at hM | rw [hsk] at hM); exact hM)
  · -- t12 False
    try simp only [z1, z2, z3, z4, z5, z6, z7, z8, z9, z10, z11, z12, z13, z14] at hc12
    obtain rfl : i = n := by omega
    refine st_exit ?_
    refine st_then_exit ?_
    refine st_then_exit ?_
    refine st_in_exit ?_
    refine st_then ?_
    refine st_seq ?_
    refine st_region ?_
    refine st_v (rv_move rfl) (by decide) ?_
    refine st_v (rv_string (rd_own (i := 0) rfl) Tryd.underlying22 Tryd.underlying9 Tryd.underlying5 rfl) (by decide) ?_
    refine st_v (rv_assign rfl) (by decide) ?_
    refine st_nil ?_
    refine st_then ?_
    refine st_ret ?_
    exact st_done rfl rfl (fun w hM => ⟨by rw [bB_all], hM.sublist (List.nil_sublist _)⟩)
set_option maxRecDepth 20000 in
set_option maxHeartbeats 4000000 in
theorem rMod_calls (v u : Value) (la A M : Nat) (hla : la ≤ 1000) (hlA : A < W32 ^ la) (hM7 : W32 ^ 7 ≤ M) (hM8 : M < W32 ^ 8) (w : World) (hA : Rd w v la 1 ((n32 (la) (A)).map U32)) (hB : Rd w u 8 1 ((n32 (8) (M)).map U32)) : Calls Tryd.prog 105 #[v, u] w (fun e w' => ∃ r, e = .returned r ∧ Mem (All w) w w' [own r 91 1 (8) ((n32 (8) (A % M)).map U32)]) := by
  have hM0 : 0 < M := Nat.lt_of_lt_of_le (Wpos 7) hM7
  refine calls_of_st (n := 112) (args := [v, u]) Tryd.func105 rfl Tryd.ntmps105 (Nat.le_of_ble_eq_true rfl) (Mem.all w) ?_
  refine st_seq ?_
  refine st_region ?_
  refine st_v (rv_assign rfl) (by decide) ?_
  refine st_nil ?_
  refine st_then ?_
  refine st_seq ?_
  refine st_region ?_
  refine st_makeO32 Tryd.underlying36 tyZ91 (len := 9) rfl rfl (by omega) (by omega) (by decide) (fun v1 => ?_)
  rw [n32_zero, show n32 9 0 = n32 9 (A / W32 ^ (la - (7 - 7))) by rw [Nat.sub_self, Nat.sub_zero, Nat.div_eq_of_lt hlA]]
  refine st_v (rv_assign rfl) (by decide) ?_
  refine st_nil ?_
  refine st_then ?_
  refine st_seq ?_
  refine st_region ?_
  refine st_v (rv_move rfl) (by decide) ?_
  refine st_v (rv_lenR (rd_old hA hA.all) Tryd.underlying36 rfl) (by decide) ?_
  refine st_v (rv_assign rfl) (by decide) ?_
  refine st_nil ?_
  refine st_then ?_
  refine st_seq ?_
  refine st_seq ?_
  refine st_region ?_
  refine st_v (rv_assign rfl) (by decide) ?_
  refine st_nil ?_
  refine st_then ?_
  refine st_block ?_
  refine st_loopA (σ := Nat) [(0, kst _), (1, kst _), (5, kst _), (6, fun k => vI (la - (7 - k) : Nat)), (7, fun k => vI ((k : Nat) - 1 : Int))] [fun k => own v1 91 1 9 ((n32 9 (A / W32 ^ (la - (7 - k)))).map U32)] (fun k => k ≤ 7 ∧ 7 - k ≤ la) (fun k => k) 7 (by omega) (.cons rfl (.cons rfl (.cons rfl (SubE.cons (by dsimp only; rw [Nat.sub_self, Nat.sub_zero]; rfl) (.cons rfl (.nil _)))))) (fun _ hM => hM) ?_
  intro k hI
  try dsimp only at hI
  dsimp only [List.map, kst]
  refine st_seq ?_
  refine st_seq ?_
  refine st_region ?_
  refine st_v (rv_move rfl) (by decide) ?_
  refine st_v (rv_geqZ rfl rfl) (by decide) ?_
  refine st_v (rv_move rfl) (by decide) ?_
  refine' st_and 3 (L := _) (s := 21) (d := 24) [0, 1, 5, 6, 7] rfl (fun hg3 => ?_) (fun _ => ?_) ?_; rotate_left
  · -- true
    try simp only [decide_eq_true_eq, decide_eq_false_iff_not, Bool.and_eq_true, Bool.not_eq_true] at hg3
    refine st_gon rfl rfl ?_
    refine st_v (rv_move rfl) (by decide) ?_
    refine st_gon rfl rfl ?_
    refine st_v (rv_gtrZ rfl rfl) (by decide) ?_
    first | refine st_v (rv_pick_true rfl rfl) (by decide) ?_ | refine st_v (rv_pick_false rfl rfl) (by decide) ?_ | refine st_v (rv_pick rfl rfl rfl) (by decide) ?_
    refine st_nil ?_
    exact st_meet_b (.cons rfl (.cons rfl (.cons rfl (.cons rfl (.cons rfl (.cons rfl (.nil _)))))))
  · -- false
    refine st_gskip rfl rfl rfl (by decide) ?_
    refine st_gskip rfl rfl rfl (by decide) ?_
    first | refine st_v (rv_pick_true rfl rfl) (by decide) ?_ | refine st_v (rv_pick_false rfl rfl) (by decide) ?_ | refine st_v (rv_pick rfl rfl rfl) (by decide) ?_
    refine st_nil ?_
    exact st_meet_b (.cons rfl (.cons rfl (.cons rfl (.cons rfl (.cons rfl (.cons rfl (.nil _)))))))
  refine st_nil ?_
  refine st_then ?_
  refine st_cond rfl (fun hc24 => ?_) (fun hc24 => ?_)
  · -- t24 True
    try simp only [z1, z2, z3, z4, z5, z6, z7, z8, z9, z10, z11, z12, z13, z14] at hc24
    obtain ⟨j, rfl⟩ : ∃ j, k = j + 1 := ⟨k - 1, by omega⟩
    rw [dn_succ]
    refine st_skip ?_
    refine st_then ?_
    refine st_seq ?_
    refine st_block ?_
    refine st_seq ?_
    refine st_region ?_
    refine st_v (rv_move rfl) (by decide) ?_
    first | refine st_v (rv_subN (b := 1) rfl rfl (by first | omega | (simp; done) | (simp; omega))) (by decide) ?_ | refine st_v (rv_subZ rfl rfl (by first | omega | (simp; done) | (simp; omega))) (by decide) ?_
    refine st_v (rv_assign rfl) (by decide) ?_
    refine st_nil ?_
    refine st_then ?_
    refine st_seq ?_
    refine st_seq ?_
    refine st_region ?_
    refine st_v (rv_assign rfl) (by decide) ?_
    refine st_nil ?_
    refine st_then ?_
    refine st_block ?_
    refine st_loopA (σ := Nat) [(0, kst _), (1, kst _), (5, kst _), (6, kst _), (7, kst _), (8, fun t => vI (8 - t : Nat))] [fun t => own v1 91 1 9 ((shD (n32 9 (A / W32 ^ (la - (7 - (j + 1))))) t).map U32)] (fun t => t ≤ 8) (fun t => 8 - t) 0 (by omega) (.cons rfl (.cons rfl (.cons rfl (.cons rfl (.cons rfl (.cons rfl (.nil _))))))) (fun _ hM => hM) ?_
    intro t hI
    try dsimp only at hI
    dsimp only [List.map, kst]
    refine st_seq ?_
    refine st_seq ?_
    refine st_region ?_
    refine st_v (rv_move rfl) (by decide) ?_
    refine st_v (rv_gtrZ rfl rfl) (by decide) ?_
    refine st_nil ?_
    refine st_then ?_
    refine st_cond rfl (fun hc30 => ?_) (fun hc30 => ?_)
    · -- t30 True
      try simp only [z1, z2, z3, z4, z5, z6, z7, z8, z9, z10, z11, z12, z13, z14] at hc30
      refine st_skip ?_
      refine st_then ?_
      refine st_seq ?_
      refine st_block ?_
      refine st_region ?_
      refine st_v (rv_move rfl) (by decide) ?_
      refine st_v (rv_move rfl) (by decide) ?_
      refine st_v (rv_move rfl) (by decide) ?_
      refine st_v (rv_move rfl) (by decide) ?_
      first | refine st_v (rv_subN (b := 1) rfl rfl (by first | omega | (simp; done) | (simp; omega))) (by decide) ?_ | refine st_v (rv_subZ rfl rfl (by first | omega | (simp; done) | (simp; omega))) (by decide) ?_
      refine st_v (rv_indexR1 (rd_own (i := 0) rfl) Tryd.underlying36 sz91 rfl rfl rfl (by first | omega | (rw [length_mixW (by omega)]; omega) | (simp <;> omega))) (by decide) ?_
      refine st_v (rv_load_rd (rd_own (i := 0) rfl) tyS91 rfl (get32 (by first | omega | (rw [length_mixW (by omega)]; omega) | (simp <;> omega)))) (by decide) ?_
      refine st_v (rv_indexR1 (rd_own (i := 0) rfl) Tryd.underlying36 sz91 rfl rfl rfl (by first | omega | (rw [length_mixW (by omega)]; omega) | (simp <;> omega))) (by decide) ?_
      refine st_storeOwn32 rfl rfl (i := 0) rfl sz91 (by first | omega | (rw [length_mixW (by omega)]; omega) | (simp <;> omega)) rfl ?_
      refine st_nil ?_
      refine st_in_normal ?_
      refine st_then ?_
      refine st_region ?_
      refine st_v (rv_move rfl) (by decide) ?_
      first | refine st_v (rv_subN (b := 1) rfl rfl (by first | omega | (simp; done) | (simp; omega))) (by decide) ?_ | refine st_v (rv_subZ rfl rfl (by first | omega | (simp; done) | (simp; omega))) (by decide) ?_
      refine st_v (rv_assign rfl) (by decide) ?_
      refine st_nil ?_
      refine st_then ?_
      exact st_again (t + 1) (by omega) (by omega) (.cons rfl (.cons rfl (.cons rfl (.cons rfl (.cons rfl (SubE.cons (congrArg some (congrArg (fun z : Nat => vI z) (by omega))) (.nil _))))))) (fun _ hM => hM)
    · -- t30 False
      try simp only [z1, z2, z3, z4, z5, z6, z7, z8, z9, z10, z11, z12, z13, z14] at hc30
      obtain rfl : t = 8 := by omega
      refine st_exit ?_
      refine st_then_exit ?_
      refine st_then_exit ?_
      refine st_in_exit ?_
      refine st_then ?_
      refine st_region ?_
      refine st_v (rv_move rfl) (by decide) ?_
      refine st_v (rv_move rfl) (by decide) ?_
      refine st_v (rv_move rfl) (by decide) ?_
      refine st_v (rv_indexR1 (rd_old hA hA.all) Tryd.underlying36 sz91 rfl rfl rfl (by first | omega | (rw [length_mixW (by omega)]; omega) | (simp <;> omega))) (by decide) ?_
      refine st_v (rv_load_rd (rd_old hA hA.all) tyS91 rfl (get32 (by first | omega | (rw [length_mixW (by omega)]; omega) | (simp <;> omega)))) (by decide) ?_
      rw [getD_n32 hlA]
      refine st_v (rv_indexR1 (rd_own (i := 0) rfl) Tryd.underlying36 sz91 rfl rfl (j := 0) rfl (by first | omega | (rw [length_mixW (by omega)]; omega) | (simp <;> omega))) (by decide) ?_
      refine st_storeOwn32 rfl rfl (i := 0) rfl sz91 (by first | omega | (rw [length_mixW (by omega)]; omega) | (simp <;> omega)) rfl ?_
      refine st_nil ?_
      refine st_in_normal ?_
      refine st_then ?_
      refine st_region ?_
      refine st_v (rv_move rfl) (by decide) ?_
      refine st_v (rv_subZ rfl rfl (by omega)) (by decide) ?_
      refine st_v (rv_assign rfl) (by decide) ?_
      refine st_nil ?_
      refine st_then ?_
      rw [show la - (7 - (j + 1)) = la - (7 - j) + 1 by omega]
      rw [show la - (7 - j) + 1 - 1 = la - (7 - j) by omega]
      rw [sh_set]
      exact st_again j (by omega) (by omega) (.cons rfl (.cons rfl (.cons rfl (SubE.cons (congrArg some (congrArg (fun z : Nat => vI z) (by omega))) (.cons rfl (.nil _)))))) (fun _ hM => hM)
  · -- t24 False
    try simp only [z1, z2, z3, z4, z5, z6, z7, z8, z9, z10, z11, z12, z13, z14] at hc24
    obtain ⟨N, hN⟩ : ∃ N, N = la - (7 - k) := ⟨_, rfl⟩
    have hA7 := top7 hlA hN (by omega)
    rw [← hN]
    clear hc24
    refine st_exit ?_
    refine st_then_exit ?_
    refine st_then_exit ?_
    refine st_in_exit ?_
    refine st_then ?_
    refine st_seq ?_
    refine st_seq ?_
    refine st_region ?_
    refine st_v (rv_move rfl) (by decide) ?_
    first | refine st_v (rv_mulN (a := 32) rfl rfl (by first | omega | (simp; done) | (simp; omega))) (by decide) ?_ | refine st_v (rv_mulZ rfl rfl (by first | omega | (simp; done) | (simp; omega))) (by decide) ?_
    refine st_v (rv_subZ rfl rfl (by omega)) (by decide) ?_
    refine st_v (rv_assign rfl) (by decide) ?_
    refine st_nil ?_
    refine st_then ?_
    refine st_block ?_
    refine st_loopA (σ := Nat) [(0, kst _), (1, kst _), (5, kst _), (9, fun k => vI ((k : Nat) - 1 : Int))] [fun k => own v1 91 1 9 ((n32 9 (A / 2 ^ k % M)).map U32)] (fun k => k ≤ 32 * N) (fun k => k) (32 * N) (by omega) (.cons rfl (.cons rfl (.cons rfl (.cons rfl (.nil _))))) (by intro w hM; dsimp only [List.map, kst]; rw [← W32_pow, Nat.mod_eq_of_lt (Nat.lt_of_lt_of_le hA7 hM7)]; exact hM) ?_
    intro k hI
    try dsimp only at hI
    dsimp only [List.map, kst]
    refine st_seq ?_
    refine st_seq ?_
    refine st_region ?_
    refine st_v (rv_move rfl) (by decide) ?_
    refine st_v (rv_geqZ rfl rfl) (by decide) ?_
    refine st_nil ?_
    refine st_then ?_
    refine st_cond rfl (fun hc51 => ?_) (fun hc51 => ?_)
    · -- t51 True
      try simp only [z1, z2, z3, z4, z5, z6, z7, z8, z9, z10, z11, z12, z13, z14] at hc51
      obtain ⟨j, rfl⟩ : ∃ j, k = j + 1 := ⟨k - 1, by omega⟩
      rw [dn_succ]
      have hc1 : A / 2 ^ j % 2 ≤ 1 := by omega
      have hX9 := mod_lt9 (A := A) (j := j) hM0 hM8
      have hstp := mod_step (A := A) (j := j) hM0
      refine st_skip ?_
      refine st_then ?_
      refine st_seq ?_
      refine st_block ?_
      refine st_seq ?_
      refine st_region ?_
      refine st_v (rv_move rfl) (by decide) ?_
      refine st_v (rv_move rfl) (by decide) ?_
      refine st_v (rv_quoN (b := 32) rfl rfl (by first | omega | (simp; done) | (simp; omega))) (by decide) ?_
      refine st_v (rv_indexR1 (rd_old hA hA.all) Tryd.underlying36 sz91 rfl rfl rfl (by first | omega | (rw [length_mixW (by omega)]; omega) | (simp <;> omega))) (by decide) ?_
      refine st_v (rv_load_rd (rd_old hA hA.all) tyS91 rfl (get32 (by first | omega | (rw [length_mixW (by omega)]; omega) | (simp <;> omega)))) (by decide) ?_
      rw [getD_n32 hlA]
      refine st_v (rv_move rfl) (by decide) ?_
      refine st_v (rv_remN (b := 32) rfl rfl (by first | omega | (simp; done) | (simp; omega))) (by decide) ?_
      refine st_v (rv_shr32 rfl rfl rfl) (by decide) ?_
      refine st_v (rv_and32 (b := 1#32) rfl rfl) (by decide) ?_
      rw [bit32]
      refine st_v (rv_assign rfl) (by decide) ?_
      refine st_nil ?_
      refine st_then ?_
      refine st_seq ?_
      refine st_seq ?_
      refine st_region ?_
      refine st_v (rv_assign rfl) (by decide) ?_
      refine st_nil ?_
      refine st_then ?_
      refine st_block ?_
      refine st_loopA (σ := Nat) [(0, kst _), (1, kst _), (5, kst _), (9, kst _), (10, fun t => U32 (BitVec.ofNat 32 (cDb (A / 2 ^ (j + 1) % M) (A / 2 ^ j % 2) t))), (11, fun t => vI (t : Nat))] [fun t => own v1 91 1 9 ((mixW 9 (2 * (A / 2 ^ (j + 1) % M) + A / 2 ^ j % 2) (A / 2 ^ (j + 1) % M) t).map U32)] (fun t => t ≤ 9) (fun t => 9 - t) 0 (by omega) (.cons rfl (.cons rfl (.cons rfl (.cons rfl (SubE.cons (by dsimp only; rw [cDb_zero]; rfl) (.cons rfl (.nil _))))))) (by intro w hM; dsimp only [List.map, kst]; rw [mixW_zero]; exact hM) ?_
      intro t hI
      try dsimp only at hI
      dsimp only [List.map, kst]
      refine st_seq ?_
      refine st_seq ?_
      refine st_region ?_
      refine st_v (rv_move rfl) (by decide) ?_
      refine st_v (rv_lssZ rfl rfl) (by decide) ?_
      refine st_nil ?_
      refine st_then ?_
      refine st_cond rfl (fun hc64 => ?_) (fun hc64 => ?_)
      · -- t64 True
        try simp only [z1, z2, z3, z4, z5, z6, z7, z8, z9, z10, z11, z12, z13, z14] at hc64
        refine st_skip ?_
        refine st_then ?_
        refine st_seq ?_
        refine st_block ?_
        refine st_seq ?_
        refine st_region ?_
        refine st_v (rv_move rfl) (by decide) ?_
        refine st_v (rv_move rfl) (by decide) ?_
        refine st_v (rv_indexR1 (rd_own (i := 0) rfl) Tryd.underlying36 sz91 rfl rfl rfl (by first | omega | (rw [length_mixW (by omega)]; omega) | (simp <;> omega))) (by decide) ?_
        refine st_v (rv_load_rd (rd_own (i := 0) rfl) tyS91 rfl (get32 (by first | omega | (rw [length_mixW (by omega)]; omega) | (simp <;> omega)))) (by decide) ?_
        rw [getD_mixW (show t ≤ 9 by omega) t (by omega), if_neg (Nat.lt_irrefl _)]
        refine st_v (rv_shr32 (s := 31) rfl rfl rfl) (by decide) ?_
        rw [dbl_next hc1 t]
        refine st_v (rv_assign rfl) (by decide) ?_
        refine st_nil ?_
        refine st_then ?_
        refine st_seq ?_
        refine st_region ?_
        refine st_v (rv_move rfl) (by decide) ?_
        refine st_v (rv_move rfl) (by decide) ?_
        refine st_v (rv_move rfl) (by decide) ?_
        refine st_v (rv_move rfl) (by decide) ?_
        refine st_v (rv_indexR1 (rd_own (i := 0) rfl) Tryd.underlying36 sz91 rfl rfl rfl (by first | omega | (rw [length_mixW (by omega)]; omega) | (simp <;> omega))) (by decide) ?_
        refine st_v (rv_load_rd (rd_own (i := 0) rfl) tyS91 rfl (get32 (by first | omega | (rw [length_mixW (by omega)]; omega) | (simp <;> omega)))) (by decide) ?_
        rw [getD_mixW (show t ≤ 9 by omega) t (by omega), if_neg (Nat.lt_irrefl _)]
        refine st_v (rv_shl32 (s := 1) rfl rfl rfl) (by decide) ?_
        refine st_v (rv_move rfl) (by decide) ?_
        refine st_v (rv_or32 rfl rfl) (by decide) ?_
        rw [dbl_word hc1 t]
        refine st_v (rv_indexR1 (rd_own (i := 0) rfl) Tryd.underlying36 sz91 rfl rfl rfl (by first | omega | (rw [length_mixW (by omega)]; omega) | (simp <;> omega))) (by decide) ?_
        refine st_storeOwn32 rfl rfl (i := 0) rfl sz91 (by first | omega | (rw [length_mixW (by omega)]; omega) | (simp <;> omega)) rfl ?_
        refine st_nil ?_
        refine st_then ?_
        refine st_region ?_
        refine st_v (rv_move rfl) (by decide) ?_
        refine st_v (rv_assign rfl) (by decide) ?_
        refine st_nil ?_
        refine st_in_normal ?_
        refine st_then ?_
        refine st_region ?_
        refine st_v (rv_move rfl) (by decide) ?_
        first | refine st_v (rv_addN (b := 1) rfl rfl (by first | omega | (simp; done) | (simp; omega))) (by decide) ?_ | refine st_v (rv_addZ rfl rfl (by first | omega | (simp; done) | (simp; omega))) (by decide) ?_
        refine st_v (rv_assign rfl) (by decide) ?_
        refine st_nil ?_
        refine st_then ?_
        rw [mixW_set (by omega)]
        exact st_again (t + 1) (by omega) (by omega) (.cons rfl (.cons rfl (.cons rfl (.cons rfl (.cons rfl (.cons rfl (.nil _))))))) (fun _ hM => hM)
      · -- t64 False
        try simp only [z1, z2, z3, z4, z5, z6, z7, z8, z9, z10, z11, z12, z13, z14] at hc64
        obtain rfl : t = 9 := by omega
        rw [mixW_all]
        refine st_exit ?_
        refine st_then_exit ?_
        refine st_then_exit ?_
        refine st_in_exit ?_
        refine st_then ?_
        refine st_seq ?_
        refine st_region ?_
        refine st_v (rv_move rfl) (by decide) ?_
        refine st_v (rv_move rfl) (by decide) ?_
        refine st_call0 cal70 rfl (fun w hM => (rLess_calls _ _ 9 8 (2 * (A / 2 ^ (j + 1) % M) + A / 2 ^ j % 2) M (by decide) (by decide) hX9 hM8 w ((rd_own (i := 0) rfl) w hM) ((rd_old hB hB.all) w hM))) (by decide) ?_
        refine st_v (rv_assign rfl) (by decide) ?_
        refine st_nil ?_
        refine st_then ?_
        refine st_seq ?_
        refine st_seq ?_
        refine st_region ?_
        refine st_v (rv_move rfl) (by decide) ?_
        refine st_nil ?_
        refine st_then ?_
        refine st_cond rfl (fun hc86 => ?_) (fun hc86 => ?_)
        · -- t86 True
          try simp only [z1, z2, z3, z4, z5, z6, z7, z8, z9, z10, z11, z12, z13, z14] at hc86
          rw [if_pos hc86] at hstp
          refine st_exit ?_
          refine st_then_exit ?_
          refine st_in_exit ?_
          refine st_then ?_
          refine st_region ?_
          refine st_v (rv_move rfl) (by decide) ?_
          refine st_v (rv_subZ rfl rfl (by omega)) (by decide) ?_
          refine st_v (rv_assign rfl) (by decide) ?_
          refine st_nil ?_
          refine st_then ?_
          exact st_again j (by omega) (by omega) (.cons rfl (.cons rfl (.cons rfl (.cons rfl (.nil _))))) (by intro w hM; (rw [hstp]); exact hM)
        · -- t86 False
          try simp only [z1, z2, z3, z4, z5, z6, z7, z8, z9, z10, z11, z12, z13, z14] at hc86
          rw [if_neg (by omega)] at hstp
          refine st_skip ?_
          refine st_then ?_
          refine st_seq ?_
          refine st_region ?_
          refine st_v (rv_assign rfl) (by decide) ?_
          refine st_nil ?_
          refine st_then ?_
          refine st_seq ?_
          refine st_region ?_
          refine st_v (rv_assign rfl) (by decide) ?_
          refine st_nil ?_
          refine st_then ?_
          refine st_block ?_
          refine st_loopA (σ := Nat) [(0, kst _), (1, kst _), (5, kst _), (9, kst _), (14, fun t => vI (cSub (2 * (A / 2 ^ (j + 1) % M) + A / 2 ^ j % 2) M t)), (15, fun t => vI (t : Nat))] [fun t => own v1 91 1 9 ((mixW 9 ((2 * (A / 2 ^ (j + 1) % M) + A / 2 ^ j % 2) - M) (2 * (A / 2 ^ (j + 1) % M) + A / 2 ^ j % 2) t).map U32)] (fun t => t ≤ 9) (fun t => 9 - t) 0 (by omega) (.cons rfl (.cons rfl (.cons rfl (.cons rfl (SubE.cons (by dsimp only; rw [show cSub (2 * (A / 2 ^ (j + 1) % M) + A / 2 ^ j % 2) M 0 = 0 by simp [cSub, Nat.mod_one]]; rfl) (.cons rfl (.nil _))))))) (by intro w hM; dsimp only [List.map, kst]; rw [mixW_zero]; exact hM) ?_
          intro t hI
          try dsimp only at hI
          dsimp only [List.map, kst]
          have hcs := cSub_ge (2 * (A / 2 ^ (j + 1) % M) + A / 2 ^ j % 2) M t
          have hw1 := ((mixW 9 ((2 * (A / 2 ^ (j + 1) % M) + A / 2 ^ j % 2) - M) (2 * (A / 2 ^ (j + 1) % M) + A / 2 ^ j % 2) t).getD t 0#32).isLt
          have hw2 := (BitVec.ofNat 32 (M / W32 ^ t)).isLt
          refine st_seq ?_
          refine st_seq ?_
          refine st_region ?_
          refine st_v (rv_move rfl) (by decide) ?_
          refine st_v (rv_lssZ rfl rfl) (by decide) ?_
          refine st_nil ?_
          refine st_then ?_
          refine st_cond rfl (fun hc88 => ?_) (fun hc88 => ?_)
          · -- t88 True
            try simp only [z1, z2, z3, z4, z5, z6, z7, z8, z9, z10, z11, z12, z13, z14] at hc88
            refine st_skip ?_
            refine st_then ?_
            refine st_seq ?_
            refine st_block ?_
            refine st_seq ?_
            refine st_drawStart mixed ?_
            refine st_drawSeg1 (E0 := [(0, _), (1, _), (5, _), (9, _), (14, _), (15, _)]) [kpeq _, kpeq _, kpeq _, kpeq _, kpeq _, kpeq _, kpeq _, kpeq _, kpeq _, kpeq _, kpeq _] 0 11 [0, 0, 0, 6, 14, 30, 63, 0, 0, 384, 896, 2047, 4095] [0, 1, 5, 9, 14, 15] (by kernel_rfl) (by decide) (by kernel_rfl) (.cons rfl (.cons rfl (.cons rfl (.cons rfl (.cons rfl (.cons rfl (.nil _))))))) rfl rfl (hall_cons (hop_mv rfl (by decide) rfl rfl) (hall_cons (hop_mv rfl (by decide) rfl rfl) (hall_cons (hop_mv rfl (by decide) rfl rfl) (hall_cons (hop_val [(1, 92, _), (2, 93, _)] [] rfl rfl rfl (by decide) rfl (jcons rfl rfl rfl rfl rfl (jcons rfl rfl rfl rfl rfl (jnil))) (xnil) (fun _ _ _ _ => does_v (rv_indexR1 (rd_own (i := 0) rfl) Tryd.underlying36 sz91 rfl rfl rfl (by first | omega | (rw [length_mixW (by omega)]; omega) | (simp <;> omega))))) (hall_cons (hop_val [(3, 94, _)] [] rfl rfl rfl (by decide) rfl (jcons rfl rfl rfl rfl rfl (jnil)) (xnil) (fun _ _ _ _ => does_v (rv_load_rd (rd_own (i := 0) rfl) tyS91 rfl (get32 (by first | omega | (rw [length_mixW (by omega)]; omega) | (simp <;> omega)))))) (hall_cons (hop_val [(4, 95, _)] [] rfl rfl rfl (by decide) rfl (jcons rfl rfl rfl rfl rfl (jnil)) (xnil) (fun _ _ _ _ => does_v (rv_conv32toI Tryd.underlying91 Tryd.underlying2 rfl (by exact Nat.le_trans (Nat.le_of_lt (BitVec.isLt _)) (by decide))))) (hall_cons (hop_val [(0, 91, _), (5, 96, _)] [] rfl rfl rfl (by decide) rfl (jcons rfl rfl rfl rfl rfl (jcons rfl rfl rfl rfl rfl (jnil))) (xnil) (fun _ _ _ _ => does_v (rv_addZ rfl rfl (by first | omega | (simp; done) | (simp; omega))))) (hall_cons (hop_mv rfl (by decide) rfl rfl) (hall_cons (hop_mv rfl (by decide) rfl rfl) (hall_cons (hop_val [(7, 98, _), (8, 99, _)] [] rfl rfl rfl (by decide) rfl (jcons rfl rfl rfl rfl rfl (jcons rfl rfl rfl rfl rfl (jnil))) (xnil) (fun _ _ _ _ => does_call0 cal112 rfl (fun w hM => (digit_calls _ 8 (M) t hM8 w ((rd_old hB hB.all) w hM))))) (hall_cons (hop_val [(9, 100, _)] [] rfl rfl rfl (by decide) rfl (jcons rfl rfl rfl rfl rfl (jnil)) (xnil) (fun _ _ _ _ => does_v (rv_conv32toI Tryd.underlying91 Tryd.underlying2 rfl (by exact Nat.le_trans (Nat.le_of_lt (BitVec.isLt _)) (by decide))))) (hall_nil)))))))))))) (draw_end1 [(6, 97, _), (10, 101, _)] (jcons rfl rfl rfl rfl rfl (jcons rfl rfl rfl rfl rfl (jnil))) ?_)
            refine st_drawTail (N := 11) [0, 0, 0, 6, 14, 30, 63, 0, 0, 384, 896, 2047, 4095] (by kernel_rfl) (by kernel_rfl) ?_
            first | refine st_v (rv_subN rfl rfl (by first | omega | (simp; done) | (simp; omega))) (by decide) ?_ | refine st_v (rv_subZ rfl rfl (by first | omega | (simp; done) | (simp; omega))) (by decide) ?_
            refine st_v (rv_assign rfl) (by decide) ?_
            refine st_nil ?_
            refine st_then ?_
            refine st_seq ?_
            refine st_region ?_
            refine st_v (rv_move rfl) (by decide) ?_
            rw [getD_mixW (show t ≤ 9 by omega) t (by omega), if_neg (Nat.lt_irrefl _), ofNat32_toNat, ofNat32_toNat]
            refine st_v (rv_move rfl) (by decide) ?_
            refine st_v (rv_move rfl) (by decide) ?_
            refine st_v (rv_convZto32 Tryd.underlying2 Tryd.underlying91 rfl) (by decide) ?_
            rw [minus_word _ M t (by omega)]
            refine st_v (rv_indexR1 (rd_own (i := 0) rfl) Tryd.underlying36 sz91 rfl rfl rfl (by first | omega | (rw [length_mixW (by omega)]; omega) | (simp <;> omega))) (by decide) ?_
            refine st_storeOwn32 rfl rfl (i := 0) rfl sz91 (by first | omega | (rw [length_mixW (by omega)]; omega) | (simp <;> omega)) rfl ?_
            refine st_nil ?_
            refine st_then ?_
            refine st_region ?_
            refine st_v (rv_move rfl) (by decide) ?_
            refine st_v (rv_shrZ32 rfl rfl) (by decide) ?_
            rw [← cSub_next]
            refine st_v (rv_assign rfl) (by decide) ?_
            refine st_nil ?_
            refine st_in_normal ?_
            refine st_then ?_
            refine st_region ?_
            refine st_v (rv_move rfl) (by decide) ?_
            first | refine st_v (rv_addN (b := 1) rfl rfl (by first | omega | (simp; done) | (simp; omega))) (by decide) ?_ | refine st_v (rv_addZ rfl rfl (by first | omega | (simp; done) | (simp; omega))) (by decide) ?_
            refine st_v (rv_assign rfl) (by decide) ?_
            refine st_nil ?_
            refine st_then ?_
            rw [mixW_set (by omega)]
            exact st_again (t + 1) (by omega) (by omega) (.cons rfl (.cons rfl (.cons rfl (.cons rfl (.cons rfl (.cons rfl (.nil _))))))) (fun _ hM => hM)
          · -- t88 False
            try simp only [z1, z2, z3, z4, z5, z6, z7, z8, z9, z10, z11, z12, z13, z14] at hc88
            obtain rfl : t = 9 := by omega
            rw [mixW_all]
            refine st_exit ?_
            refine st_then_exit ?_
            refine st_then_exit ?_
            refine st_in_exit ?_
            refine st_in_normal ?_
            refine st_then ?_
            refine st_region ?_
            refine st_v (rv_move rfl) (by decide) ?_
            refine st_v (rv_subZ rfl rfl (by omega)) (by decide) ?_
            refine st_v (rv_assign rfl) (by decide) ?_
            refine st_nil ?_
            refine st_then ?_
            exact st_again j (by omega) (by omega) (.cons rfl (.cons rfl (.cons rfl (.cons rfl (.nil _))))) (by intro w hM; (rw [hstp]); exact hM)
    · -- t51 False
      try simp only [z1, z2, z3, z4, z5, z6, z7, z8, z9, z10, z11, z12, z13, z14] at hc51
      obtain rfl : k = 0 := by omega
      refine st_exit ?_
      refine st_then_exit ?_
      refine st_then_exit ?_
      refine st_in_exit ?_
      refine st_then ?_
      refine st_seq ?_
      refine st_region ?_
      refine st_v (rv_move rfl) (by decide) ?_
      refine st_v (rv_sliceR (rd_own (i := 0) rfl) Tryd.underlying36 sz91 rfl evB_none (evB_some (k := 8) rfl rfl) (by first | omega | (rw [length_mixW (by omega)]; omega) | (simp <;> omega)) (by first | omega | (rw [length_mixW (by omega)]; omega) | (simp <;> omega))) (by decide) ?_
      refine st_v (rv_assign rfl) (by decide) ?_
      refine st_nil ?_
      refine st_then ?_
      refine st_ret ?_
      exact st_done rfl rfl (fun w hM => ⟨_, rfl, by
    have h1 := hM.ownHead' (i := 0) (k := 8) rfl (by decide) (by decide)
    rw [← List.map_take, n32_take8, Nat.pow_zero, Nat.div_one] at h1
    exact h1⟩)
end Go.Proofs.YtjhjjhpfjadjpaaDoor
