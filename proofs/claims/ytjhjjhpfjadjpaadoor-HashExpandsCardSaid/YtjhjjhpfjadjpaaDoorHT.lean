/- Walks: what functions of the given program do, operation by operation. Written by wip/gen. -/
import Derived.Test.YtjhjjhpfjadjpaaDoorHS
namespace Go.Proofs.YtjhjjhpfjadjpaaDoor
set_option linter.all false
open Go
set_option maxRecDepth 100000 in
set_option maxHeartbeats 4000000 in
theorem with0_calls (s : List (BitVec 8)) (vK vH : Value) (K H : List (BitVec 64)) (hs : s.length ≤ 900000) (hK : 16 ≤ K.length ∧ K.length ≤ 100) (hH : H.length = 8) (w : World) (hKR : Rd w vK K.length 1 (K.map U64)) (hHR : Rd w vH H.length 1 (H.map U64)) : Calls Tryd.prog 85 #[vI (0 : Nat), vS s, vK, vH] w (fun r w' => r = .returned (vS (withR 32 32 K H (padW s 64 8))) ∧ Mem (All w) w w' []) := by
  obtain ⟨hK16, hK100⟩ := hK
  obtain ⟨M, hMd⟩ : ∃ M, (padW s 64 8).length / (16 * nbR 32) = M := ⟨_, rfl⟩
  have hpl : (padW s 64 8).length = 64 * M := by have h1 := padW64 s; have e : 16 * nbR 32 = 64 := rfl; rw [e] at hMd; omega
  have hpm : (padW s 64 8).length ≤ 1000000 := by rw [length_padW, zcount]; omega
  refine calls_of_st (n := 291) (args := [vI (0 : Nat), vS s, vK, vH]) Tryd.func85 rfl Tryd.ntmps85 (Nat.le_of_ble_eq_true rfl) (Mem.all w) ?_
  refine st_seq ?_
  refine st_region ?_
  refine st_v (rv_assign rfl) (by decide) ?_
  refine st_nil ?_
  refine st_then ?_
  refine st_seq ?_
  refine st_region ?_
  refine st_v (rv_to (u := vI (64 : Nat)) (rv_assign rfl) rfl) (by decide) ?_
  refine st_nil ?_
  refine st_then ?_
  refine st_seq ?_
  refine st_region ?_
  refine st_buildSlice Tryd.underlying47 tyZ3 rfl rfl (by decide) (cs := #[_, _, _]) rfl (by decide) (fun b1 hb1 => ?_)
  refine st_buildSlice Tryd.underlying47 tyZ3 rfl rfl (by decide) (cs := #[_, _, _]) rfl (by decide) (fun b2 hb2 => ?_)
  refine st_buildSlice Tryd.underlying47 tyZ3 rfl rfl (by decide) (cs := #[_, _, _]) rfl (by decide) (fun b3 hb3 => ?_)
  refine st_buildSlice Tryd.underlying47 tyZ3 rfl rfl (by decide) (cs := #[_, _, _]) rfl (by decide) (fun b4 hb4 => ?_)
  refine st_buildO Tryd.underlying169 tyZ47 rfl rfl (by decide) (cs := #[_, _, _, _]) (by first | rfl | (simp only [fillL, rfl, rfl, rfl, rfl] <;> rfl)) rfl (by decide) (fun v5 => ?_)
  refine st_v (rv_assign rfl) (by decide) ?_
  refine st_nil ?_
  refine st_then ?_
  refine st_seq ?_
  refine st_region ?_
  refine st_v (rv_to (u := U64 18446744073709551615#64) (rv_assign rfl) rfl) (by decide) ?_
  refine st_nil ?_
  refine st_then ?_
  refine st_seq ?_
  refine st_region ?_
  refine st_v (rv_to (u := vI (0 : Nat)) (rv_assign rfl) rfl) (by decide) ?_
  refine st_nil ?_
  refine st_then ?_
  refine st_seq ?_
  refine st_seq ?_
  refine st_region ?_
  refine st_v (rv_move rfl) (by decide) ?_
  refine st_v (rv_eqlZ rfl rfl) (by decide) ?_
  refine st_nil ?_
  refine st_then ?_
  refine st_true rfl ?_
  refine st_seq ?_
  refine st_region ?_
  refine st_v (rv_to (u := vI (32 : Nat)) (rv_assign rfl) rfl) (by decide) ?_
  refine st_nil ?_
  refine st_then ?_
  refine st_seq ?_
  refine st_region ?_
  refine st_buildSlice Tryd.underlying47 tyZ3 rfl rfl (by decide) (cs := #[_, _, _]) rfl (by decide) (fun b6 hb6 => ?_)
  refine st_buildSlice Tryd.underlying47 tyZ3 rfl rfl (by decide) (cs := #[_, _, _]) rfl (by decide) (fun b7 hb7 => ?_)
  refine st_buildSlice Tryd.underlying47 tyZ3 rfl rfl (by decide) (cs := #[_, _, _]) rfl (by decide) (fun b8 hb8 => ?_)
  refine st_buildSlice Tryd.underlying47 tyZ3 rfl rfl (by decide) (cs := #[_, _, _]) rfl (by decide) (fun b9 hb9 => ?_)
  refine st_buildO Tryd.underlying169 tyZ47 rfl rfl (by decide) (cs := #[_, _, _, _]) (by first | rfl | (simp only [fillL, rfl, rfl, rfl, rfl] <;> rfl)) rfl (by decide) (fun v10 => ?_)
  refine st_v (rv_assign rfl) (by decide) ?_
  refine st_nil ?_
  refine st_then ?_
  refine st_seq ?_
  refine st_region ?_
  refine st_v (rv_to (u := U64 4294967295#64) (rv_assign rfl) rfl) (by decide) ?_
  refine st_nil ?_
  refine st_then ?_
  refine st_region ?_
  refine st_v (rv_to (u := vI (32 : Nat)) (rv_assign rfl) rfl) (by decide) ?_
  refine st_nil ?_
  refine st_then ?_
  refine st_seq ?_
  refine st_region ?_
  refine st_make64 Tryd.underlying121 tyZ77 (len := 8) (cap := 8) rfl rfl (by omega) (by omega) (by omega) (by decide) (fun b11 hb11 => ?_)
  refine st_v (rv_assign rfl) (by decide) ?_
  refine st_nil ?_
  refine st_then ?_
  refine st_seq ?_
  refine st_seq ?_
  refine st_region ?_
  refine st_v (rv_assign rfl) (by decide) ?_
  refine st_nil ?_
  refine st_then ?_
  refine st_block ?_
  refine st_loopA (σ := Nat) [(0, kst _), (1, kst _), (2, kst _), (3, kst _), (9, kst _), (10, kst _), (11, kst _), (12, kst _), (13, kst _), (14, fun i => vI i)] [fun i => blk b11 (c64 (initR 32 H i)) 77, kst _, kst _, kst _, kst _, kst _, kst _, kst _, kst _, kst _, kst _] (fun i => i ≤ 8) (fun i => 8 - i) 0 (by omega) (.cons rfl (.cons rfl (.cons rfl (.cons rfl (.cons rfl (.cons rfl (.cons rfl (.cons rfl (.cons rfl (.cons rfl (.nil _))))))))))) (fun _ hM => hM) ?_
  intro i hI
  try dsimp only at hI
  dsimp only [List.map, kst]
  refine st_seq ?_
  refine st_seq ?_
  refine st_region ?_
  refine st_v (rv_move rfl) (by decide) ?_
  refine st_v (rv_lssZ rfl rfl) (by decide) ?_
  refine st_nil ?_
  refine st_then ?_
  refine st_cond rfl (fun hc43 => ?_) (fun hc43 => ?_)
  · -- t43 True
    try simp only [z1, z2, z3, z4, z5, z6, z7, z8, z9, z10, z11, z12, z13, z14] at hc43
    refine st_skip ?_
    refine st_then ?_
    refine st_seq ?_
    refine st_block ?_
    refine st_region ?_
    refine st_v (rv_move rfl) (by decide) ?_
    refine st_v (rv_move rfl) (by decide) ?_
    refine st_v (rv_move rfl) (by decide) ?_
    refine st_v (rv_move rfl) (by decide) ?_
    refine st_v (rv_indexR1 (rd_old hHR hHR.all) Tryd.underlying121 sz77 rfl rfl rfl (by first | omega | (simp [hH] <;> omega))) (by decide) ?_
    refine st_v (rv_load_rd (rd_old hHR hHR.all) tyS77 rfl (get64 (by first | omega | (simp [hH] <;> omega)))) (by decide) ?_
    refine st_v (rv_move rfl) (by decide) ?_
    refine st_v (rv_shr64 rfl rfl rfl) (by decide) ?_
    refine st_v (rv_indexS Tryd.underlying121 sz77 rfl rfl rfl (by first | omega | (simp [hH] <;> omega)) (by first | exact (Nat.zero_add _).trans (Nat.mul_one _) | exact congrArg _ (Nat.mul_one _) | rfl)) (by decide) ?_
    refine st_store64 rfl rfl (i := 0) rfl sz77 (by first | omega | (simp [hH] <;> omega)) (l' := [_, _, _, _, _, _, _, _, _, _, _]) rfl ?_
    refine st_nil ?_
    refine st_in_normal ?_
    refine st_then ?_
    refine st_region ?_
    refine st_v (rv_move rfl) (by decide) ?_
    first | refine st_v (rv_addN (b := 1) rfl rfl (by first | omega | (simp; done) | (simp; omega))) (by decide) ?_ | refine st_v (rv_addZ rfl rfl (by first | omega | (simp; done) | (simp; omega))) (by decide) ?_
    refine st_v (rv_assign rfl) (by decide) ?_
    refine st_nil ?_
    refine st_then ?_
    exact st_again (i + 1) (by omega) (by omega) (.cons rfl (.cons rfl (.cons rfl (.cons rfl (.cons rfl (.cons rfl (.cons rfl (.cons rfl (.cons rfl (.cons rfl (.nil _))))))))))) (fun _ hM => hM)
  · -- t43 False
    try simp only [z1, z2, z3, z4, z5, z6, z7, z8, z9, z10, z11, z12, z13, z14] at hc43
    obtain rfl : i = 8 := by omega
    refine st_exit ?_
    refine st_then_exit ?_
    refine st_then_exit ?_
    refine st_in_exit ?_
    refine st_then ?_
    refine st_seq ?_
    refine st_region ?_
    refine st_v (rv_move rfl) (by decide) ?_
    refine st_v (rv_move rfl) (by decide) ?_
    refine st_call0 cal123 rfl (fun w hM => (padded0_calls s hs w)) (by decide) ?_
    refine st_v (rv_assign rfl) (by decide) ?_
    refine st_nil ?_
    refine st_then ?_
    refine st_seq ?_
    refine st_region ?_
    refine st_v (rv_move rfl) (by decide) ?_
    refine st_v (rv_to (u := vI (4 : Nat)) (rv_quoN (a := 32) (b := 8) rfl rfl (by omega)) (by rfl)) (by decide) ?_
    refine st_v (rv_assign rfl) (by decide) ?_
    refine st_nil ?_
    refine st_then ?_
    refine st_seq ?_
    refine st_seq ?_
    refine st_region ?_
    refine st_v (rv_assign rfl) (by decide) ?_
    refine st_nil ?_
    refine st_then ?_
    refine st_block ?_
    refine st_loopA (σ := Nat) [(0, kst _), (2, kst _), (9, kst _), (10, kst _), (11, kst _), (12, kst _), (13, kst _), (15, kst _), (16, kst _), (17, fun m => vI (64 * m : Nat))] [fun m => blk b11 (c64 (feedR 32 K H (padW s 64 8) m)) 77, kst _, kst _, kst _, kst _, kst _, kst _, kst _, kst _, kst _, kst _] (fun m => m ≤ M) (fun m => M - m) 0 (by omega) (.cons rfl (.cons rfl (.cons rfl (.cons rfl (.cons rfl (.cons rfl (.cons rfl (.cons rfl (.cons rfl (.cons rfl (.nil _))))))))))) (fun _ hM => hM) ?_
    intro m hI
    try dsimp only at hI
    dsimp only [List.map, kst]
    refine st_seq ?_
    refine st_seq ?_
    refine st_region ?_
    refine st_v (rv_move rfl) (by decide) ?_
    refine st_v (rv_move rfl) (by decide) ?_
    refine st_v (rv_lenB Tryd.underlying9 rfl) (by decide) ?_
    refine st_v (rv_lssZ rfl rfl) (by decide) ?_
    refine st_nil ?_
    refine st_then ?_
    refine st_cond rfl (fun hc63 => ?_) (fun hc63 => ?_)
    · -- t63 True
      try simp only [z1, z2, z3, z4, z5, z6, z7, z8, z9, z10, z11, z12, z13, z14] at hc63
      refine st_skip ?_
      refine st_then ?_
      refine st_seq ?_
      refine st_block ?_
      refine st_seq ?_
      refine st_region ?_
      refine st_v (rv_move rfl) (by decide) ?_
      refine st_v (rv_lenR (rd_old hKR hKR.all) Tryd.underlying121 rfl) (by decide) ?_
      refine st_make64 Tryd.underlying121 tyZ77 rfl rfl (by omega) (by omega) (by omega) (by decide) (fun b12 hb12 => ?_)
      refine st_v (rv_assign rfl) (by decide) ?_
      refine st_nil ?_
      refine st_then ?_
      refine st_seq ?_
      refine st_seq ?_
      refine st_region ?_
      refine st_v (rv_assign rfl) (by decide) ?_
      refine st_nil ?_
      refine st_then ?_
      refine st_block ?_
      refine st_loopA (σ := Nat) [(0, kst _), (2, kst _), (9, kst _), (10, kst _), (11, kst _), (12, kst _), (13, kst _), (15, kst _), (16, kst _), (17, kst _), (18, kst _), (19, fun t => vI t)] [fun t => blk b12 (c64 (f16R 32 K (padW s 64 8) (64 * m) t)) 77, kst _, kst _, kst _, kst _, kst _, kst _, kst _, kst _, kst _, kst _, kst _] (fun t => t ≤ 16) (fun t => 16 - t) 0 (by omega) (.cons rfl (.cons rfl (.cons rfl (.cons rfl (.cons rfl (.cons rfl (.cons rfl (.cons rfl (.cons rfl (.cons rfl (.cons rfl (.cons rfl (.nil _))))))))))))) (fun _ hM => hM) ?_
      intro t hI
      try dsimp only at hI
      dsimp only [List.map, kst]
      refine st_seq ?_
      refine st_seq ?_
      refine st_region ?_
      refine st_v (rv_move rfl) (by decide) ?_
      refine st_v (rv_lssZ rfl rfl) (by decide) ?_
      refine st_nil ?_
      refine st_then ?_
      refine st_cond rfl (fun hc72 => ?_) (fun hc72 => ?_)
      · -- t72 True
        try simp only [z1, z2, z3, z4, z5, z6, z7, z8, z9, z10, z11, z12, z13, z14] at hc72
        refine st_skip ?_
        refine st_then ?_
        refine st_seq ?_
        refine st_block ?_
        refine st_seq ?_
        refine st_region ?_
        refine st_v (rv_assign rfl) (by decide) ?_
        refine st_nil ?_
        refine st_then ?_
        refine st_block ?_
        refine st_loopA (σ := Nat) [(0, kst _), (2, kst _), (9, kst _), (10, kst _), (11, kst _), (12, kst _), (13, kst _), (15, kst _), (16, kst _), (17, kst _), (18, kst _), (19, kst _), (20, fun i => vI i)] [fun i => blk b12 (c64 (accR 32 (padW s 64 8) (f16R 32 K (padW s 64 8) (64 * m) t) (64 * m) t i)) 77, kst _, kst _, kst _, kst _, kst _, kst _, kst _, kst _, kst _, kst _, kst _] (fun i => i ≤ 4) (fun i => 4 - i) 0 (by omega) (.cons rfl (.cons rfl (.cons rfl (.cons rfl (.cons rfl (.cons rfl (.cons rfl (.cons rfl (.cons rfl (.cons rfl (.cons rfl (.cons rfl (.cons rfl (.nil _)))))))))))))) (fun _ hM => hM) ?_
        intro i hI
        try dsimp only at hI
        dsimp only [List.map, kst]
        refine st_seq ?_
        refine st_seq ?_
        refine st_region ?_
        refine st_v (rv_move rfl) (by decide) ?_
        refine st_v (rv_move rfl) (by decide) ?_
        refine st_v (rv_lssZ rfl rfl) (by decide) ?_
        refine st_nil ?_
        refine st_then ?_
        refine st_cond rfl (fun hc77 => ?_) (fun hc77 => ?_)
        · -- t77 True
          try simp only [z1, z2, z3, z4, z5, z6, z7, z8, z9, z10, z11, z12, z13, z14] at hc77
          refine st_skip ?_
          refine st_then ?_
          refine st_seq ?_
          refine st_block ?_
          refine st_drawStart mixed ?_
          refine st_drawSeg1 (E0 := [(0, _), (2, _), (9, _), (10, _), (11, _), (12, _), (13, _), (15, _), (16, _), (17, _), (18, _), (19, _), (20, _)]) [kpeq _, kpeq _, kpeq _, kpeq _, kpeq _, kpeq _, kpeq _, kpeq _, kpeq _, kpeq _, kpeq _, kpeq _, kpeq _, kpeq _, kpeq _, kpeq _, kpeq _, kpeq _] 0 18 [0, 0, 0, 0, 12, 28, 60, 0, 0, 0, 0, 1536, 3840, 0, 16128, 32640, 65408, 131068, 262143, 524287] [0, 2, 9, 10, 11, 12, 13, 15, 16, 17, 18, 19, 20] (by kernel_rfl) (by decide) (by kernel_rfl) (.cons rfl (.cons rfl (.cons rfl (.cons rfl (.cons rfl (.cons rfl (.cons rfl (.cons rfl (.cons rfl (.cons rfl (.cons rfl (.cons rfl (.cons rfl (.nil _)))))))))))))) rfl rfl (hall_cons (hop_mv rfl (by decide) rfl rfl) (hall_cons (hop_mv rfl (by decide) rfl rfl) (hall_cons (hop_mv rfl (by decide) rfl rfl) (hall_cons (hop_mv rfl (by decide) rfl rfl) (hall_cons (hop_val [(2, 82, _), (3, 83, _)] [] rfl rfl rfl (by decide) rfl (jcons rfl rfl rfl rfl rfl (jcons rfl rfl rfl rfl rfl (jnil))) (xnil) (fun _ _ _ _ => does_v (rv_indexS Tryd.underlying121 sz77 rfl rfl rfl (by first | omega | (simp [hH] <;> omega)) (by first | exact (Nat.zero_add _).trans (Nat.mul_one _) | exact congrArg _ (Nat.mul_one _) | rfl)))) (hall_cons (hop_val [(4, 84, _)] [] rfl rfl rfl (by decide) rfl (jcons rfl rfl rfl rfl rfl (jnil)) (xnil) (fun _ _ _ _ => does_v (rv_load_blk tyS77 rfl (i := 0) rfl (cell64 (by first | omega | (simp [hH] <;> omega)))))) (hall_cons (hop_val [(5, 85, _)] [] rfl rfl rfl (by decide) rfl (jcons rfl rfl rfl rfl rfl (jnil)) (xnil) (fun _ _ _ _ => does_v (rv_shl64 (s := 8) rfl rfl rfl))) (hall_cons (hop_mv rfl (by decide) rfl rfl) (hall_cons (hop_mv rfl (by decide) rfl rfl) (hall_cons (hop_mv rfl (by decide) rfl rfl) (hall_cons (hop_mv rfl (by decide) rfl rfl) (hall_cons (hop_val [(9, 89, _), (10, 90, _)] [] rfl rfl rfl (by decide) rfl (jcons rfl rfl rfl rfl rfl (jcons rfl rfl rfl rfl rfl (jnil))) (xnil) (fun _ _ _ _ => does_v (rv_mulN rfl rfl (by first | omega | (simp; done) | (simp; omega))))) (hall_cons (hop_val [(8, 88, _), (11, 91, _)] [] rfl rfl rfl (by decide) rfl (jcons rfl rfl rfl rfl rfl (jcons rfl rfl rfl rfl rfl (jnil))) (xnil) (fun _ _ _ _ => does_v (rv_addN rfl rfl (by first | omega | (simp; done) | (simp; omega))))) (hall_cons (hop_mv rfl (by decide) rfl rfl) (hall_cons (hop_val [(12, 92, _), (13, 93, _)] [] rfl rfl rfl (by decide) rfl (jcons rfl rfl rfl rfl rfl (jcons rfl rfl rfl rfl rfl (jnil))) (xnil) (fun _ _ _ _ => does_v (rv_addN rfl rfl (by first | omega | (simp; done) | (simp; omega))))) (hall_cons (hop_val [(7, 87, _), (14, 94, _)] [] rfl rfl rfl (by decide) rfl (jcons rfl rfl rfl rfl rfl (jcons rfl rfl rfl rfl rfl (jnil))) (xnil) (fun _ _ _ _ => does_v (rv_indexB Tryd.underlying9 rfl rfl rfl (by first | omega | (simp [hH] <;> omega))))) (hall_cons (hop_val [(15, 95, _)] [] rfl rfl rfl (by decide) rfl (jcons rfl rfl rfl rfl rfl (jnil)) (xnil) (fun _ _ _ _ => does_v (rv_conv8to64 Tryd.underlying5 Tryd.underlying77 rfl))) (hall_cons (hop_val [(6, 86, _), (16, 96, _)] [] rfl rfl rfl (by decide) rfl (jcons rfl rfl rfl rfl rfl (jcons rfl rfl rfl rfl rfl (jnil))) (xnil) (fun _ _ _ _ => does_v (rv_or64 rfl rfl))) (hall_nil))))))))))))))))))) (draw_end1 [(0, 80, _), (1, 81, _), (17, 97, _)] (jcons rfl rfl rfl rfl rfl (jcons rfl rfl rfl rfl rfl (jcons rfl rfl rfl rfl rfl (jnil)))) ?_)
          refine st_drawTail (N := 18) [0, 0, 0, 0, 12, 28, 60, 0, 0, 0, 0, 1536, 3840, 0, 16128, 32640, 65408, 131068, 262143, 524287] (by kernel_rfl) (by kernel_rfl) ?_
          refine st_v (rv_indexS Tryd.underlying121 sz77 rfl rfl rfl (by first | omega | (simp [hH] <;> omega)) (by first | exact (Nat.zero_add _).trans (Nat.mul_one _) | exact congrArg _ (Nat.mul_one _) | rfl)) (by decide) ?_
          refine st_store64 rfl rfl (i := 0) rfl sz77 (by first | omega | (simp [hH] <;> omega)) (l' := [_, _, _, _, _, _, _, _, _, _, _, _]) rfl ?_
          refine st_nil ?_
          refine st_in_normal ?_
          refine st_then ?_
          refine st_region ?_
          refine st_v (rv_move rfl) (by decide) ?_
          first | refine st_v (rv_addN (b := 1) rfl rfl (by first | omega | (simp; done) | (simp; omega))) (by decide) ?_ | refine st_v (rv_addZ rfl rfl (by first | omega | (simp; done) | (simp; omega))) (by decide) ?_
          refine st_v (rv_assign rfl) (by decide) ?_
          refine st_nil ?_
          refine st_then ?_
          exact st_again (i + 1) (by omega) (by omega) (.cons rfl (.cons rfl (.cons rfl (.cons rfl (.cons rfl (.cons rfl (.cons rfl (.cons rfl (.cons rfl (.cons rfl (.cons rfl (.cons rfl (.cons rfl (.nil _)))))))))))))) (fun _ hM => hM)
        · -- t77 False
          try simp only [z1, z2, z3, z4, z5, z6, z7, z8, z9, z10, z11, z12, z13, z14] at hc77
          obtain rfl : i = 4 := by omega
          refine st_exit ?_
          refine st_then_exit ?_
          refine st_then_exit ?_
          refine st_in_exit ?_
          refine st_in_normal ?_
          refine st_then ?_
          refine st_region ?_
          refine st_v (rv_move rfl) (by decide) ?_
          first | refine st_v (rv_addN (b := 1) rfl rfl (by first | omega | (simp; done) | (simp; omega))) (by decide) ?_ | refine st_v (rv_addZ rfl rfl (by first | omega | (simp; done) | (simp; omega))) (by decide) ?_
          refine st_v (rv_assign rfl) (by decide) ?_
          refine st_nil ?_
          refine st_then ?_
          exact st_again (t + 1) (by omega) (by omega) (.cons rfl (.cons rfl (.cons rfl (.cons rfl (.cons rfl (.cons rfl (.cons rfl (.cons rfl (.cons rfl (.cons rfl (.cons rfl (.cons rfl (.nil _))))))))))))) (fun _ hM => hM)
      · -- t72 False
        try simp only [z1, z2, z3, z4, z5, z6, z7, z8, z9, z10, z11, z12, z13, z14] at hc72
        obtain rfl : t = 16 := by omega
        refine st_exit ?_
        refine st_then_exit ?_
        refine st_then_exit ?_
        refine st_in_exit ?_
        refine st_then ?_
        refine st_seq ?_
        refine st_seq ?_
        refine st_region ?_
        refine st_v (rv_assign rfl) (by decide) ?_
        refine st_nil ?_
        refine st_then ?_
        refine st_block ?_
        refine st_loopA (σ := Nat) [(0, kst _), (2, kst _), (9, kst _), (10, kst _), (11, kst _), (12, kst _), (13, kst _), (15, kst _), (16, kst _), (17, kst _), (18, kst _), (21, fun t => vI (16 + t : Nat))] [fun t => blk b12 (c64 (schR 32 K (padW s 64 8) (64 * m) t)) 77, kst _, kst _, kst _, kst _, kst _, kst _, kst _, kst _, kst _, kst _, kst _] (fun t => 16 + t ≤ K.length) (fun t => K.length - (16 + t)) 0 (by omega) (.cons rfl (.cons rfl (.cons rfl (.cons rfl (.cons rfl (.cons rfl (.cons rfl (.cons rfl (.cons rfl (.cons rfl (.cons rfl (.cons rfl (.nil _))))))))))))) (fun _ hM => hM) ?_
        intro t hI
        try dsimp only at hI
        dsimp only [List.map, kst]
        refine st_seq ?_
        refine st_seq ?_
        refine st_region ?_
        refine st_v (rv_move rfl) (by decide) ?_
        refine st_v (rv_move rfl) (by decide) ?_
        refine st_v (rv_lenR (rd_old hKR hKR.all) Tryd.underlying121 rfl) (by decide) ?_
        refine st_v (rv_lssZ rfl rfl) (by decide) ?_
        refine st_nil ?_
        refine st_then ?_
        refine st_cond rfl (fun hc102 => ?_) (fun hc102 => ?_)
        · -- t102 True
          try simp only [z1, z2, z3, z4, z5, z6, z7, z8, z9, z10, z11, z12, z13, z14] at hc102
          refine st_skip ?_
          refine st_then ?_
          refine st_seq ?_
          refine st_block ?_
          refine st_drawStart mixed ?_
          refine st_drawSeg1 (E0 := [(0, _), (2, _), (9, _), (10, _), (11, _), (12, _), (13, _), (15, _), (16, _), (17, _), (18, _), (21, _)]) [kpeq _, kpeq _, kpeq _, kpeq _, kpeq _, kpeq _, kpeq _, kpeq _, kpeq _, kpeq _, kpeq _, kpeq _, kpeq _, kpeq _, kpeq _, kpeq _, kpeq _, kpeq _, kpeq _, kpeq _, kpeq _, kpeq _, kpeq _, kpeq _, kpeq _, kpeq _, kpeq _, kpeq _, kpeq _, kpeq _, kpeq _, kpeq _, kpeq _, kpeq _, kpeq _, kpeq _, kpeq _] 0 37 [0, 0, 0, 0, 8, 28, 60, 0, 128, 384, 0, 2044, 0, 0, 8192, 28672, 61440, 131068, 0, 0, 524288, 1835008, 3932160, 0, 8388608, 25165824, 0, 133959676, 268435452, 0, 0, 1073741824, 3758096384, 8053063680, 17179869180, 0, 68719476732, 137438953471, 274877906943] [0, 2, 9, 10, 11, 12, 13, 15, 16, 17, 18, 21] (by kernel_rfl) (by decide) (by kernel_rfl) (.cons rfl (.cons rfl (.cons rfl (.cons rfl (.cons rfl (.cons rfl (.cons rfl (.cons rfl (.cons rfl (.cons rfl (.cons rfl (.cons rfl (.nil _))))))))))))) rfl rfl (hall_cons (hop_mv rfl (by decide) rfl rfl) (hall_cons (hop_mv rfl (by decide) rfl rfl) (hall_cons (hop_mv rfl (by decide) rfl rfl) (hall_cons (hop_mv rfl (by decide) rfl rfl) (hall_cons (hop_val [(3, 108, _)] [] rfl rfl rfl (by decide) rfl (jcons rfl rfl rfl rfl rfl (jnil)) (xnil) (fun _ _ _ _ => does_v (rv_subN (b := 2) rfl rfl (by first | omega | (simp; done) | (simp; omega))))) (hall_cons (hop_val [(2, 107, _), (4, 109, _)] [] rfl rfl rfl (by decide) rfl (jcons rfl rfl rfl rfl rfl (jcons rfl rfl rfl rfl rfl (jnil))) (xnil) (fun _ _ _ _ => does_v (rv_indexS Tryd.underlying121 sz77 rfl rfl rfl (by first | omega | (simp [hH] <;> omega)) (by first | exact (Nat.zero_add _).trans (Nat.mul_one _) | exact congrArg _ (Nat.mul_one _) | rfl)))) (hall_cons (hop_val [(5, 110, _)] [] rfl rfl rfl (by decide) rfl (jcons rfl rfl rfl rfl rfl (jnil)) (xnil) (fun _ _ _ _ => does_v (rv_load_blk tyS77 rfl (i := 0) rfl (cell64 (by first | omega | (simp [hH] <;> omega)))))) (hall_cons (hop_mv rfl (by decide) rfl rfl) (hall_cons (hop_val [(7, 112, _)] [] rfl rfl rfl (by decide) rfl (jcons rfl rfl rfl rfl rfl (jnil)) (xnil) (fun _ _ _ _ => does_v (rv_indexR1 (rd_own (i := 2) rfl) Tryd.underlying169 sz47 rfl rfl (j := 3) rfl (by first | omega | (simp [hH] <;> omega))))) (hall_cons (hop_val [(8, 113, _)] [] rfl rfl rfl (by decide) rfl (jcons rfl rfl rfl rfl rfl (jnil)) (xnil) (fun _ _ _ _ => does_v (rv_load_rd (rd_own (i := 2) rfl) tyS47 rfl (by rfl)))) (hall_cons (hop_mv rfl (by decide) rfl rfl) (hall_cons (hop_val [(6, 111, _), (9, 114, _), (10, 115, _)] [] rfl rfl rfl (by decide) rfl (jcons rfl rfl rfl rfl rfl (jcons rfl rfl rfl rfl rfl (jcons rfl rfl rfl rfl rfl (jnil)))) (xnil) (fun _ _ _ _ => does_call0 cal124 rfl (fun w hM => (three32D_calls _ _ 17 19 10 (by decide) (by decide) (by decide) w ((rd_I (q := [_, _, _]) (len := 3) (i := 3) rfl rfl rfl (by omega)) w hM))))) (hall_cons (hop_mv rfl (by decide) rfl rfl) (hall_cons (hop_mv rfl (by decide) rfl rfl) (hall_cons (hop_val [(13, 118, _)] [] rfl rfl rfl (by decide) rfl (jcons rfl rfl rfl rfl rfl (jnil)) (xnil) (fun _ _ _ _ => does_v (rv_subN (b := 7) rfl rfl (by first | omega | (simp; done) | (simp; omega))))) (hall_cons (hop_val [(12, 117, _), (14, 119, _)] [] rfl rfl rfl (by decide) rfl (jcons rfl rfl rfl rfl rfl (jcons rfl rfl rfl rfl rfl (jnil))) (xnil) (fun _ _ _ _ => does_v (rv_indexS Tryd.underlying121 sz77 rfl rfl rfl (by first | omega | (simp [hH] <;> omega)) (by first | exact (Nat.zero_add _).trans (Nat.mul_one _) | exact congrArg _ (Nat.mul_one _) | rfl)))) (hall_cons (hop_val [(15, 120, _)] [] rfl rfl rfl (by decide) rfl (jcons rfl rfl rfl rfl rfl (jnil)) (xnil) (fun _ _ _ _ => does_v (rv_load_blk tyS77 rfl (i := 0) rfl (cell64 (by first | omega | (simp [hH] <;> omega)))))) (hall_cons (hop_val [(11, 116, _), (16, 121, _)] [] rfl rfl rfl (by decide) rfl (jcons rfl rfl rfl rfl rfl (jcons rfl rfl rfl rfl rfl (jnil))) (xnil) (fun _ _ _ _ => does_v (rv_add64 rfl rfl))) (hall_cons (hop_mv rfl (by decide) rfl rfl) (hall_cons (hop_mv rfl (by decide) rfl rfl) (hall_cons (hop_val [(19, 124, _)] [] rfl rfl rfl (by decide) rfl (jcons rfl rfl rfl rfl rfl (jnil)) (xnil) (fun _ _ _ _ => does_v (rv_subN (b := 15) rfl rfl (by first | omega | (simp; done) | (simp; omega))))) (hall_cons (hop_val [(18, 123, _), (20, 125, _)] [] rfl rfl rfl (by decide) rfl (jcons rfl rfl rfl rfl rfl (jcons rfl rfl rfl rfl rfl (jnil))) (xnil) (fun _ _ _ _ => does_v (rv_indexS Tryd.underlying121 sz77 rfl rfl rfl (by first | omega | (simp [hH] <;> omega)) (by first | exact (Nat.zero_add _).trans (Nat.mul_one _) | exact congrArg _ (Nat.mul_one _) | rfl)))) (hall_cons (hop_val [(21, 126, _)] [] rfl rfl rfl (by decide) rfl (jcons rfl rfl rfl rfl rfl (jnil)) (xnil) (fun _ _ _ _ => does_v (rv_load_blk tyS77 rfl (i := 0) rfl (cell64 (by first | omega | (simp [hH] <;> omega)))))) (hall_cons (hop_mv rfl (by decide) rfl rfl) (hall_cons (hop_val [(23, 128, _)] [] rfl rfl rfl (by decide) rfl (jcons rfl rfl rfl rfl rfl (jnil)) (xnil) (fun _ _ _ _ => does_v (rv_indexR1 (rd_own (i := 2) rfl) Tryd.underlying169 sz47 rfl rfl (j := 2) rfl (by first | omega | (simp [hH] <;> omega))))) (hall_cons (hop_val [(24, 129, _)] [] rfl rfl rfl (by decide) rfl (jcons rfl rfl rfl rfl rfl (jnil)) (xnil) (fun _ _ _ _ => does_v (rv_load_rd (rd_own (i := 2) rfl) tyS47 rfl (by rfl)))) (hall_cons (hop_mv rfl (by decide) rfl rfl) (hall_cons (hop_val [(22, 127, _), (25, 130, _), (26, 131, _)] [] rfl rfl rfl (by decide) rfl (jcons rfl rfl rfl rfl rfl (jcons rfl rfl rfl rfl rfl (jcons rfl rfl rfl rfl rfl (jnil)))) (xnil) (fun _ _ _ _ => does_call0 cal124 rfl (fun w hM => (three32D_calls _ _ 7 18 3 (by decide) (by decide) (by decide) w ((rd_I (q := [_, _, _]) (len := 3) (i := 4) rfl rfl rfl (by omega)) w hM))))) (hall_cons (hop_val [(17, 122, _), (27, 132, _)] [] rfl rfl rfl (by decide) rfl (jcons rfl rfl rfl rfl rfl (jcons rfl rfl rfl rfl rfl (jnil))) (xnil) (fun _ _ _ _ => does_v (rv_add64 rfl rfl))) (hall_cons (hop_mv rfl (by decide) rfl rfl) (hall_cons (hop_mv rfl (by decide) rfl rfl) (hall_cons (hop_val [(30, 135, _)] [] rfl rfl rfl (by decide) rfl (jcons rfl rfl rfl rfl rfl (jnil)) (xnil) (fun _ _ _ _ => does_v (rv_subN (b := 16) rfl rfl (by first | omega | (simp; done) | (simp; omega))))) (hall_cons (hop_val [(29, 134, _), (31, 136, _)] [] rfl rfl rfl (by decide) rfl (jcons rfl rfl rfl rfl rfl (jcons rfl rfl rfl rfl rfl (jnil))) (xnil) (fun _ _ _ _ => does_v (rv_indexS Tryd.underlying121 sz77 rfl rfl rfl (by first | omega | (simp [hH] <;> omega)) (by first | exact (Nat.zero_add _).trans (Nat.mul_one _) | exact congrArg _ (Nat.mul_one _) | rfl)))) (hall_cons (hop_val [(32, 137, _)] [] rfl rfl rfl (by decide) rfl (jcons rfl rfl rfl rfl rfl (jnil)) (xnil) (fun _ _ _ _ => does_v (rv_load_blk tyS77 rfl (i := 0) rfl (cell64 (by first | omega | (simp [hH] <;> omega)))))) (hall_cons (hop_val [(28, 133, _), (33, 138, _)] [] rfl rfl rfl (by decide) rfl (jcons rfl rfl rfl rfl rfl (jcons rfl rfl rfl rfl rfl (jnil))) (xnil) (fun _ _ _ _ => does_v (rv_add64 rfl rfl))) (hall_cons (hop_mv rfl (by decide) rfl rfl) (hall_cons (hop_val [(34, 139, _), (35, 140, _)] [] rfl rfl rfl (by decide) rfl (jcons rfl rfl rfl rfl rfl (jcons rfl rfl rfl rfl rfl (jnil))) (xnil) (fun _ _ _ _ => does_v (rv_and64 rfl rfl))) (hall_nil)))))))))))))))))))))))))))))))))))))) (draw_end1 [(0, 105, _), (1, 106, _), (36, 141, _)] (jcons rfl rfl rfl rfl rfl (jcons rfl rfl rfl rfl rfl (jcons rfl rfl rfl rfl rfl (jnil)))) ?_)
          refine st_drawTail (N := 37) [0, 0, 0, 0, 8, 28, 60, 0, 128, 384, 0, 2044, 0, 0, 8192, 28672, 61440, 131068, 0, 0, 524288, 1835008, 3932160, 0, 8388608, 25165824, 0, 133959676, 268435452, 0, 0, 1073741824, 3758096384, 8053063680, 17179869180, 0, 68719476732, 137438953471, 274877906943] (by kernel_rfl) (by kernel_rfl) ?_
          refine st_v (rv_indexS Tryd.underlying121 sz77 rfl rfl rfl (by first | omega | (simp [hH] <;> omega)) (by first | exact (Nat.zero_add _).trans (Nat.mul_one _) | exact congrArg _ (Nat.mul_one _) | rfl)) (by decide) ?_
          refine st_store64 rfl rfl (i := 0) rfl sz77 (by first | omega | (simp [hH] <;> omega)) (l' := [_, _, _, _, _, _, _, _, _, _, _, _]) rfl ?_
          refine st_nil ?_
          refine st_in_normal ?_
          refine st_then ?_
          refine st_region ?_
          refine st_v (rv_move rfl) (by decide) ?_
          first | refine st_v (rv_addN (b := 1) rfl rfl (by first | omega | (simp; done) | (simp; omega))) (by decide) ?_ | refine st_v (rv_addZ rfl rfl (by first | omega | (simp; done) | (simp; omega))) (by decide) ?_
          refine st_v (rv_assign rfl) (by decide) ?_
          refine st_nil ?_
          refine st_then ?_
          exact st_again (t + 1) (by omega) (by omega) (.cons rfl (.cons rfl (.cons rfl (.cons rfl (.cons rfl (.cons rfl (.cons rfl (.cons rfl (.cons rfl (.cons rfl (.cons rfl (.cons rfl (.nil _))))))))))))) (fun _ hM => hM)
        · -- t102 False
          try simp only [z1, z2, z3, z4, z5, z6, z7, z8, z9, z10, z11, z12, z13, z14] at hc102
          obtain rfl : t = K.length - 16 := by omega
          refine st_exit ?_
          refine st_then_exit ?_
          refine st_then_exit ?_
          refine st_in_exit ?_
          refine st_then ?_
          refine st_seq ?_
          refine st_region ?_
          refine st_buildO Tryd.underlying121 tyZ77 rfl rfl (by decide) (cs := (([] : List (BitVec 64)).map U64).toArray) rfl rfl (by decide) (fun v13 => ?_)
          refine st_v (rv_move rfl) (by decide) ?_
          refine st_append Tryd.underlying121 Tryd.underlying121 (.inr ⟨_, rfl⟩) tyZ77 rfl rfl rfl (i := 0) rfl (one64 _) (fun w hM => src_rd ((rd_w64 (i := 2) rfl (by first | omega | (simp [hH]; done) | (simp [hH] <;> omega)) (by omega)) w hM) (one64 _)) (by first | omega | (simp; omega)) (by first | omega | (simp; omega)) (by decide) (fun v13 => ?_)
          rw [← List.map_append, List.nil_append, Nat.zero_add]
          refine st_v (rv_assign rfl) (by decide) ?_
          refine st_nil ?_
          refine st_then ?_
          refine st_seq ?_
          refine st_seq ?_
          refine st_region ?_
          refine st_v (rv_assign rfl) (by decide) ?_
          refine st_nil ?_
          refine st_then ?_
          refine st_block ?_
          refine st_loopA (σ := Nat × Value) [(0, kst _), (2, kst _), (9, kst _), (10, kst _), (11, kst _), (12, kst _), (13, kst _), (15, kst _), (16, kst _), (17, kst _), (18, kst _), (22, fun (t, y) => y), (23, fun (t, y) => vI t)] [fun (t, y) => own y 77 1 8 ((rndR 32 K (schR 32 K (padW s 64 8) (64 * m) (K.length - 16)) (feedR 32 K H (padW s 64 8) m) t).map U64), kst _, kst _, kst _, kst _, kst _, kst _, kst _, kst _, kst _, kst _, kst _, kst _] (fun (t, y) => t ≤ K.length) (fun (t, y) => K.length - t) (0, _) (by omega) (.cons rfl (.cons rfl (.cons rfl (.cons rfl (.cons rfl (.cons rfl (.cons rfl (.cons rfl (.cons rfl (.cons rfl (.cons rfl (.cons rfl (.cons rfl (.nil _)))))))))))))) (fun _ hM => hM) ?_
          intro ⟨t, y⟩ hI
          try dsimp only at hI
          dsimp only [List.map, kst]
          refine st_seq ?_
          refine st_seq ?_
          refine st_region ?_
          refine st_v (rv_move rfl) (by decide) ?_
          refine st_v (rv_move rfl) (by decide) ?_
          refine st_v (rv_lenR (rd_old hKR hKR.all) Tryd.underlying121 rfl) (by decide) ?_
          refine st_v (rv_lssZ rfl rfl) (by decide) ?_
          refine st_nil ?_
          refine st_then ?_
          refine st_cond rfl (fun hc149 => ?_) (fun hc149 => ?_)
          · -- t149 True
            try simp only [z1, z2, z3, z4, z5, z6, z7, z8, z9, z10, z11, z12, z13, z14] at hc149
            refine st_skip ?_
            refine st_then ?_
            refine st_seq ?_
            refine st_block ?_
            refine st_seq ?_
            refine st_drawStart mixed ?_
            refine st_drawSeg1 (E0 := [(0, _), (2, _), (9, _), (10, _), (11, _), (12, _), (13, _), (15, _), (16, _), (17, _), (18, _), (22, _), (23, _)]) [kpeq _, kpeq _, kpeq _, kpeq _, kpeq _, kpeq _, kpeq _, kpeq _, kpeq _, kpeq _, kpeq _, kpeq _, kpeq _, kpeq _, kpeq _, kpeq _, kpeq _, kpeq _, kpeq _, kpeq _, kpeq _, kpeq _, kpeq _, kpeq _, kpeq _, kpeq _, kpeq _, kpeq _, kpeq _, kpeq _, kpeq _, kpeq _, kpeq _, kpeq _, kpeq _, kpeq _, kpeq _, kpeq _, kpeq _, kpeq _, kpeq _] 0 41 [0, 1, 3, 0, 8, 24, 0, 64, 192, 0, 1016, 2047, 0, 4096, 12288, 0, 32768, 98304, 258048, 0, 0, 1048576, 3145728, 7864320, 0, 16777216, 50331648, 133693440, 268431360, 536870911, 0, 0, 3221225472, 7516192768, 0, 33285996544, 68719476735, 0, 0, 412316860416, 962072674304, 2199023255551, 4398046511103] [0, 2, 9, 10, 11, 12, 13, 15, 16, 17, 18, 22, 23] (by kernel_rfl) (by decide) (by kernel_rfl) (.cons rfl (.cons rfl (.cons rfl (.cons rfl (.cons rfl (.cons rfl (.cons rfl (.cons rfl (.cons rfl (.cons rfl (.cons rfl (.cons rfl (.cons rfl (.nil _)))))))))))))) rfl rfl (hall_cons (hop_mv rfl (by decide) rfl rfl) (hall_cons (hop_val [(0, 152, _)] [] rfl rfl rfl (by decide) rfl (jcons rfl rfl rfl rfl rfl (jnil)) (xnil) (fun _ _ _ _ => does_v (rv_indexR1 (rd_own (i := 0) rfl) Tryd.underlying121 sz77 rfl rfl (j := 7) rfl (by first | omega | (simp [hH] <;> omega))))) (hall_cons (hop_val [(1, 153, _)] [] rfl rfl rfl (by decide) rfl (jcons rfl rfl rfl rfl rfl (jnil)) (xnil) (fun _ _ _ _ => does_v (rv_load_rd (rd_own (i := 0) rfl) tyS77 rfl (get64 (by first | omega | (simp [hH] <;> omega)))))) (hall_cons (hop_mv rfl (by decide) rfl rfl) (hall_cons (hop_val [(3, 155, _)] [] rfl rfl rfl (by decide) rfl (jcons rfl rfl rfl rfl rfl (jnil)) (xnil) (fun _ _ _ _ => does_v (rv_indexR1 (rd_own (i := 0) rfl) Tryd.underlying121 sz77 rfl rfl (j := 4) rfl (by first | omega | (simp [hH] <;> omega))))) (hall_cons (hop_val [(4, 156, _)] [] rfl rfl rfl (by decide) rfl (jcons rfl rfl rfl rfl rfl (jnil)) (xnil) (fun _ _ _ _ => does_v (rv_load_rd (rd_own (i := 0) rfl) tyS77 rfl (get64 (by first | omega | (simp [hH] <;> omega)))))) (hall_cons (hop_mv rfl (by decide) rfl rfl) (hall_cons (hop_val [(6, 158, _)] [] rfl rfl rfl (by decide) rfl (jcons rfl rfl rfl rfl rfl (jnil)) (xnil) (fun _ _ _ _ => does_v (rv_indexR1 (rd_own (i := 3) rfl) Tryd.underlying169 sz47 rfl rfl (j := 1) rfl (by first | omega | (simp [hH] <;> omega))))) (hall_cons (hop_val [(7, 159, _)] [] rfl rfl rfl (by decide) rfl (jcons rfl rfl rfl rfl rfl (jnil)) (xnil) (fun _ _ _ _ => does_v (rv_load_rd (rd_own (i := 3) rfl) tyS47 rfl (by rfl)))) (hall_cons (hop_mv rfl (by decide) rfl rfl) (hall_cons (hop_val [(5, 157, _), (8, 160, _), (9, 161, _)] [] rfl rfl rfl (by decide) rfl (jcons rfl rfl rfl rfl rfl (jcons rfl rfl rfl rfl rfl (jcons rfl rfl rfl rfl rfl (jnil)))) (xnil) (fun _ _ _ _ => does_call0 cal124 rfl (fun w hM => (three32U_calls _ _ 6 11 25 (by decide) (by decide) (by decide) w ((rd_I (q := [_, _, _]) (len := 3) (i := 6) rfl rfl rfl (by omega)) w hM))))) (hall_cons (hop_val [(2, 154, _), (10, 162, _)] [] rfl rfl rfl (by decide) rfl (jcons rfl rfl rfl rfl rfl (jcons rfl rfl rfl rfl rfl (jnil))) (xnil) (fun _ _ _ _ => does_v (rv_add64 rfl rfl))) (hall_cons (hop_mv rfl (by decide) rfl rfl) (hall_cons (hop_val [(12, 164, _)] [] rfl rfl rfl (by decide) rfl (jcons rfl rfl rfl rfl rfl (jnil)) (xnil) (fun _ _ _ _ => does_v (rv_indexR1 (rd_own (i := 0) rfl) Tryd.underlying121 sz77 rfl rfl (j := 4) rfl (by first | omega | (simp [hH] <;> omega))))) (hall_cons (hop_val [(13, 165, _)] [] rfl rfl rfl (by decide) rfl (jcons rfl rfl rfl rfl rfl (jnil)) (xnil) (fun _ _ _ _ => does_v (rv_load_rd (rd_own (i := 0) rfl) tyS77 rfl (get64 (by first | omega | (simp [hH] <;> omega)))))) (hall_cons (hop_mv rfl (by decide) rfl rfl) (hall_cons (hop_val [(15, 167, _)] [] rfl rfl rfl (by decide) rfl (jcons rfl rfl rfl rfl rfl (jnil)) (xnil) (fun _ _ _ _ => does_v (rv_indexR1 (rd_own (i := 0) rfl) Tryd.underlying121 sz77 rfl rfl (j := 5) rfl (by first | omega | (simp [hH] <;> omega))))) (hall_cons (hop_val [(16, 168, _)] [] rfl rfl rfl (by decide) rfl (jcons rfl rfl rfl rfl rfl (jnil)) (xnil) (fun _ _ _ _ => does_v (rv_load_rd (rd_own (i := 0) rfl) tyS77 rfl (get64 (by first | omega | (simp [hH] <;> omega)))))) (hall_cons (hop_val [(14, 166, _), (17, 169, _)] [] rfl rfl rfl (by decide) rfl (jcons rfl rfl rfl rfl rfl (jcons rfl rfl rfl rfl rfl (jnil))) (xnil) (fun _ _ _ _ => does_v (rv_and64 rfl rfl))) (hall_cons (hop_mv rfl (by decide) rfl rfl) (hall_cons (hop_mv rfl (by decide) rfl rfl) (hall_cons (hop_val [(20, 172, _)] [] rfl rfl rfl (by decide) rfl (jcons rfl rfl rfl rfl rfl (jnil)) (xnil) (fun _ _ _ _ => does_v (rv_indexR1 (rd_own (i := 0) rfl) Tryd.underlying121 sz77 rfl rfl (j := 4) rfl (by first | omega | (simp [hH] <;> omega))))) (hall_cons (hop_val [(21, 173, _)] [] rfl rfl rfl (by decide) rfl (jcons rfl rfl rfl rfl rfl (jnil)) (xnil) (fun _ _ _ _ => does_v (rv_load_rd (rd_own (i := 0) rfl) tyS77 rfl (get64 (by first | omega | (simp [hH] <;> omega)))))) (hall_cons (hop_val [(19, 171, _), (22, 174, _)] [] rfl rfl rfl (by decide) rfl (jcons rfl rfl rfl rfl rfl (jcons rfl rfl rfl rfl rfl (jnil))) (xnil) (fun _ _ _ _ => does_v (rv_xor64 rfl rfl))) (hall_cons (hop_mv rfl (by decide) rfl rfl) (hall_cons (hop_val [(24, 176, _)] [] rfl rfl rfl (by decide) rfl (jcons rfl rfl rfl rfl rfl (jnil)) (xnil) (fun _ _ _ _ => does_v (rv_indexR1 (rd_own (i := 0) rfl) Tryd.underlying121 sz77 rfl rfl (j := 6) rfl (by first | omega | (simp [hH] <;> omega))))) (hall_cons (hop_val [(25, 177, _)] [] rfl rfl rfl (by decide) rfl (jcons rfl rfl rfl rfl rfl (jnil)) (xnil) (fun _ _ _ _ => does_v (rv_load_rd (rd_own (i := 0) rfl) tyS77 rfl (get64 (by first | omega | (simp [hH] <;> omega)))))) (hall_cons (hop_val [(23, 175, _), (26, 178, _)] [] rfl rfl rfl (by decide) rfl (jcons rfl rfl rfl rfl rfl (jcons rfl rfl rfl rfl rfl (jnil))) (xnil) (fun _ _ _ _ => does_v (rv_and64 rfl rfl))) (hall_cons (hop_val [(18, 170, _), (27, 179, _)] [] rfl rfl rfl (by decide) rfl (jcons rfl rfl rfl rfl rfl (jcons rfl rfl rfl rfl rfl (jnil))) (xnil) (fun _ _ _ _ => does_v (rv_xor64 rfl rfl))) (hall_cons (hop_val [(11, 163, _), (28, 180, _)] [] rfl rfl rfl (by decide) rfl (jcons rfl rfl rfl rfl rfl (jcons rfl rfl rfl rfl rfl (jnil))) (xnil) (fun _ _ _ _ => does_v (rv_add64 rfl rfl))) (hall_cons (hop_mv rfl (by decide) rfl rfl) (hall_cons (hop_mv rfl (by decide) rfl rfl) (hall_cons (hop_val [(30, 182, _), (31, 183, _)] [] rfl rfl rfl (by decide) rfl (jcons rfl rfl rfl rfl rfl (jcons rfl rfl rfl rfl rfl (jnil))) (xnil) (fun _ _ _ _ => does_v (rv_indexR1 (rd_old hKR hKR.all) Tryd.underlying121 sz77 rfl rfl rfl (by first | omega | (simp [hH] <;> omega))))) (hall_cons (hop_val [(32, 184, _)] [] rfl rfl rfl (by decide) rfl (jcons rfl rfl rfl rfl rfl (jnil)) (xnil) (fun _ _ _ _ => does_v (rv_load_rd (rd_old hKR hKR.all) tyS77 rfl (get64 (by first | omega | (simp [hH] <;> omega)))))) (hall_cons (hop_mv rfl (by decide) rfl rfl) (hall_cons (hop_val [(33, 185, _), (34, 186, _)] [] rfl rfl rfl (by decide) rfl (jcons rfl rfl rfl rfl rfl (jcons rfl rfl rfl rfl rfl (jnil))) (xnil) (fun _ _ _ _ => does_v (rv_shr64 rfl rfl rfl))) (hall_cons (hop_val [(29, 181, _), (35, 187, _)] [] rfl rfl rfl (by decide) rfl (jcons rfl rfl rfl rfl rfl (jcons rfl rfl rfl rfl rfl (jnil))) (xnil) (fun _ _ _ _ => does_v (rv_add64 rfl rfl))) (hall_cons (hop_mv rfl (by decide) rfl rfl) (hall_cons (hop_mv rfl (by decide) rfl rfl) (hall_cons (hop_val [(37, 189, _), (38, 190, _)] [] rfl rfl rfl (by decide) rfl (jcons rfl rfl rfl rfl rfl (jcons rfl rfl rfl rfl rfl (jnil))) (xnil) (fun _ _ _ _ => does_v (rv_indexS Tryd.underlying121 sz77 rfl rfl rfl (by first | omega | (simp [hH] <;> omega)) (by first | exact (Nat.zero_add _).trans (Nat.mul_one _) | exact congrArg _ (Nat.mul_one _) | rfl)))) (hall_cons (hop_val [(39, 191, _)] [] rfl rfl rfl (by decide) rfl (jcons rfl rfl rfl rfl rfl (jnil)) (xnil) (fun _ _ _ _ => does_v (rv_load_blk tyS77 rfl (i := 1) rfl (cell64 (by first | omega | (simp [hH] <;> omega)))))) (hall_nil)))))))))))))))))))))))))))))))))))))))))) (draw_end1 [(36, 188, _), (40, 192, _)] (jcons rfl rfl rfl rfl rfl (jcons rfl rfl rfl rfl rfl (jnil))) ?_)
            refine st_drawTail (N := 41) [0, 1, 3, 0, 8, 24, 0, 64, 192, 0, 1016, 2047, 0, 4096, 12288, 0, 32768, 98304, 258048, 0, 0, 1048576, 3145728, 7864320, 0, 16777216, 50331648, 133693440, 268431360, 536870911, 0, 0, 3221225472, 7516192768, 0, 33285996544, 68719476735, 0, 0, 412316860416, 962072674304, 2199023255551, 4398046511103] (by kernel_rfl) (by kernel_rfl) ?_
            refine st_v (rv_add64 rfl rfl) (by decide) ?_
            refine st_v (rv_assign rfl) (by decide) ?_
            refine st_nil ?_
            refine st_then ?_
            refine st_seq ?_
            refine st_drawStart mixed ?_
            refine st_drawSeg1 (E0 := [(0, _), (2, _), (9, _), (10, _), (11, _), (12, _), (13, _), (15, _), (16, _), (17, _), (18, _), (22, _), (23, _), (24, _)]) [kpeq _, kpeq _, kpeq _, kpeq _, kpeq _, kpeq _, kpeq _, kpeq _, kpeq _, kpeq _, kpeq _, kpeq _, kpeq _, kpeq _, kpeq _, kpeq _, kpeq _, kpeq _, kpeq _, kpeq _, kpeq _, kpeq _, kpeq _, kpeq _, kpeq _, kpeq _, kpeq _, kpeq _, kpeq _, kpeq _, kpeq _] 0 31 [0, 1, 3, 0, 8, 24, 0, 127, 0, 256, 768, 0, 2048, 6144, 16128, 0, 32768, 98304, 0, 262144, 786432, 2064384, 4194048, 0, 8388608, 25165824, 0, 67108864, 201326592, 528482304, 1073741568, 2147483647, 4294967295] [0, 2, 9, 10, 11, 12, 13, 15, 16, 17, 18, 22, 23, 24] (by kernel_rfl) (by decide) (by kernel_rfl) (.cons rfl (.cons rfl (.cons rfl (.cons rfl (.cons rfl (.cons rfl (.cons rfl (.cons rfl (.cons rfl (.cons rfl (.cons rfl (.cons rfl (.cons rfl (.cons rfl (.nil _))))))))))))))) rfl rfl (hall_cons (hop_mv rfl (by decide) rfl rfl) (hall_cons (hop_val [(0, 194, _)] [] rfl rfl rfl (by decide) rfl (jcons rfl rfl rfl rfl rfl (jnil)) (xnil) (fun _ _ _ _ => does_v (rv_indexR1 (rd_own (i := 0) rfl) Tryd.underlying121 sz77 rfl rfl (j := 0) rfl (by first | omega | (simp [hH] <;> omega))))) (hall_cons (hop_val [(1, 195, _)] [] rfl rfl rfl (by decide) rfl (jcons rfl rfl rfl rfl rfl (jnil)) (xnil) (fun _ _ _ _ => does_v (rv_load_rd (rd_own (i := 0) rfl) tyS77 rfl (get64 (by first | omega | (simp [hH] <;> omega)))))) (hall_cons (hop_mv rfl (by decide) rfl rfl) (hall_cons (hop_val [(3, 197, _)] [] rfl rfl rfl (by decide) rfl (jcons rfl rfl rfl rfl rfl (jnil)) (xnil) (fun _ _ _ _ => does_v (rv_indexR1 (rd_own (i := 3) rfl) Tryd.underlying169 sz47 rfl rfl (j := 0) rfl (by first | omega | (simp [hH] <;> omega))))) (hall_cons (hop_val [(4, 198, _)] [] rfl rfl rfl (by decide) rfl (jcons rfl rfl rfl rfl rfl (jnil)) (xnil) (fun _ _ _ _ => does_v (rv_load_rd (rd_own (i := 3) rfl) tyS47 rfl (by rfl)))) (hall_cons (hop_mv rfl (by decide) rfl rfl) (hall_cons (hop_val [(2, 196, _), (5, 199, _), (6, 200, _)] [] rfl rfl rfl (by decide) rfl (jcons rfl rfl rfl rfl rfl (jcons rfl rfl rfl rfl rfl (jcons rfl rfl rfl rfl rfl (jnil)))) (xnil) (fun _ _ _ _ => does_call0 cal124 rfl (fun w hM => (three32U_calls _ _ 2 13 22 (by decide) (by decide) (by decide) w ((rd_I (q := [_, _, _]) (len := 3) (i := 7) rfl rfl rfl (by omega)) w hM))))) (hall_cons (hop_mv rfl (by decide) rfl rfl) (hall_cons (hop_val [(8, 202, _)] [] rfl rfl rfl (by decide) rfl (jcons rfl rfl rfl rfl rfl (jnil)) (xnil) (fun _ _ _ _ => does_v (rv_indexR1 (rd_own (i := 0) rfl) Tryd.underlying121 sz77 rfl rfl (j := 0) rfl (by first | omega | (simp [hH] <;> omega))))) (hall_cons (hop_val [(9, 203, _)] [] rfl rfl rfl (by decide) rfl (jcons rfl rfl rfl rfl rfl (jnil)) (xnil) (fun _ _ _ _ => does_v (rv_load_rd (rd_own (i := 0) rfl) tyS77 rfl (get64 (by first | omega | (simp [hH] <;> omega)))))) (hall_cons (hop_mv rfl (by decide) rfl rfl) (hall_cons (hop_val [(11, 205, _)] [] rfl rfl rfl (by decide) rfl (jcons rfl rfl rfl rfl rfl (jnil)) (xnil) (fun _ _ _ _ => does_v (rv_indexR1 (rd_own (i := 0) rfl) Tryd.underlying121 sz77 rfl rfl (j := 1) rfl (by first | omega | (simp [hH] <;> omega))))) (hall_cons (hop_val [(12, 206, _)] [] rfl rfl rfl (by decide) rfl (jcons rfl rfl rfl rfl rfl (jnil)) (xnil) (fun _ _ _ _ => does_v (rv_load_rd (rd_own (i := 0) rfl) tyS77 rfl (get64 (by first | omega | (simp [hH] <;> omega)))))) (hall_cons (hop_val [(10, 204, _), (13, 207, _)] [] rfl rfl rfl (by decide) rfl (jcons rfl rfl rfl rfl rfl (jcons rfl rfl rfl rfl rfl (jnil))) (xnil) (fun _ _ _ _ => does_v (rv_and64 rfl rfl))) (hall_cons (hop_mv rfl (by decide) rfl rfl) (hall_cons (hop_val [(15, 209, _)] [] rfl rfl rfl (by decide) rfl (jcons rfl rfl rfl rfl rfl (jnil)) (xnil) (fun _ _ _ _ => does_v (rv_indexR1 (rd_own (i := 0) rfl) Tryd.underlying121 sz77 rfl rfl (j := 0) rfl (by first | omega | (simp [hH] <;> omega))))) (hall_cons (hop_val [(16, 210, _)] [] rfl rfl rfl (by decide) rfl (jcons rfl rfl rfl rfl rfl (jnil)) (xnil) (fun _ _ _ _ => does_v (rv_load_rd (rd_own (i := 0) rfl) tyS77 rfl (get64 (by first | omega | (simp [hH] <;> omega)))))) (hall_cons (hop_mv rfl (by decide) rfl rfl) (hall_cons (hop_val [(18, 212, _)] [] rfl rfl rfl (by decide) rfl (jcons rfl rfl rfl rfl rfl (jnil)) (xnil) (fun _ _ _ _ => does_v (rv_indexR1 (rd_own (i := 0) rfl) Tryd.underlying121 sz77 rfl rfl (j := 2) rfl (by first | omega | (simp [hH] <;> omega))))) (hall_cons (hop_val [(19, 213, _)] [] rfl rfl rfl (by decide) rfl (jcons rfl rfl rfl rfl rfl (jnil)) (xnil) (fun _ _ _ _ => does_v (rv_load_rd (rd_own (i := 0) rfl) tyS77 rfl (get64 (by first | omega | (simp [hH] <;> omega)))))) (hall_cons (hop_val [(17, 211, _), (20, 214, _)] [] rfl rfl rfl (by decide) rfl (jcons rfl rfl rfl rfl rfl (jcons rfl rfl rfl rfl rfl (jnil))) (xnil) (fun _ _ _ _ => does_v (rv_and64 rfl rfl))) (hall_cons (hop_val [(14, 208, _), (21, 215, _)] [] rfl rfl rfl (by decide) rfl (jcons rfl rfl rfl rfl rfl (jcons rfl rfl rfl rfl rfl (jnil))) (xnil) (fun _ _ _ _ => does_v (rv_xor64 rfl rfl))) (hall_cons (hop_mv rfl (by decide) rfl rfl) (hall_cons (hop_val [(23, 217, _)] [] rfl rfl rfl (by decide) rfl (jcons rfl rfl rfl rfl rfl (jnil)) (xnil) (fun _ _ _ _ => does_v (rv_indexR1 (rd_own (i := 0) rfl) Tryd.underlying121 sz77 rfl rfl (j := 1) rfl (by first | omega | (simp [hH] <;> omega))))) (hall_cons (hop_val [(24, 218, _)] [] rfl rfl rfl (by decide) rfl (jcons rfl rfl rfl rfl rfl (jnil)) (xnil) (fun _ _ _ _ => does_v (rv_load_rd (rd_own (i := 0) rfl) tyS77 rfl (get64 (by first | omega | (simp [hH] <;> omega)))))) (hall_cons (hop_mv rfl (by decide) rfl rfl) (hall_cons (hop_val [(26, 220, _)] [] rfl rfl rfl (by decide) rfl (jcons rfl rfl rfl rfl rfl (jnil)) (xnil) (fun _ _ _ _ => does_v (rv_indexR1 (rd_own (i := 0) rfl) Tryd.underlying121 sz77 rfl rfl (j := 2) rfl (by first | omega | (simp [hH] <;> omega))))) (hall_cons (hop_val [(27, 221, _)] [] rfl rfl rfl (by decide) rfl (jcons rfl rfl rfl rfl rfl (jnil)) (xnil) (fun _ _ _ _ => does_v (rv_load_rd (rd_own (i := 0) rfl) tyS77 rfl (get64 (by first | omega | (simp [hH] <;> omega)))))) (hall_cons (hop_val [(25, 219, _), (28, 222, _)] [] rfl rfl rfl (by decide) rfl (jcons rfl rfl rfl rfl rfl (jcons rfl rfl rfl rfl rfl (jnil))) (xnil) (fun _ _ _ _ => does_v (rv_and64 rfl rfl))) (hall_cons (hop_val [(22, 216, _), (29, 223, _)] [] rfl rfl rfl (by decide) rfl (jcons rfl rfl rfl rfl rfl (jcons rfl rfl rfl rfl rfl (jnil))) (xnil) (fun _ _ _ _ => does_v (rv_xor64 rfl rfl))) (hall_nil)))))))))))))))))))))))))))))))) (draw_end1 [(7, 201, _), (30, 224, _)] (jcons rfl rfl rfl rfl rfl (jcons rfl rfl rfl rfl rfl (jnil))) ?_)
            refine st_drawTail (N := 31) [0, 1, 3, 0, 8, 24, 0, 127, 0, 256, 768, 0, 2048, 6144, 16128, 0, 32768, 98304, 0, 262144, 786432, 2064384, 4194048, 0, 8388608, 25165824, 0, 67108864, 201326592, 528482304, 1073741568, 2147483647, 4294967295] (by kernel_rfl) (by kernel_rfl) ?_
            refine st_v (rv_add64 rfl rfl) (by decide) ?_
            refine st_v (rv_assign rfl) (by decide) ?_
            refine st_nil ?_
            refine st_then ?_
            refine st_drawStart mixed ?_
            refine st_drawSeg1 (E0 := [(0, _), (2, _), (9, _), (10, _), (11, _), (12, _), (13, _), (15, _), (16, _), (17, _), (18, _), (22, _), (23, _), (24, _), (25, _)]) [kpeq _, kpeq _, kpeq _, kpeq _, kpeq _, kpeq _, kpeq _, kpeq _, kpeq _, kpeq _, kpeq _, kpeq _, kpeq _, kpeq _, kpeq _, kpeq _, kpeq _, kpeq _, kpeq _, kpeq _, kpeq _, kpeq _, kpeq _, kpeq _, kpeq _, kpeq _, kpeq _, kpeq _, kpeq _, kpeq _] 0 30 [0, 0, 3, 0, 15, 0, 32, 96, 0, 256, 768, 0, 2048, 6144, 0, 16384, 49152, 0, 245760, 0, 1032192, 0, 2097152, 6291456, 0, 16777216, 50331648, 0, 134217728, 402653184, 1073741823, 2147483647] [0, 2, 9, 10, 11, 12, 13, 15, 16, 17, 18, 22, 23, 24, 25] (by kernel_rfl) (by decide) (by kernel_rfl) (.cons rfl (.cons rfl (.cons rfl (.cons rfl (.cons rfl (.cons rfl (.cons rfl (.cons rfl (.cons rfl (.cons rfl (.cons rfl (.cons rfl (.cons rfl (.cons rfl (.cons rfl (.nil _)))))))))))))))) rfl rfl (hall_cons (hop_mv rfl (by decide) rfl rfl) (hall_cons (hop_mv rfl (by decide) rfl rfl) (hall_cons (hop_val [(0, 226, _), (1, 227, _)] [] rfl rfl rfl (by decide) rfl (jcons rfl rfl rfl rfl rfl (jcons rfl rfl rfl rfl rfl (jnil))) (xnil) (fun _ _ _ _ => does_v (rv_add64 rfl rfl))) (hall_cons (hop_mv rfl (by decide) rfl rfl) (hall_cons (hop_val [(2, 228, _), (3, 229, _)] [] rfl rfl rfl (by decide) rfl (jcons rfl rfl rfl rfl rfl (jcons rfl rfl rfl rfl rfl (jnil))) (xnil) (fun _ _ _ _ => does_v (rv_and64 rfl rfl))) (hall_cons (hop_mv rfl (by decide) rfl rfl) (hall_cons (hop_val [(5, 231, _)] [] rfl rfl rfl (by decide) rfl (jcons rfl rfl rfl rfl rfl (jnil)) (xnil) (fun _ _ _ _ => does_v (rv_indexR1 (rd_own (i := 0) rfl) Tryd.underlying121 sz77 rfl rfl (j := 0) rfl (by first | omega | (simp [hH] <;> omega))))) (hall_cons (hop_val [(6, 232, _)] [] rfl rfl rfl (by decide) rfl (jcons rfl rfl rfl rfl rfl (jnil)) (xnil) (fun _ _ _ _ => does_v (rv_load_rd (rd_own (i := 0) rfl) tyS77 rfl (get64 (by first | omega | (simp [hH] <;> omega)))))) (hall_cons (hop_mv rfl (by decide) rfl rfl) (hall_cons (hop_val [(8, 234, _)] [] rfl rfl rfl (by decide) rfl (jcons rfl rfl rfl rfl rfl (jnil)) (xnil) (fun _ _ _ _ => does_v (rv_indexR1 (rd_own (i := 0) rfl) Tryd.underlying121 sz77 rfl rfl (j := 1) rfl (by first | omega | (simp [hH] <;> omega))))) (hall_cons (hop_val [(9, 235, _)] [] rfl rfl rfl (by decide) rfl (jcons rfl rfl rfl rfl rfl (jnil)) (xnil) (fun _ _ _ _ => does_v (rv_load_rd (rd_own (i := 0) rfl) tyS77 rfl (get64 (by first | omega | (simp [hH] <;> omega)))))) (hall_cons (hop_mv rfl (by decide) rfl rfl) (hall_cons (hop_val [(11, 237, _)] [] rfl rfl rfl (by decide) rfl (jcons rfl rfl rfl rfl rfl (jnil)) (xnil) (fun _ _ _ _ => does_v (rv_indexR1 (rd_own (i := 0) rfl) Tryd.underlying121 sz77 rfl rfl (j := 2) rfl (by first | omega | (simp [hH] <;> omega))))) (hall_cons (hop_val [(12, 238, _)] [] rfl rfl rfl (by decide) rfl (jcons rfl rfl rfl rfl rfl (jnil)) (xnil) (fun _ _ _ _ => does_v (rv_load_rd (rd_own (i := 0) rfl) tyS77 rfl (get64 (by first | omega | (simp [hH] <;> omega)))))) (hall_cons (hop_mv rfl (by decide) rfl rfl) (hall_cons (hop_val [(14, 240, _)] [] rfl rfl rfl (by decide) rfl (jcons rfl rfl rfl rfl rfl (jnil)) (xnil) (fun _ _ _ _ => does_v (rv_indexR1 (rd_own (i := 0) rfl) Tryd.underlying121 sz77 rfl rfl (j := 3) rfl (by first | omega | (simp [hH] <;> omega))))) (hall_cons (hop_val [(15, 241, _)] [] rfl rfl rfl (by decide) rfl (jcons rfl rfl rfl rfl rfl (jnil)) (xnil) (fun _ _ _ _ => does_v (rv_load_rd (rd_own (i := 0) rfl) tyS77 rfl (get64 (by first | omega | (simp [hH] <;> omega)))))) (hall_cons (hop_mv rfl (by decide) rfl rfl) (hall_cons (hop_val [(16, 242, _), (17, 243, _)] [] rfl rfl rfl (by decide) rfl (jcons rfl rfl rfl rfl rfl (jcons rfl rfl rfl rfl rfl (jnil))) (xnil) (fun _ _ _ _ => does_v (rv_add64 rfl rfl))) (hall_cons (hop_mv rfl (by decide) rfl rfl) (hall_cons (hop_val [(18, 244, _), (19, 245, _)] [] rfl rfl rfl (by decide) rfl (jcons rfl rfl rfl rfl rfl (jcons rfl rfl rfl rfl rfl (jnil))) (xnil) (fun _ _ _ _ => does_v (rv_and64 rfl rfl))) (hall_cons (hop_mv rfl (by decide) rfl rfl) (hall_cons (hop_val [(21, 247, _)] [] rfl rfl rfl (by decide) rfl (jcons rfl rfl rfl rfl rfl (jnil)) (xnil) (fun _ _ _ _ => does_v (rv_indexR1 (rd_own (i := 0) rfl) Tryd.underlying121 sz77 rfl rfl (j := 4) rfl (by first | omega | (simp [hH] <;> omega))))) (hall_cons (hop_val [(22, 248, _)] [] rfl rfl rfl (by decide) rfl (jcons rfl rfl rfl rfl rfl (jnil)) (xnil) (fun _ _ _ _ => does_v (rv_load_rd (rd_own (i := 0) rfl) tyS77 rfl (get64 (by first | omega | (simp [hH] <;> omega)))))) (hall_cons (hop_mv rfl (by decide) rfl rfl) (hall_cons (hop_val [(24, 250, _)] [] rfl rfl rfl (by decide) rfl (jcons rfl rfl rfl rfl rfl (jnil)) (xnil) (fun _ _ _ _ => does_v (rv_indexR1 (rd_own (i := 0) rfl) Tryd.underlying121 sz77 rfl rfl (j := 5) rfl (by first | omega | (simp [hH] <;> omega))))) (hall_cons (hop_val [(25, 251, _)] [] rfl rfl rfl (by decide) rfl (jcons rfl rfl rfl rfl rfl (jnil)) (xnil) (fun _ _ _ _ => does_v (rv_load_rd (rd_own (i := 0) rfl) tyS77 rfl (get64 (by first | omega | (simp [hH] <;> omega)))))) (hall_cons (hop_mv rfl (by decide) rfl rfl) (hall_cons (hop_val [(27, 253, _)] [] rfl rfl rfl (by decide) rfl (jcons rfl rfl rfl rfl rfl (jnil)) (xnil) (fun _ _ _ _ => does_v (rv_indexR1 (rd_own (i := 0) rfl) Tryd.underlying121 sz77 rfl rfl (j := 6) rfl (by first | omega | (simp [hH] <;> omega))))) (hall_cons (hop_val [(28, 254, _)] [] rfl rfl rfl (by decide) rfl (jcons rfl rfl rfl rfl rfl (jnil)) (xnil) (fun _ _ _ _ => does_v (rv_load_rd (rd_own (i := 0) rfl) tyS77 rfl (get64 (by first | omega | (simp [hH] <;> omega)))))) (hall_nil))))))))))))))))))))))))))))))) (draw_end1 [(4, 230, _), (7, 233, _), (10, 236, _), (13, 239, _), (20, 246, _), (23, 249, _), (26, 252, _), (29, 255, _)] (jcons rfl rfl rfl rfl rfl (jcons rfl rfl rfl rfl rfl (jcons rfl rfl rfl rfl rfl (jcons rfl rfl rfl rfl rfl (jcons rfl rfl rfl rfl rfl (jcons rfl rfl rfl rfl rfl (jcons rfl rfl rfl rfl rfl (jcons rfl rfl rfl rfl rfl (jnil))))))))) ?_)
            refine st_drawTail (N := 30) [0, 0, 3, 0, 15, 0, 32, 96, 0, 256, 768, 0, 2048, 6144, 0, 16384, 49152, 0, 245760, 0, 1032192, 0, 2097152, 6291456, 0, 16777216, 50331648, 0, 134217728, 402653184, 1073741823, 2147483647] (by kernel_rfl) (by kernel_rfl) ?_
            refine st_buildO Tryd.underlying121 tyZ77 rfl rfl (by decide) (cs := ((stpR 32 (rndR 32 K (schR 32 K (padW s 64 8) (64 * m) (K.length - 16)) (feedR 32 K H (padW s 64 8) m) t) (K.getD t 0#64) ((schR 32 K (padW s 64 8) (64 * m) (K.length - 16)).getD t 0#64)).map U64).toArray) rfl rfl (by decide) (fun v14 => ?_)
            refine st_v (rv_assign rfl) (by decide) ?_
            refine st_nil ?_
            refine st_in_normal ?_
            refine st_then ?_
            refine st_region ?_
            refine st_v (rv_move rfl) (by decide) ?_
            first | refine st_v (rv_addN (b := 1) rfl rfl (by first | omega | (simp; done) | (simp; omega))) (by decide) ?_ | refine st_v (rv_addZ rfl rfl (by first | omega | (simp; done) | (simp; omega))) (by decide) ?_
            refine st_v (rv_assign rfl) (by decide) ?_
            refine st_nil ?_
            refine st_then ?_
            exact st_again (t + 1, _) (by omega) (by omega) (.cons rfl (.cons rfl (.cons rfl (.cons rfl (.cons rfl (.cons rfl (.cons rfl (.cons rfl (.cons rfl (.cons rfl (.cons rfl (.cons rfl (.cons rfl (.nil _)))))))))))))) (fun _ hM => hM.sublist (List.Sublist.cons_cons _ (List.Sublist.cons _ (List.Sublist.cons_cons _ (List.Sublist.cons_cons _ (List.Sublist.cons_cons _ (List.Sublist.cons_cons _ (List.Sublist.cons_cons _ (List.Sublist.cons_cons _ (List.Sublist.cons_cons _ (List.Sublist.cons_cons _ (List.Sublist.cons_cons _ (List.Sublist.cons_cons _ (List.Sublist.cons_cons _ (List.Sublist.cons_cons _ (List.Sublist.slnil))))))))))))))))
          · -- t149 False
            try simp only [z1, z2, z3, z4, z5, z6, z7, z8, z9, z10, z11, z12, z13, z14] at hc149
            obtain rfl : t = K.length := by omega
            refine st_exit ?_
            refine st_then_exit ?_
            refine st_then_exit ?_
            refine st_in_exit ?_
            refine st_then ?_
            refine st_seq ?_
            refine st_region ?_
            refine st_v (rv_assign rfl) (by decide) ?_
            refine st_nil ?_
            refine st_then ?_
            refine st_block ?_
            refine st_loopA (σ := Nat) [(0, kst _), (2, kst _), (9, kst _), (10, kst _), (11, kst _), (12, kst _), (13, kst _), (15, kst _), (16, kst _), (17, kst _), (22, kst _), (26, fun i => vI i)] [kst _, kst _, fun i => blk b11 (c64 (addR 32 (rndR 32 K (schR 32 K (padW s 64 8) (64 * m) (K.length - 16)) (feedR 32 K H (padW s 64 8) m) K.length) (feedR 32 K H (padW s 64 8) m) i)) 77, kst _, kst _, kst _, kst _, kst _, kst _, kst _, kst _, kst _, kst _] (fun i => i ≤ 8) (fun i => 8 - i) 0 (by omega) (.cons rfl (.cons rfl (.cons rfl (.cons rfl (.cons rfl (.cons rfl (.cons rfl (.cons rfl (.cons rfl (.cons rfl (.cons rfl (.cons rfl (.nil _))))))))))))) (fun _ hM => hM) ?_
            intro i hI
            try dsimp only at hI
            dsimp only [List.map, kst]
            refine st_seq ?_
            refine st_seq ?_
            refine st_region ?_
            refine st_v (rv_move rfl) (by decide) ?_
            refine st_v (rv_lssZ rfl rfl) (by decide) ?_
            refine st_nil ?_
            refine st_then ?_
            refine st_cond rfl (fun hc258 => ?_) (fun hc258 => ?_)
            · -- t258 True
              try simp only [z1, z2, z3, z4, z5, z6, z7, z8, z9, z10, z11, z12, z13, z14] at hc258
              refine st_skip ?_
              refine st_then ?_
              refine st_seq ?_
              refine st_block ?_
              refine st_drawStart mixed ?_
              refine st_drawSeg1 (E0 := [(0, _), (2, _), (9, _), (10, _), (11, _), (12, _), (13, _), (15, _), (16, _), (17, _), (22, _), (26, _)]) [kpeq _, kpeq _, kpeq _, kpeq _, kpeq _, kpeq _, kpeq _, kpeq _, kpeq _, kpeq _, kpeq _, kpeq _, kpeq _] 0 13 [0, 0, 0, 0, 12, 28, 0, 0, 192, 448, 1020, 0, 4092, 8191, 16383] [0, 2, 9, 10, 11, 12, 13, 15, 16, 17, 22, 26] (by kernel_rfl) (by decide) (by kernel_rfl) (.cons rfl (.cons rfl (.cons rfl (.cons rfl (.cons rfl (.cons rfl (.cons rfl (.cons rfl (.cons rfl (.cons rfl (.cons rfl (.cons rfl (.nil _))))))))))))) rfl rfl (hall_cons (hop_mv rfl (by decide) rfl rfl) (hall_cons (hop_mv rfl (by decide) rfl rfl) (hall_cons (hop_mv rfl (by decide) rfl rfl) (hall_cons (hop_mv rfl (by decide) rfl rfl) (hall_cons (hop_val [(2, 263, _), (3, 264, _)] [] rfl rfl rfl (by decide) rfl (jcons rfl rfl rfl rfl rfl (jcons rfl rfl rfl rfl rfl (jnil))) (xnil) (fun _ _ _ _ => does_v (rv_indexS Tryd.underlying121 sz77 rfl rfl rfl (by first | omega | (simp [hH] <;> omega)) (by first | exact (Nat.zero_add _).trans (Nat.mul_one _) | exact congrArg _ (Nat.mul_one _) | rfl)))) (hall_cons (hop_val [(4, 265, _)] [] rfl rfl rfl (by decide) rfl (jcons rfl rfl rfl rfl rfl (jnil)) (xnil) (fun _ _ _ _ => does_v (rv_load_blk tyS77 rfl (i := 2) rfl (cell64 (by first | omega | (simp [hH] <;> omega)))))) (hall_cons (hop_mv rfl (by decide) rfl rfl) (hall_cons (hop_mv rfl (by decide) rfl rfl) (hall_cons (hop_val [(6, 267, _), (7, 268, _)] [] rfl rfl rfl (by decide) rfl (jcons rfl rfl rfl rfl rfl (jcons rfl rfl rfl rfl rfl (jnil))) (xnil) (fun _ _ _ _ => does_v (rv_indexR1 (rd_own (i := 0) rfl) Tryd.underlying121 sz77 rfl rfl rfl (by first | omega | (simp [hH] <;> omega))))) (hall_cons (hop_val [(8, 269, _)] [] rfl rfl rfl (by decide) rfl (jcons rfl rfl rfl rfl rfl (jnil)) (xnil) (fun _ _ _ _ => does_v (rv_load_rd (rd_own (i := 0) rfl) tyS77 rfl (get64 (by first | omega | (simp [hH] <;> omega)))))) (hall_cons (hop_val [(5, 266, _), (9, 270, _)] [] rfl rfl rfl (by decide) rfl (jcons rfl rfl rfl rfl rfl (jcons rfl rfl rfl rfl rfl (jnil))) (xnil) (fun _ _ _ _ => does_v (rv_add64 rfl rfl))) (hall_cons (hop_mv rfl (by decide) rfl rfl) (hall_cons (hop_val [(10, 271, _), (11, 272, _)] [] rfl rfl rfl (by decide) rfl (jcons rfl rfl rfl rfl rfl (jcons rfl rfl rfl rfl rfl (jnil))) (xnil) (fun _ _ _ _ => does_v (rv_and64 rfl rfl))) (hall_nil)))))))))))))) (draw_end1 [(0, 261, _), (1, 262, _), (12, 273, _)] (jcons rfl rfl rfl rfl rfl (jcons rfl rfl rfl rfl rfl (jcons rfl rfl rfl rfl rfl (jnil)))) ?_)
              refine st_drawTail (N := 13) [0, 0, 0, 0, 12, 28, 0, 0, 192, 448, 1020, 0, 4092, 8191, 16383] (by kernel_rfl) (by kernel_rfl) ?_
              refine st_v (rv_indexS Tryd.underlying121 sz77 rfl rfl rfl (by first | omega | (simp [hH] <;> omega)) (by first | exact (Nat.zero_add _).trans (Nat.mul_one _) | exact congrArg _ (Nat.mul_one _) | rfl)) (by decide) ?_
              refine st_store64 rfl rfl (i := 2) rfl sz77 (by first | omega | (simp [hH] <;> omega)) (l' := [_, _, _, _, _, _, _, _, _, _, _, _, _]) rfl ?_
              refine st_nil ?_
              refine st_in_normal ?_
              refine st_then ?_
              refine st_region ?_
              refine st_v (rv_move rfl) (by decide) ?_
              first | refine st_v (rv_addN (b := 1) rfl rfl (by first | omega | (simp; done) | (simp; omega))) (by decide) ?_ | refine st_v (rv_addZ rfl rfl (by first | omega | (simp; done) | (simp; omega))) (by decide) ?_
              refine st_v (rv_assign rfl) (by decide) ?_
              refine st_nil ?_
              refine st_then ?_
              exact st_again (i + 1) (by omega) (by omega) (.cons rfl (.cons rfl (.cons rfl (.cons rfl (.cons rfl (.cons rfl (.cons rfl (.cons rfl (.cons rfl (.cons rfl (.cons rfl (.cons rfl (.nil _))))))))))))) (fun _ hM => hM)
            · -- t258 False
              try simp only [z1, z2, z3, z4, z5, z6, z7, z8, z9, z10, z11, z12, z13, z14] at hc258
              obtain rfl : i = 8 := by omega
              refine st_exit ?_
              refine st_then_exit ?_
              refine st_then_exit ?_
              refine st_in_exit ?_
              refine st_in_normal ?_
              refine st_then ?_
              refine st_region ?_
              refine st_v (rv_move rfl) (by decide) ?_
              refine st_v (rv_move rfl) (by decide) ?_
              first | refine st_v (rv_mulN (a := 16) rfl rfl (by first | omega | (simp; done) | (simp; omega))) (by decide) ?_ | refine st_v (rv_mulZ rfl rfl (by first | omega | (simp; done) | (simp; omega))) (by decide) ?_
              first | refine st_v (rv_addN rfl rfl (by first | omega | (simp; done) | (simp; omega))) (by decide) ?_ | refine st_v (rv_addZ rfl rfl (by first | omega | (simp; done) | (simp; omega))) (by decide) ?_
              refine st_v (rv_assign rfl) (by decide) ?_
              refine st_nil ?_
              refine st_then ?_
              exact st_again (m + 1) (by omega) (by omega) (.cons rfl (.cons rfl (.cons rfl (.cons rfl (.cons rfl (.cons rfl (.cons rfl (.cons rfl (.cons rfl (SubE.cons (congrArg some (congrArg (fun z : Nat => vI z) (by omega))) (.nil _))))))))))) (fun _ hM => hM.sublist (List.Sublist.cons _ (List.Sublist.cons _ (List.Sublist.cons_cons _ (List.Sublist.cons_cons _ (List.Sublist.cons_cons _ (List.Sublist.cons_cons _ (List.Sublist.cons_cons _ (List.Sublist.cons_cons _ (List.Sublist.cons_cons _ (List.Sublist.cons_cons _ (List.Sublist.cons_cons _ (List.Sublist.cons_cons _ (List.Sublist.cons_cons _ (List.Sublist.slnil)))))))))))))))
    · -- t63 False
      try simp only [z1, z2, z3, z4, z5, z6, z7, z8, z9, z10, z11, z12, z13, z14] at hc63
      obtain rfl : M = m := by omega
      refine st_exit ?_
      refine st_then_exit ?_
      refine st_then_exit ?_
      refine st_in_exit ?_
      refine st_then ?_
      refine st_seq ?_
      refine st_region ?_
      refine st_v (rv_assign rfl) (by decide) ?_
      refine st_nil ?_
      refine st_then ?_
      refine st_seq ?_
      refine st_seq ?_
      refine st_region ?_
      refine st_v (rv_assign rfl) (by decide) ?_
      refine st_nil ?_
      refine st_then ?_
      refine st_block ?_
      refine st_loopA (σ := Nat) [(0, kst _), (13, kst _), (16, kst _), (27, fun i => vS (outR 32 (feedR 32 K H (padW s 64 8) M) i)), (28, fun i => vI i)] [kst _, kst _, kst _, kst _, kst _, kst _, kst _, kst _, kst _, kst _, kst _] (fun i => i ≤ 8) (fun i => 8 - i) 0 (by omega) (.cons rfl (.cons rfl (.cons rfl (.cons rfl (.cons rfl (.nil _)))))) (fun _ hM => hM) ?_
      intro i hI
      try dsimp only at hI
      dsimp only [List.map, kst]
      refine st_seq ?_
      refine st_seq ?_
      refine st_region ?_
      refine st_v (rv_move rfl) (by decide) ?_
      refine st_v (rv_lssZ rfl rfl) (by decide) ?_
      refine st_nil ?_
      refine st_then ?_
      refine st_cond rfl (fun hc276 => ?_) (fun hc276 => ?_)
      · -- t276 True
        try simp only [z1, z2, z3, z4, z5, z6, z7, z8, z9, z10, z11, z12, z13, z14] at hc276
        refine st_skip ?_
        refine st_then ?_
        refine st_seq ?_
        refine st_block ?_
        refine st_region ?_
        refine st_v (rv_move rfl) (by decide) ?_
        refine st_v (rv_move rfl) (by decide) ?_
        refine st_v (rv_move rfl) (by decide) ?_
        refine st_v (rv_indexS Tryd.underlying121 sz77 rfl rfl rfl (by first | omega | (simp [hH] <;> omega)) (by first | exact (Nat.zero_add _).trans (Nat.mul_one _) | exact congrArg _ (Nat.mul_one _) | rfl)) (by decide) ?_
        refine st_v (rv_load_blk tyS77 rfl (i := 0) rfl (cell64 (by first | omega | (simp [hH] <;> omega)))) (by decide) ?_
        refine st_v (rv_move rfl) (by decide) ?_
        refine st_call0 cal125 rfl (fun w hM => (number_calls _ 4 (by decide) w)) (by decide) ?_
        refine st_v (rv_concat rfl rfl (by first | omega | (simp [hH] <;> omega))) (by decide) ?_
        refine st_v (rv_assign rfl) (by decide) ?_
        refine st_nil ?_
        refine st_in_normal ?_
        refine st_then ?_
        refine st_region ?_
        refine st_v (rv_move rfl) (by decide) ?_
        first | refine st_v (rv_addN (b := 1) rfl rfl (by first | omega | (simp; done) | (simp; omega))) (by decide) ?_ | refine st_v (rv_addZ rfl rfl (by first | omega | (simp; done) | (simp; omega))) (by decide) ?_
        refine st_v (rv_assign rfl) (by decide) ?_
        refine st_nil ?_
        refine st_then ?_
        exact st_again (i + 1) (by omega) (by omega) (.cons rfl (.cons rfl (.cons rfl (.cons rfl (.cons rfl (.nil _)))))) (fun _ hM => hM)
      · -- t276 False
        try simp only [z1, z2, z3, z4, z5, z6, z7, z8, z9, z10, z11, z12, z13, z14] at hc276
        obtain rfl : i = 8 := by omega
        refine st_exit ?_
        refine st_then_exit ?_
        refine st_then_exit ?_
        refine st_in_exit ?_
        refine st_then ?_
        refine st_seq ?_
        refine st_region ?_
        refine st_v (rv_move rfl) (by decide) ?_
        refine st_v (rv_move rfl) (by decide) ?_
        refine st_call0 cal36 rfl (fun w hM => (rSize0 w)) (by decide) ?_
        refine st_v (rv_sliceB Tryd.underlying9 rfl evB_none (evB_some rfl rfl) (by first | omega | (simp [hH] <;> omega)) (by first | omega | (simp [hH] <;> omega))) (by decide) ?_
        refine st_v (rv_assign rfl) (by decide) ?_
        refine st_nil ?_
        refine st_then ?_
        refine st_ret ?_
        exact st_done rfl rfl (fun w hM => ⟨by rw [withR, hMd]; rfl, hM.sublist (List.nil_sublist _)⟩)
set_option maxRecDepth 100000 in
set_option maxHeartbeats 4000000 in
theorem with1_calls (s : List (BitVec 8)) (vK vH : Value) (K H : List (BitVec 64)) (hs : s.length ≤ 900000) (hK : 16 ≤ K.length ∧ K.length ≤ 100) (hH : H.length = 8) (w : World) (hKR : Rd w vK K.length 1 (K.map U64)) (hHR : Rd w vH H.length 1 (H.map U64)) : Calls Tryd.prog 85 #[vI (1 : Nat), vS s, vK, vH] w (fun r w' => r = .returned (vS (withR 64 48 K H (padW s 128 16))) ∧ Mem (All w) w w' []) := by
  obtain ⟨hK16, hK100⟩ := hK
  obtain ⟨M, hMd⟩ : ∃ M, (padW s 128 16).length / (16 * nbR 64) = M := ⟨_, rfl⟩
  have hpl : (padW s 128 16).length = 128 * M := by have h1 := padW128 s; have e : 16 * nbR 64 = 128 := rfl; rw [e] at hMd; omega
  have hpm : (padW s 128 16).length ≤ 1000000 := by rw [length_padW, zcount]; omega
  refine calls_of_st (n := 291) (args := [vI (1 : Nat), vS s, vK, vH]) Tryd.func85 rfl Tryd.ntmps85 (Nat.le_of_ble_eq_true rfl) (Mem.all w) ?_
  refine st_seq ?_
  refine st_region ?_
  refine st_v (rv_assign rfl) (by decide) ?_
  refine st_nil ?_
  refine st_then ?_
  refine st_seq ?_
  refine st_region ?_
  refine st_v (rv_to (u := vI (64 : Nat)) (rv_assign rfl) rfl) (by decide) ?_
  refine st_nil ?_
  refine st_then ?_
  refine st_seq ?_
  refine st_region ?_
  refine st_buildSlice Tryd.underlying47 tyZ3 rfl rfl (by decide) (cs := #[_, _, _]) rfl (by decide) (fun b1 hb1 => ?_)
  refine st_buildSlice Tryd.underlying47 tyZ3 rfl rfl (by decide) (cs := #[_, _, _]) rfl (by decide) (fun b2 hb2 => ?_)
  refine st_buildSlice Tryd.underlying47 tyZ3 rfl rfl (by decide) (cs := #[_, _, _]) rfl (by decide) (fun b3 hb3 => ?_)
  refine st_buildSlice Tryd.underlying47 tyZ3 rfl rfl (by decide) (cs := #[_, _, _]) rfl (by decide) (fun b4 hb4 => ?_)
  refine st_buildO Tryd.underlying169 tyZ47 rfl rfl (by decide) (cs := #[_, _, _, _]) (by first | rfl | (simp only [fillL, rfl, rfl, rfl, rfl] <;> rfl)) rfl (by decide) (fun v5 => ?_)
  refine st_v (rv_assign rfl) (by decide) ?_
  refine st_nil ?_
  refine st_then ?_
  refine st_seq ?_
  refine st_region ?_
  refine st_v (rv_to (u := U64 18446744073709551615#64) (rv_assign rfl) rfl) (by decide) ?_
  refine st_nil ?_
  refine st_then ?_
  refine st_seq ?_
  refine st_region ?_
  refine st_v (rv_to (u := vI (0 : Nat)) (rv_assign rfl) rfl) (by decide) ?_
  refine st_nil ?_
  refine st_then ?_
  refine st_seq ?_
  refine st_seq ?_
  refine st_region ?_
  refine st_v (rv_move rfl) (by decide) ?_
  refine st_v (rv_eqlZ rfl rfl) (by decide) ?_
  refine st_nil ?_
  refine st_then ?_
  refine st_false rfl ?_
  refine st_skip ?_
  refine st_then ?_
  refine st_seq ?_
  refine st_region ?_
  refine st_make64 Tryd.underlying121 tyZ77 (len := 8) (cap := 8) rfl rfl (by omega) (by omega) (by omega) (by decide) (fun b6 hb6 => ?_)
  refine st_v (rv_assign rfl) (by decide) ?_
  refine st_nil ?_
  refine st_then ?_
  refine st_seq ?_
  refine st_seq ?_
  refine st_region ?_
  refine st_v (rv_assign rfl) (by decide) ?_
  refine st_nil ?_
  refine st_then ?_
  refine st_block ?_
  refine st_loopA (σ := Nat) [(0, kst _), (1, kst _), (2, kst _), (3, kst _), (9, kst _), (10, kst _), (11, kst _), (12, kst _), (13, kst _), (14, fun i => vI i)] [fun i => blk b6 (c64 (initR 64 H i)) 77, kst _, kst _, kst _, kst _, kst _] (fun i => i ≤ 8) (fun i => 8 - i) 0 (by omega) (.cons rfl (.cons rfl (.cons rfl (.cons rfl (.cons rfl (.cons rfl (.cons rfl (.cons rfl (.cons rfl (.cons rfl (.nil _))))))))))) (fun _ hM => hM) ?_
  intro i hI
  try dsimp only at hI
  dsimp only [List.map, kst]
  refine st_seq ?_
  refine st_seq ?_
  refine st_region ?_
  refine st_v (rv_move rfl) (by decide) ?_
  refine st_v (rv_lssZ rfl rfl) (by decide) ?_
  refine st_nil ?_
  refine st_then ?_
  refine st_cond rfl (fun hc43 => ?_) (fun hc43 => ?_)
  · -- t43 True
    try simp only [z1, z2, z3, z4, z5, z6, z7, z8, z9, z10, z11, z12, z13, z14] at hc43
    refine st_skip ?_
    refine st_then ?_
    refine st_seq ?_
    refine st_block ?_
    refine st_region ?_
    refine st_v (rv_move rfl) (by decide) ?_
    refine st_v (rv_move rfl) (by decide) ?_
    refine st_v (rv_move rfl) (by decide) ?_
    refine st_v (rv_move rfl) (by decide) ?_
    refine st_v (rv_indexR1 (rd_old hHR hHR.all) Tryd.underlying121 sz77 rfl rfl rfl (by first | omega | (simp [hH] <;> omega))) (by decide) ?_
    refine st_v (rv_load_rd (rd_old hHR hHR.all) tyS77 rfl (get64 (by first | omega | (simp [hH] <;> omega)))) (by decide) ?_
    refine st_v (rv_move rfl) (by decide) ?_
    refine st_v (rv_shr64 rfl rfl rfl) (by decide) ?_
    refine st_v (rv_indexS Tryd.underlying121 sz77 rfl rfl rfl (by first | omega | (simp [hH] <;> omega)) (by first | exact (Nat.zero_add _).trans (Nat.mul_one _) | exact congrArg _ (Nat.mul_one _) | rfl)) (by decide) ?_
    refine st_store64 rfl rfl (i := 0) rfl sz77 (by first | omega | (simp [hH] <;> omega)) (l' := [_, _, _, _, _, _]) rfl ?_
    refine st_nil ?_
    refine st_in_normal ?_
    refine st_then ?_
    refine st_region ?_
    refine st_v (rv_move rfl) (by decide) ?_
    first | refine st_v (rv_addN (b := 1) rfl rfl (by first | omega | (simp; done) | (simp; omega))) (by decide) ?_ | refine st_v (rv_addZ rfl rfl (by first | omega | (simp; done) | (simp; omega))) (by decide) ?_
    refine st_v (rv_assign rfl) (by decide) ?_
    refine st_nil ?_
    refine st_then ?_
    exact st_again (i + 1) (by omega) (by omega) (.cons rfl (.cons rfl (.cons rfl (.cons rfl (.cons rfl (.cons rfl (.cons rfl (.cons rfl (.cons rfl (.cons rfl (.nil _))))))))))) (fun _ hM => hM)
  · -- t43 False
    try simp only [z1, z2, z3, z4, z5, z6, z7, z8, z9, z10, z11, z12, z13, z14] at hc43
    obtain rfl : i = 8 := by omega
    refine st_exit ?_
    refine st_then_exit ?_
    refine st_then_exit ?_
    refine st_in_exit ?_
    refine st_then ?_
    refine st_seq ?_
    refine st_region ?_
    refine st_v (rv_move rfl) (by decide) ?_
    refine st_v (rv_move rfl) (by decide) ?_
    refine st_call0 cal123 rfl (fun w hM => (padded1_calls s hs w)) (by decide) ?_
    refine st_v (rv_assign rfl) (by decide) ?_
    refine st_nil ?_
    refine st_then ?_
    refine st_seq ?_
    refine st_region ?_
    refine st_v (rv_move rfl) (by decide) ?_
    refine st_v (rv_to (u := vI (8 : Nat)) (rv_quoN (a := 64) (b := 8) rfl rfl (by omega)) (by rfl)) (by decide) ?_
    refine st_v (rv_assign rfl) (by decide) ?_
    refine st_nil ?_
    refine st_then ?_
    refine st_seq ?_
    refine st_seq ?_
    refine st_region ?_
    refine st_v (rv_assign rfl) (by decide) ?_
    refine st_nil ?_
    refine st_then ?_
    refine st_block ?_
    refine st_loopA (σ := Nat) [(0, kst _), (2, kst _), (9, kst _), (10, kst _), (11, kst _), (12, kst _), (13, kst _), (15, kst _), (16, kst _), (17, fun m => vI (128 * m : Nat))] [fun m => blk b6 (c64 (feedR 64 K H (padW s 128 16) m)) 77, kst _, kst _, kst _, kst _, kst _] (fun m => m ≤ M) (fun m => M - m) 0 (by omega) (.cons rfl (.cons rfl (.cons rfl (.cons rfl (.cons rfl (.cons rfl (.cons rfl (.cons rfl (.cons rfl (.cons rfl (.nil _))))))))))) (fun _ hM => hM) ?_
    intro m hI
    try dsimp only at hI
    dsimp only [List.map, kst]
    refine st_seq ?_
    refine st_seq ?_
    refine st_region ?_
    refine st_v (rv_move rfl) (by decide) ?_
    refine st_v (rv_move rfl) (by decide) ?_
    refine st_v (rv_lenB Tryd.underlying9 rfl) (by decide) ?_
    refine st_v (rv_lssZ rfl rfl) (by decide) ?_
    refine st_nil ?_
    refine st_then ?_
    refine st_cond rfl (fun hc63 => ?_) (fun hc63 => ?_)
    · -- t63 True
      try simp only [z1, z2, z3, z4, z5, z6, z7, z8, z9, z10, z11, z12, z13, z14] at hc63
      refine st_skip ?_
      refine st_then ?_
      refine st_seq ?_
      refine st_block ?_
      refine st_seq ?_
      refine st_region ?_
      refine st_v (rv_move rfl) (by decide) ?_
      refine st_v (rv_lenR (rd_old hKR hKR.all) Tryd.underlying121 rfl) (by decide) ?_
      refine st_make64 Tryd.underlying121 tyZ77 rfl rfl (by omega) (by omega) (by omega) (by decide) (fun b7 hb7 => ?_)
      refine st_v (rv_assign rfl) (by decide) ?_
      refine st_nil ?_
      refine st_then ?_
      refine st_seq ?_
      refine st_seq ?_
      refine st_region ?_
      refine st_v (rv_assign rfl) (by decide) ?_
      refine st_nil ?_
      refine st_then ?_
      refine st_block ?_
      refine st_loopA (σ := Nat) [(0, kst _), (2, kst _), (9, kst _), (10, kst _), (11, kst _), (12, kst _), (13, kst _), (15, kst _), (16, kst _), (17, kst _), (18, kst _), (19, fun t => vI t)] [fun t => blk b7 (c64 (f16R 64 K (padW s 128 16) (128 * m) t)) 77, kst _, kst _, kst _, kst _, kst _, kst _] (fun t => t ≤ 16) (fun t => 16 - t) 0 (by omega) (.cons rfl (.cons rfl (.cons rfl (.cons rfl (.cons rfl (.cons rfl (.cons rfl (.cons rfl (.cons rfl (.cons rfl (.cons rfl (.cons rfl (.nil _))))))))))))) (fun _ hM => hM) ?_
      intro t hI
      try dsimp only at hI
      dsimp only [List.map, kst]
      refine st_seq ?_
      refine st_seq ?_
      refine st_region ?_
      refine st_v (rv_move rfl) (by decide) ?_
      refine st_v (rv_lssZ rfl rfl) (by decide) ?_
      refine st_nil ?_
      refine st_then ?_
      refine st_cond rfl (fun hc72 => ?_) (fun hc72 => ?_)
      · -- t72 True
        try simp only [z1, z2, z3, z4, z5, z6, z7, z8, z9, z10, z11, z12, z13, z14] at hc72
        refine st_skip ?_
        refine st_then ?_
        refine st_seq ?_
        refine st_block ?_
        refine st_seq ?_
        refine st_region ?_
        refine st_v (rv_assign rfl) (by decide) ?_
        refine st_nil ?_
        refine st_then ?_
        refine st_block ?_
        refine st_loopA (σ := Nat) [(0, kst _), (2, kst _), (9, kst _), (10, kst _), (11, kst _), (12, kst _), (13, kst _), (15, kst _), (16, kst _), (17, kst _), (18, kst _), (19, kst _), (20, fun i => vI i)] [fun i => blk b7 (c64 (accR 64 (padW s 128 16) (f16R 64 K (padW s 128 16) (128 * m) t) (128 * m) t i)) 77, kst _, kst _, kst _, kst _, kst _, kst _] (fun i => i ≤ 8) (fun i => 8 - i) 0 (by omega) (.cons rfl (.cons rfl (.cons rfl (.cons rfl (.cons rfl (.cons rfl (.cons rfl (.cons rfl (.cons rfl (.cons rfl (.cons rfl (.cons rfl (.cons rfl (.nil _)))))))))))))) (fun _ hM => hM) ?_
        intro i hI
        try dsimp only at hI
        dsimp only [List.map, kst]
        refine st_seq ?_
        refine st_seq ?_
        refine st_region ?_
        refine st_v (rv_move rfl) (by decide) ?_
        refine st_v (rv_move rfl) (by decide) ?_
        refine st_v (rv_lssZ rfl rfl) (by decide) ?_
        refine st_nil ?_
        refine st_then ?_
        refine st_cond rfl (fun hc77 => ?_) (fun hc77 => ?_)
        · -- t77 True
          try simp only [z1, z2, z3, z4, z5, z6, z7, z8, z9, z10, z11, z12, z13, z14] at hc77
          refine st_skip ?_
          refine st_then ?_
          refine st_seq ?_
          refine st_block ?_
          refine st_drawStart mixed ?_
          refine st_drawSeg1 (E0 := [(0, _), (2, _), (9, _), (10, _), (11, _), (12, _), (13, _), (15, _), (16, _), (17, _), (18, _), (19, _), (20, _)]) [kpeq _, kpeq _, kpeq _, kpeq _, kpeq _, kpeq _, kpeq _, kpeq _, kpeq _, kpeq _, kpeq _, kpeq _, kpeq _, kpeq _, kpeq _, kpeq _, kpeq _, kpeq _] 0 18 [0, 0, 0, 0, 12, 28, 60, 0, 0, 0, 0, 1536, 3840, 0, 16128, 32640, 65408, 131068, 262143, 524287] [0, 2, 9, 10, 11, 12, 13, 15, 16, 17, 18, 19, 20] (by kernel_rfl) (by decide) (by kernel_rfl) (.cons rfl (.cons rfl (.cons rfl (.cons rfl (.cons rfl (.cons rfl (.cons rfl (.cons rfl (.cons rfl (.cons rfl (.cons rfl (.cons rfl (.cons rfl (.nil _)))))))))))))) rfl rfl (hall_cons (hop_mv rfl (by decide) rfl rfl) (hall_cons (hop_mv rfl (by decide) rfl rfl) (hall_cons (hop_mv rfl (by decide) rfl rfl) (hall_cons (hop_mv rfl (by decide) rfl rfl) (hall_cons (hop_val [(2, 82, _), (3, 83, _)] [] rfl rfl rfl (by decide) rfl (jcons rfl rfl rfl rfl rfl (jcons rfl rfl rfl rfl rfl (jnil))) (xnil) (fun _ _ _ _ => does_v (rv_indexS Tryd.underlying121 sz77 rfl rfl rfl (by first | omega | (simp [hH] <;> omega)) (by first | exact (Nat.zero_add _).trans (Nat.mul_one _) | exact congrArg _ (Nat.mul_one _) | rfl)))) (hall_cons (hop_val [(4, 84, _)] [] rfl rfl rfl (by decide) rfl (jcons rfl rfl rfl rfl rfl (jnil)) (xnil) (fun _ _ _ _ => does_v (rv_load_blk tyS77 rfl (i := 0) rfl (cell64 (by first | omega | (simp [hH] <;> omega)))))) (hall_cons (hop_val [(5, 85, _)] [] rfl rfl rfl (by decide) rfl (jcons rfl rfl rfl rfl rfl (jnil)) (xnil) (fun _ _ _ _ => does_v (rv_shl64 (s := 8) rfl rfl rfl))) (hall_cons (hop_mv rfl (by decide) rfl rfl) (hall_cons (hop_mv rfl (by decide) rfl rfl) (hall_cons (hop_mv rfl (by decide) rfl rfl) (hall_cons (hop_mv rfl (by decide) rfl rfl) (hall_cons (hop_val [(9, 89, _), (10, 90, _)] [] rfl rfl rfl (by decide) rfl (jcons rfl rfl rfl rfl rfl (jcons rfl rfl rfl rfl rfl (jnil))) (xnil) (fun _ _ _ _ => does_v (rv_mulN rfl rfl (by first | omega | (simp; done) | (simp; omega))))) (hall_cons (hop_val [(8, 88, _), (11, 91, _)] [] rfl rfl rfl (by decide) rfl (jcons rfl rfl rfl rfl rfl (jcons rfl rfl rfl rfl rfl (jnil))) (xnil) (fun _ _ _ _ => does_v (rv_addN rfl rfl (by first | omega | (simp; done) | (simp; omega))))) (hall_cons (hop_mv rfl (by decide) rfl rfl) (hall_cons (hop_val [(12, 92, _), (13, 93, _)] [] rfl rfl rfl (by decide) rfl (jcons rfl rfl rfl rfl rfl (jcons rfl rfl rfl rfl rfl (jnil))) (xnil) (fun _ _ _ _ => does_v (rv_addN rfl rfl (by first | omega | (simp; done) | (simp; omega))))) (hall_cons (hop_val [(7, 87, _), (14, 94, _)] [] rfl rfl rfl (by decide) rfl (jcons rfl rfl rfl rfl rfl (jcons rfl rfl rfl rfl rfl (jnil))) (xnil) (fun _ _ _ _ => does_v (rv_indexB Tryd.underlying9 rfl rfl rfl (by first | omega | (simp [hH] <;> omega))))) (hall_cons (hop_val [(15, 95, _)] [] rfl rfl rfl (by decide) rfl (jcons rfl rfl rfl rfl rfl (jnil)) (xnil) (fun _ _ _ _ => does_v (rv_conv8to64 Tryd.underlying5 Tryd.underlying77 rfl))) (hall_cons (hop_val [(6, 86, _), (16, 96, _)] [] rfl rfl rfl (by decide) rfl (jcons rfl rfl rfl rfl rfl (jcons rfl rfl rfl rfl rfl (jnil))) (xnil) (fun _ _ _ _ => does_v (rv_or64 rfl rfl))) (hall_nil))))))))))))))))))) (draw_end1 [(0, 80, _), (1, 81, _), (17, 97, _)] (jcons rfl rfl rfl rfl rfl (jcons rfl rfl rfl rfl rfl (jcons rfl rfl rfl rfl rfl (jnil)))) ?_)
          refine st_drawTail (N := 18) [0, 0, 0, 0, 12, 28, 60, 0, 0, 0, 0, 1536, 3840, 0, 16128, 32640, 65408, 131068, 262143, 524287] (by kernel_rfl) (by kernel_rfl) ?_
          refine st_v (rv_indexS Tryd.underlying121 sz77 rfl rfl rfl (by first | omega | (simp [hH] <;> omega)) (by first | exact (Nat.zero_add _).trans (Nat.mul_one _) | exact congrArg _ (Nat.mul_one _) | rfl)) (by decide) ?_
          refine st_store64 rfl rfl (i := 0) rfl sz77 (by first | omega | (simp [hH] <;> omega)) (l' := [_, _, _, _, _, _, _]) rfl ?_
          refine st_nil ?_
          refine st_in_normal ?_
          refine st_then ?_
          refine st_region ?_
          refine st_v (rv_move rfl) (by decide) ?_
          first | refine st_v (rv_addN (b := 1) rfl rfl (by first | omega | (simp; done) | (simp; omega))) (by decide) ?_ | refine st_v (rv_addZ rfl rfl (by first | omega | (simp; done) | (simp; omega))) (by decide) ?_
          refine st_v (rv_assign rfl) (by decide) ?_
          refine st_nil ?_
          refine st_then ?_
          exact st_again (i + 1) (by omega) (by omega) (.cons rfl (.cons rfl (.cons rfl (.cons rfl (.cons rfl (.cons rfl (.cons rfl (.cons rfl (.cons rfl (.cons rfl (.cons rfl (.cons rfl (.cons rfl (.nil _)))))))))))))) (fun _ hM => hM)
        · -- t77 False
          try simp only [z1, z2, z3, z4, z5, z6, z7, z8, z9, z10, z11, z12, z13, z14] at hc77
          obtain rfl : i = 8 := by omega
          refine st_exit ?_
          refine st_then_exit ?_
          refine st_then_exit ?_
          refine st_in_exit ?_
          refine st_in_normal ?_
          refine st_then ?_
          refine st_region ?_
          refine st_v (rv_move rfl) (by decide) ?_
          first | refine st_v (rv_addN (b := 1) rfl rfl (by first | omega | (simp; done) | (simp; omega))) (by decide) ?_ | refine st_v (rv_addZ rfl rfl (by first | omega | (simp; done) | (simp; omega))) (by decide) ?_
          refine st_v (rv_assign rfl) (by decide) ?_
          refine st_nil ?_
          refine st_then ?_
          exact st_again (t + 1) (by omega) (by omega) (.cons rfl (.cons rfl (.cons rfl (.cons rfl (.cons rfl (.cons rfl (.cons rfl (.cons rfl (.cons rfl (.cons rfl (.cons rfl (.cons rfl (.nil _))))))))))))) (fun _ hM => hM)
      · -- t72 False
        try simp only [z1, z2, z3, z4, z5, z6, z7, z8, z9, z10, z11, z12, z13, z14] at hc72
        obtain rfl : t = 16 := by omega
        refine st_exit ?_
        refine st_then_exit ?_
        refine st_then_exit ?_
        refine st_in_exit ?_
        refine st_then ?_
        refine st_seq ?_
        refine st_seq ?_
        refine st_region ?_
        refine st_v (rv_assign rfl) (by decide) ?_
        refine st_nil ?_
        refine st_then ?_
        refine st_block ?_
        refine st_loopA (σ := Nat) [(0, kst _), (2, kst _), (9, kst _), (10, kst _), (11, kst _), (12, kst _), (13, kst _), (15, kst _), (16, kst _), (17, kst _), (18, kst _), (21, fun t => vI (16 + t : Nat))] [fun t => blk b7 (c64 (schR 64 K (padW s 128 16) (128 * m) t)) 77, kst _, kst _, kst _, kst _, kst _, kst _] (fun t => 16 + t ≤ K.length) (fun t => K.length - (16 + t)) 0 (by omega) (.cons rfl (.cons rfl (.cons rfl (.cons rfl (.cons rfl (.cons rfl (.cons rfl (.cons rfl (.cons rfl (.cons rfl (.cons rfl (.cons rfl (.nil _))))))))))))) (fun _ hM => hM) ?_
        intro t hI
        try dsimp only at hI
        dsimp only [List.map, kst]
        refine st_seq ?_
        refine st_seq ?_
        refine st_region ?_
        refine st_v (rv_move rfl) (by decide) ?_
        refine st_v (rv_move rfl) (by decide) ?_
        refine st_v (rv_lenR (rd_old hKR hKR.all) Tryd.underlying121 rfl) (by decide) ?_
        refine st_v (rv_lssZ rfl rfl) (by decide) ?_
        refine st_nil ?_
        refine st_then ?_
        refine st_cond rfl (fun hc102 => ?_) (fun hc102 => ?_)
        · -- t102 True
          try simp only [z1, z2, z3, z4, z5, z6, z7, z8, z9, z10, z11, z12, z13, z14] at hc102
          refine st_skip ?_
          refine st_then ?_
          refine st_seq ?_
          refine st_block ?_
          refine st_drawStart mixed ?_
          refine st_drawSeg1 (E0 := [(0, _), (2, _), (9, _), (10, _), (11, _), (12, _), (13, _), (15, _), (16, _), (17, _), (18, _), (21, _)]) [kpeq _, kpeq _, kpeq _, kpeq _, kpeq _, kpeq _, kpeq _, kpeq _, kpeq _, kpeq _, kpeq _, kpeq _, kpeq _, kpeq _, kpeq _, kpeq _, kpeq _, kpeq _, kpeq _, kpeq _, kpeq _, kpeq _, kpeq _, kpeq _, kpeq _, kpeq _, kpeq _, kpeq _, kpeq _, kpeq _, kpeq _, kpeq _, kpeq _, kpeq _, kpeq _, kpeq _, kpeq _] 0 37 [0, 0, 0, 0, 8, 28, 60, 0, 128, 384, 0, 2044, 0, 0, 8192, 28672, 61440, 131068, 0, 0, 524288, 1835008, 3932160, 0, 8388608, 25165824, 0, 133959676, 268435452, 0, 0, 1073741824, 3758096384, 8053063680, 17179869180, 0, 68719476732, 137438953471, 274877906943] [0, 2, 9, 10, 11, 12, 13, 15, 16, 17, 18, 21] (by kernel_rfl) (by decide) (by kernel_rfl) (.cons rfl (.cons rfl (.cons rfl (.cons rfl (.cons rfl (.cons rfl (.cons rfl (.cons rfl (.cons rfl (.cons rfl (.cons rfl (.cons rfl (.nil _))))))))))))) rfl rfl (hall_cons (hop_mv rfl (by decide) rfl rfl) (hall_cons (hop_mv rfl (by decide) rfl rfl) (hall_cons (hop_mv rfl (by decide) rfl rfl) (hall_cons (hop_mv rfl (by decide) rfl rfl) (hall_cons (hop_val [(3, 108, _)] [] rfl rfl rfl (by decide) rfl (jcons rfl rfl rfl rfl rfl (jnil)) (xnil) (fun _ _ _ _ => does_v (rv_subN (b := 2) rfl rfl (by first | omega | (simp; done) | (simp; omega))))) (hall_cons (hop_val [(2, 107, _), (4, 109, _)] [] rfl rfl rfl (by decide) rfl (jcons rfl rfl rfl rfl rfl (jcons rfl rfl rfl rfl rfl (jnil))) (xnil) (fun _ _ _ _ => does_v (rv_indexS Tryd.underlying121 sz77 rfl rfl rfl (by first | omega | (simp [hH] <;> omega)) (by first | exact (Nat.zero_add _).trans (Nat.mul_one _) | exact congrArg _ (Nat.mul_one _) | rfl)))) (hall_cons (hop_val [(5, 110, _)] [] rfl rfl rfl (by decide) rfl (jcons rfl rfl rfl rfl rfl (jnil)) (xnil) (fun _ _ _ _ => does_v (rv_load_blk tyS77 rfl (i := 0) rfl (cell64 (by first | omega | (simp [hH] <;> omega)))))) (hall_cons (hop_mv rfl (by decide) rfl rfl) (hall_cons (hop_val [(7, 112, _)] [] rfl rfl rfl (by decide) rfl (jcons rfl rfl rfl rfl rfl (jnil)) (xnil) (fun _ _ _ _ => does_v (rv_indexR1 (rd_own (i := 2) rfl) Tryd.underlying169 sz47 rfl rfl (j := 3) rfl (by first | omega | (simp [hH] <;> omega))))) (hall_cons (hop_val [(8, 113, _)] [] rfl rfl rfl (by decide) rfl (jcons rfl rfl rfl rfl rfl (jnil)) (xnil) (fun _ _ _ _ => does_v (rv_load_rd (rd_own (i := 2) rfl) tyS47 rfl (by rfl)))) (hall_cons (hop_mv rfl (by decide) rfl rfl) (hall_cons (hop_val [(6, 111, _), (9, 114, _), (10, 115, _)] [] rfl rfl rfl (by decide) rfl (jcons rfl rfl rfl rfl rfl (jcons rfl rfl rfl rfl rfl (jcons rfl rfl rfl rfl rfl (jnil)))) (xnil) (fun _ _ _ _ => does_call0 cal124 rfl (fun w hM => (three64D_calls _ _ 19 61 6 (by decide) (by decide) (by decide) w ((rd_I (q := [_, _, _]) (len := 3) (i := 3) rfl rfl rfl (by omega)) w hM))))) (hall_cons (hop_mv rfl (by decide) rfl rfl) (hall_cons (hop_mv rfl (by decide) rfl rfl) (hall_cons (hop_val [(13, 118, _)] [] rfl rfl rfl (by decide) rfl (jcons rfl rfl rfl rfl rfl (jnil)) (xnil) (fun _ _ _ _ => does_v (rv_subN (b := 7) rfl rfl (by first | omega | (simp; done) | (simp; omega))))) (hall_cons (hop_val [(12, 117, _), (14, 119, _)] [] rfl rfl rfl (by decide) rfl (jcons rfl rfl rfl rfl rfl (jcons rfl rfl rfl rfl rfl (jnil))) (xnil) (fun _ _ _ _ => does_v (rv_indexS Tryd.underlying121 sz77 rfl rfl rfl (by first | omega | (simp [hH] <;> omega)) (by first | exact (Nat.zero_add _).trans (Nat.mul_one _) | exact congrArg _ (Nat.mul_one _) | rfl)))) (hall_cons (hop_val [(15, 120, _)] [] rfl rfl rfl (by decide) rfl (jcons rfl rfl rfl rfl rfl (jnil)) (xnil) (fun _ _ _ _ => does_v (rv_load_blk tyS77 rfl (i := 0) rfl (cell64 (by first | omega | (simp [hH] <;> omega)))))) (hall_cons (hop_val [(11, 116, _), (16, 121, _)] [] rfl rfl rfl (by decide) rfl (jcons rfl rfl rfl rfl rfl (jcons rfl rfl rfl rfl rfl (jnil))) (xnil) (fun _ _ _ _ => does_v (rv_add64 rfl rfl))) (hall_cons (hop_mv rfl (by decide) rfl rfl) (hall_cons (hop_mv rfl (by decide) rfl rfl) (hall_cons (hop_val [(19, 124, _)] [] rfl rfl rfl (by decide) rfl (jcons rfl rfl rfl rfl rfl (jnil)) (xnil) (fun _ _ _ _ => does_v (rv_subN (b := 15) rfl rfl (by first | omega | (simp; done) | (simp; omega))))) (hall_cons (hop_val [(18, 123, _), (20, 125, _)] [] rfl rfl rfl (by decide) rfl (jcons rfl rfl rfl rfl rfl (jcons rfl rfl rfl rfl rfl (jnil))) (xnil) (fun _ _ _ _ => does_v (rv_indexS Tryd.underlying121 sz77 rfl rfl rfl (by first | omega | (simp [hH] <;> omega)) (by first | exact (Nat.zero_add _).trans (Nat.mul_one _) | exact congrArg _ (Nat.mul_one _) | rfl)))) (hall_cons (hop_val [(21, 126, _)] [] rfl rfl rfl (by decide) rfl (jcons rfl rfl rfl rfl rfl (jnil)) (xnil) (fun _ _ _ _ => does_v (rv_load_blk tyS77 rfl (i := 0) rfl (cell64 (by first | omega | (simp [hH] <;> omega)))))) (hall_cons (hop_mv rfl (by decide) rfl rfl) (hall_cons (hop_val [(23, 128, _)] [] rfl rfl rfl (by decide) rfl (jcons rfl rfl rfl rfl rfl (jnil)) (xnil) (fun _ _ _ _ => does_v (rv_indexR1 (rd_own (i := 2) rfl) Tryd.underlying169 sz47 rfl rfl (j := 2) rfl (by first | omega | (simp [hH] <;> omega))))) (hall_cons (hop_val [(24, 129, _)] [] rfl rfl rfl (by decide) rfl (jcons rfl rfl rfl rfl rfl (jnil)) (xnil) (fun _ _ _ _ => does_v (rv_load_rd (rd_own (i := 2) rfl) tyS47 rfl (by rfl)))) (hall_cons (hop_mv rfl (by decide) rfl rfl) (hall_cons (hop_val [(22, 127, _), (25, 130, _), (26, 131, _)] [] rfl rfl rfl (by decide) rfl (jcons rfl rfl rfl rfl rfl (jcons rfl rfl rfl rfl rfl (jcons rfl rfl rfl rfl rfl (jnil)))) (xnil) (fun _ _ _ _ => does_call0 cal124 rfl (fun w hM => (three64D_calls _ _ 1 8 7 (by decide) (by decide) (by decide) w ((rd_I (q := [_, _, _]) (len := 3) (i := 4) rfl rfl rfl (by omega)) w hM))))) (hall_cons (hop_val [(17, 122, _), (27, 132, _)] [] rfl rfl rfl (by decide) rfl (jcons rfl rfl rfl rfl rfl (jcons rfl rfl rfl rfl rfl (jnil))) (xnil) (fun _ _ _ _ => does_v (rv_add64 rfl rfl))) (hall_cons (hop_mv rfl (by decide) rfl rfl) (hall_cons (hop_mv rfl (by decide) rfl rfl) (hall_cons (hop_val [(30, 135, _)] [] rfl rfl rfl (by decide) rfl (jcons rfl rfl rfl rfl rfl (jnil)) (xnil) (fun _ _ _ _ => does_v (rv_subN (b := 16) rfl rfl (by first | omega | (simp; done) | (simp; omega))))) (hall_cons (hop_val [(29, 134, _), (31, 136, _)] [] rfl rfl rfl (by decide) rfl (jcons rfl rfl rfl rfl rfl (jcons rfl rfl rfl rfl rfl (jnil))) (xnil) (fun _ _ _ _ => does_v (rv_indexS Tryd.underlying121 sz77 rfl rfl rfl (by first | omega | (simp [hH] <;> omega)) (by first | exact (Nat.zero_add _).trans (Nat.mul_one _) | exact congrArg _ (Nat.mul_one _) | rfl)))) (hall_cons (hop_val [(32, 137, _)] [] rfl rfl rfl (by decide) rfl (jcons rfl rfl rfl rfl rfl (jnil)) (xnil) (fun _ _ _ _ => does_v (rv_load_blk tyS77 rfl (i := 0) rfl (cell64 (by first | omega | (simp [hH] <;> omega)))))) (hall_cons (hop_val [(28, 133, _), (33, 138, _)] [] rfl rfl rfl (by decide) rfl (jcons rfl rfl rfl rfl rfl (jcons rfl rfl rfl rfl rfl (jnil))) (xnil) (fun _ _ _ _ => does_v (rv_add64 rfl rfl))) (hall_cons (hop_mv rfl (by decide) rfl rfl) (hall_cons (hop_val [(34, 139, _), (35, 140, _)] [] rfl rfl rfl (by decide) rfl (jcons rfl rfl rfl rfl rfl (jcons rfl rfl rfl rfl rfl (jnil))) (xnil) (fun _ _ _ _ => does_v (rv_and64 rfl rfl))) (hall_nil)))))))))))))))))))))))))))))))))))))) (draw_end1 [(0, 105, _), (1, 106, _), (36, 141, _)] (jcons rfl rfl rfl rfl rfl (jcons rfl rfl rfl rfl rfl (jcons rfl rfl rfl rfl rfl (jnil)))) ?_)
          refine st_drawTail (N := 37) [0, 0, 0, 0, 8, 28, 60, 0, 128, 384, 0, 2044, 0, 0, 8192, 28672, 61440, 131068, 0, 0, 524288, 1835008, 3932160, 0, 8388608, 25165824, 0, 133959676, 268435452, 0, 0, 1073741824, 3758096384, 8053063680, 17179869180, 0, 68719476732, 137438953471, 274877906943] (by kernel_rfl) (by kernel_rfl) ?_
          refine st_v (rv_indexS Tryd.underlying121 sz77 rfl rfl rfl (by first | omega | (simp [hH] <;> omega)) (by first | exact (Nat.zero_add _).trans (Nat.mul_one _) | exact congrArg _ (Nat.mul_one _) | rfl)) (by decide) ?_
          refine st_store64 rfl rfl (i := 0) rfl sz77 (by first | omega | (simp [hH] <;> omega)) (l' := [_, _, _, _, _, _, _]) rfl ?_
          refine st_nil ?_
          refine st_in_normal ?_
          refine st_then ?_
          refine st_region ?_
          refine st_v (rv_move rfl) (by decide) ?_
          first | refine st_v (rv_addN (b := 1) rfl rfl (by first | omega | (simp; done) | (simp; omega))) (by decide) ?_ | refine st_v (rv_addZ rfl rfl (by first | omega | (simp; done) | (simp; omega))) (by decide) ?_
          refine st_v (rv_assign rfl) (by decide) ?_
          refine st_nil ?_
          refine st_then ?_
          exact st_again (t + 1) (by omega) (by omega) (.cons rfl (.cons rfl (.cons rfl (.cons rfl (.cons rfl (.cons rfl (.cons rfl (.cons rfl (.cons rfl (.cons rfl (.cons rfl (.cons rfl (.nil _))))))))))))) (fun _ hM => hM)
        · -- t102 False
          try simp only [z1, z2, z3, z4, z5, z6, z7, z8, z9, z10, z11, z12, z13, z14] at hc102
          obtain rfl : t = K.length - 16 := by omega
          refine st_exit ?_
          refine st_then_exit ?_
          refine st_then_exit ?_
          refine st_in_exit ?_
          refine st_then ?_
          refine st_seq ?_
          refine st_region ?_
          refine st_buildO Tryd.underlying121 tyZ77 rfl rfl (by decide) (cs := (([] : List (BitVec 64)).map U64).toArray) rfl rfl (by decide) (fun v8 => ?_)
          refine st_v (rv_move rfl) (by decide) ?_
          refine st_append Tryd.underlying121 Tryd.underlying121 (.inr ⟨_, rfl⟩) tyZ77 rfl rfl rfl (i := 0) rfl (one64 _) (fun w hM => src_rd ((rd_w64 (i := 2) rfl (by first | omega | (simp [hH]; done) | (simp [hH] <;> omega)) (by omega)) w hM) (one64 _)) (by first | omega | (simp; omega)) (by first | omega | (simp; omega)) (by decide) (fun v8 => ?_)
          rw [← List.map_append, List.nil_append, Nat.zero_add]
          refine st_v (rv_assign rfl) (by decide) ?_
          refine st_nil ?_
          refine st_then ?_
          refine st_seq ?_
          refine st_seq ?_
          refine st_region ?_
          refine st_v (rv_assign rfl) (by decide) ?_
          refine st_nil ?_
          refine st_then ?_
          refine st_block ?_
          refine st_loopA (σ := Nat × Value) [(0, kst _), (2, kst _), (9, kst _), (10, kst _), (11, kst _), (12, kst _), (13, kst _), (15, kst _), (16, kst _), (17, kst _), (18, kst _), (22, fun (t, y) => y), (23, fun (t, y) => vI t)] [fun (t, y) => own y 77 1 8 ((rndR 64 K (schR 64 K (padW s 128 16) (128 * m) (K.length - 16)) (feedR 64 K H (padW s 128 16) m) t).map U64), kst _, kst _, kst _, kst _, kst _, kst _, kst _] (fun (t, y) => t ≤ K.length) (fun (t, y) => K.length - t) (0, _) (by omega) (.cons rfl (.cons rfl (.cons rfl (.cons rfl (.cons rfl (.cons rfl (.cons rfl (.cons rfl (.cons rfl (.cons rfl (.cons rfl (.cons rfl (.cons rfl (.nil _)))))))))))))) (fun _ hM => hM) ?_
          intro ⟨t, y⟩ hI
          try dsimp only at hI
          dsimp only [List.map, kst]
          refine st_seq ?_
          refine st_seq ?_
          refine st_region ?_
          refine st_v (rv_move rfl) (by decide) ?_
          refine st_v (rv_move rfl) (by decide) ?_
          refine st_v (rv_lenR (rd_old hKR hKR.all) Tryd.underlying121 rfl) (by decide) ?_
          refine st_v (rv_lssZ rfl rfl) (by decide) ?_
          refine st_nil ?_
          refine st_then ?_
          refine st_cond rfl (fun hc149 => ?_) (fun hc149 => ?_)
          · -- t149 True
            try simp only [z1, z2, z3, z4, z5, z6, z7, z8, z9, z10, z11, z12, z13, z14] at hc149
            refine st_skip ?_
            refine st_then ?_
            refine st_seq ?_
            refine st_block ?_
            refine st_seq ?_
            refine st_drawStart mixed ?_
            refine st_drawSeg1 (E0 := [(0, _), (2, _), (9, _), (10, _), (11, _), (12, _), (13, _), (15, _), (16, _), (17, _), (18, _), (22, _), (23, _)]) [kpeq _, kpeq _, kpeq _, kpeq _, kpeq _, kpeq _, kpeq _, kpeq _, kpeq _, kpeq _, kpeq _, kpeq _, kpeq _, kpeq _, kpeq _, kpeq _, kpeq _, kpeq _, kpeq _, kpeq _, kpeq _, kpeq _, kpeq _, kpeq _, kpeq _, kpeq _, kpeq _, kpeq _, kpeq _, kpeq _, kpeq _, kpeq _, kpeq _, kpeq _, kpeq _, kpeq _, kpeq _, kpeq _, kpeq _, kpeq _, kpeq _] 0 41 [0, 1, 3, 0, 8, 24, 0, 64, 192, 0, 1016, 2047, 0, 4096, 12288, 0, 32768, 98304, 258048, 0, 0, 1048576, 3145728, 7864320, 0, 16777216, 50331648, 133693440, 268431360, 536870911, 0, 0, 3221225472, 7516192768, 0, 33285996544, 68719476735, 0, 0, 412316860416, 962072674304, 2199023255551, 4398046511103] [0, 2, 9, 10, 11, 12, 13, 15, 16, 17, 18, 22, 23] (by kernel_rfl) (by decide) (by kernel_rfl) (.cons rfl (.cons rfl (.cons rfl (.cons rfl (.cons rfl (.cons rfl (.cons rfl (.cons rfl (.cons rfl (.cons rfl (.cons rfl (.cons rfl (.cons rfl (.nil _)))))))))))))) rfl rfl (hall_cons (hop_mv rfl (by decide) rfl rfl) (hall_cons (hop_val [(0, 152, _)] [] rfl rfl rfl (by decide) rfl (jcons rfl rfl rfl rfl rfl (jnil)) (xnil) (fun _ _ _ _ => does_v (rv_indexR1 (rd_own (i := 0) rfl) Tryd.underlying121 sz77 rfl rfl (j := 7) rfl (by first | omega | (simp [hH] <;> omega))))) (hall_cons (hop_val [(1, 153, _)] [] rfl rfl rfl (by decide) rfl (jcons rfl rfl rfl rfl rfl (jnil)) (xnil) (fun _ _ _ _ => does_v (rv_load_rd (rd_own (i := 0) rfl) tyS77 rfl (get64 (by first | omega | (simp [hH] <;> omega)))))) (hall_cons (hop_mv rfl (by decide) rfl rfl) (hall_cons (hop_val [(3, 155, _)] [] rfl rfl rfl (by decide) rfl (jcons rfl rfl rfl rfl rfl (jnil)) (xnil) (fun _ _ _ _ => does_v (rv_indexR1 (rd_own (i := 0) rfl) Tryd.underlying121 sz77 rfl rfl (j := 4) rfl (by first | omega | (simp [hH] <;> omega))))) (hall_cons (hop_val [(4, 156, _)] [] rfl rfl rfl (by decide) rfl (jcons rfl rfl rfl rfl rfl (jnil)) (xnil) (fun _ _ _ _ => does_v (rv_load_rd (rd_own (i := 0) rfl) tyS77 rfl (get64 (by first | omega | (simp [hH] <;> omega)))))) (hall_cons (hop_mv rfl (by decide) rfl rfl) (hall_cons (hop_val [(6, 158, _)] [] rfl rfl rfl (by decide) rfl (jcons rfl rfl rfl rfl rfl (jnil)) (xnil) (fun _ _ _ _ => does_v (rv_indexR1 (rd_own (i := 3) rfl) Tryd.underlying169 sz47 rfl rfl (j := 1) rfl (by first | omega | (simp [hH] <;> omega))))) (hall_cons (hop_val [(7, 159, _)] [] rfl rfl rfl (by decide) rfl (jcons rfl rfl rfl rfl rfl (jnil)) (xnil) (fun _ _ _ _ => does_v (rv_load_rd (rd_own (i := 3) rfl) tyS47 rfl (by rfl)))) (hall_cons (hop_mv rfl (by decide) rfl rfl) (hall_cons (hop_val [(5, 157, _), (8, 160, _), (9, 161, _)] [] rfl rfl rfl (by decide) rfl (jcons rfl rfl rfl rfl rfl (jcons rfl rfl rfl rfl rfl (jcons rfl rfl rfl rfl rfl (jnil)))) (xnil) (fun _ _ _ _ => does_call0 cal124 rfl (fun w hM => (three64U_calls _ _ 14 18 41 (by decide) (by decide) (by decide) w ((rd_I (q := [_, _, _]) (len := 3) (i := 6) rfl rfl rfl (by omega)) w hM))))) (hall_cons (hop_val [(2, 154, _), (10, 162, _)] [] rfl rfl rfl (by decide) rfl (jcons rfl rfl rfl rfl rfl (jcons rfl rfl rfl rfl rfl (jnil))) (xnil) (fun _ _ _ _ => does_v (rv_add64 rfl rfl))) (hall_cons (hop_mv rfl (by decide) rfl rfl) (hall_cons (hop_val [(12, 164, _)] [] rfl rfl rfl (by decide) rfl (jcons rfl rfl rfl rfl rfl (jnil)) (xnil) (fun _ _ _ _ => does_v (rv_indexR1 (rd_own (i := 0) rfl) Tryd.underlying121 sz77 rfl rfl (j := 4) rfl (by first | omega | (simp [hH] <;> omega))))) (hall_cons (hop_val [(13, 165, _)] [] rfl rfl rfl (by decide) rfl (jcons rfl rfl rfl rfl rfl (jnil)) (xnil) (fun _ _ _ _ => does_v (rv_load_rd (rd_own (i := 0) rfl) tyS77 rfl (get64 (by first | omega | (simp [hH] <;> omega)))))) (hall_cons (hop_mv rfl (by decide) rfl rfl) (hall_cons (hop_val [(15, 167, _)] [] rfl rfl rfl (by decide) rfl (jcons rfl rfl rfl rfl rfl (jnil)) (xnil) (fun _ _ _ _ => does_v (rv_indexR1 (rd_own (i := 0) rfl) Tryd.underlying121 sz77 rfl rfl (j := 5) rfl (by first | omega | (simp [hH] <;> omega))))) (hall_cons (hop_val [(16, 168, _)] [] rfl rfl rfl (by decide) rfl (jcons rfl rfl rfl rfl rfl (jnil)) (xnil) (fun _ _ _ _ => does_v (rv_load_rd (rd_own (i := 0) rfl) tyS77 rfl (get64 (by first | omega | (simp [hH] <;> omega)))))) (hall_cons (hop_val [(14, 166, _), (17, 169, _)] [] rfl rfl rfl (by decide) rfl (jcons rfl rfl rfl rfl rfl (jcons rfl rfl rfl rfl rfl (jnil))) (xnil) (fun _ _ _ _ => does_v (rv_and64 rfl rfl))) (hall_cons (hop_mv rfl (by decide) rfl rfl) (hall_cons (hop_mv rfl (by decide) rfl rfl) (hall_cons (hop_val [(20, 172, _)] [] rfl rfl rfl (by decide) rfl (jcons rfl rfl rfl rfl rfl (jnil)) (xnil) (fun _ _ _ _ => does_v (rv_indexR1 (rd_own (i := 0) rfl) Tryd.underlying121 sz77 rfl rfl (j := 4) rfl (by first | omega | (simp [hH] <;> omega))))) (hall_cons (hop_val [(21, 173, _)] [] rfl rfl rfl (by decide) rfl (jcons rfl rfl rfl rfl rfl (jnil)) (xnil) (fun _ _ _ _ => does_v (rv_load_rd (rd_own (i := 0) rfl) tyS77 rfl (get64 (by first | omega | (simp [hH] <;> omega)))))) (hall_cons (hop_val [(19, 171, _), (22, 174, _)] [] rfl rfl rfl (by decide) rfl (jcons rfl rfl rfl rfl rfl (jcons rfl rfl rfl rfl rfl (jnil))) (xnil) (fun _ _ _ _ => does_v (rv_xor64 rfl rfl))) (hall_cons (hop_mv rfl (by decide) rfl rfl) (hall_cons (hop_val [(24, 176, _)] [] rfl rfl rfl (by decide) rfl (jcons rfl rfl rfl rfl rfl (jnil)) (xnil) (fun _ _ _ _ => does_v (rv_indexR1 (rd_own (i := 0) rfl) Tryd.underlying121 sz77 rfl rfl (j := 6) rfl (by first | omega | (simp [hH] <;> omega))))) (hall_cons (hop_val [(25, 177, _)] [] rfl rfl rfl (by decide) rfl (jcons rfl rfl rfl rfl rfl (jnil)) (xnil) (fun _ _ _ _ => does_v (rv_load_rd (rd_own (i := 0) rfl) tyS77 rfl (get64 (by first | omega | (simp [hH] <;> omega)))))) (hall_cons (hop_val [(23, 175, _), (26, 178, _)] [] rfl rfl rfl (by decide) rfl (jcons rfl rfl rfl rfl rfl (jcons rfl rfl rfl rfl rfl (jnil))) (xnil) (fun _ _ _ _ => does_v (rv_and64 rfl rfl))) (hall_cons (hop_val [(18, 170, _), (27, 179, _)] [] rfl rfl rfl (by decide) rfl (jcons rfl rfl rfl rfl rfl (jcons rfl rfl rfl rfl rfl (jnil))) (xnil) (fun _ _ _ _ => does_v (rv_xor64 rfl rfl))) (hall_cons (hop_val [(11, 163, _), (28, 180, _)] [] rfl rfl rfl (by decide) rfl (jcons rfl rfl rfl rfl rfl (jcons rfl rfl rfl rfl rfl (jnil))) (xnil) (fun _ _ _ _ => does_v (rv_add64 rfl rfl))) (hall_cons (hop_mv rfl (by decide) rfl rfl) (hall_cons (hop_mv rfl (by decide) rfl rfl) (hall_cons (hop_val [(30, 182, _), (31, 183, _)] [] rfl rfl rfl (by decide) rfl (jcons rfl rfl rfl rfl rfl (jcons rfl rfl rfl rfl rfl (jnil))) (xnil) (fun _ _ _ _ => does_v (rv_indexR1 (rd_old hKR hKR.all) Tryd.underlying121 sz77 rfl rfl rfl (by first | omega | (simp [hH] <;> omega))))) (hall_cons (hop_val [(32, 184, _)] [] rfl rfl rfl (by decide) rfl (jcons rfl rfl rfl rfl rfl (jnil)) (xnil) (fun _ _ _ _ => does_v (rv_load_rd (rd_old hKR hKR.all) tyS77 rfl (get64 (by first | omega | (simp [hH] <;> omega)))))) (hall_cons (hop_mv rfl (by decide) rfl rfl) (hall_cons (hop_val [(33, 185, _), (34, 186, _)] [] rfl rfl rfl (by decide) rfl (jcons rfl rfl rfl rfl rfl (jcons rfl rfl rfl rfl rfl (jnil))) (xnil) (fun _ _ _ _ => does_v (rv_shr64 rfl rfl rfl))) (hall_cons (hop_val [(29, 181, _), (35, 187, _)] [] rfl rfl rfl (by decide) rfl (jcons rfl rfl rfl rfl rfl (jcons rfl rfl rfl rfl rfl (jnil))) (xnil) (fun _ _ _ _ => does_v (rv_add64 rfl rfl))) (hall_cons (hop_mv rfl (by decide) rfl rfl) (hall_cons (hop_mv rfl (by decide) rfl rfl) (hall_cons (hop_val [(37, 189, _), (38, 190, _)] [] rfl rfl rfl (by decide) rfl (jcons rfl rfl rfl rfl rfl (jcons rfl rfl rfl rfl rfl (jnil))) (xnil) (fun _ _ _ _ => does_v (rv_indexS Tryd.underlying121 sz77 rfl rfl rfl (by first | omega | (simp [hH] <;> omega)) (by first | exact (Nat.zero_add _).trans (Nat.mul_one _) | exact congrArg _ (Nat.mul_one _) | rfl)))) (hall_cons (hop_val [(39, 191, _)] [] rfl rfl rfl (by decide) rfl (jcons rfl rfl rfl rfl rfl (jnil)) (xnil) (fun _ _ _ _ => does_v (rv_load_blk tyS77 rfl (i := 1) rfl (cell64 (by first | omega | (simp [hH] <;> omega)))))) (hall_nil)))))))))))))))))))))))))))))))))))))))))) (draw_end1 [(36, 188, _), (40, 192, _)] (jcons rfl rfl rfl rfl rfl (jcons rfl rfl rfl rfl rfl (jnil))) ?_)
            refine st_drawTail (N := 41) [0, 1, 3, 0, 8, 24, 0, 64, 192, 0, 1016, 2047, 0, 4096, 12288, 0, 32768, 98304, 258048, 0, 0, 1048576, 3145728, 7864320, 0, 16777216, 50331648, 133693440, 268431360, 536870911, 0, 0, 3221225472, 7516192768, 0, 33285996544, 68719476735, 0, 0, 412316860416, 962072674304, 2199023255551, 4398046511103] (by kernel_rfl) (by kernel_rfl) ?_
            refine st_v (rv_add64 rfl rfl) (by decide) ?_
            refine st_v (rv_assign rfl) (by decide) ?_
            refine st_nil ?_
            refine st_then ?_
            refine st_seq ?_
            refine st_drawStart mixed ?_
            refine st_drawSeg1 (E0 := [(0, _), (2, _), (9, _), (10, _), (11, _), (12, _), (13, _), (15, _), (16, _), (17, _), (18, _), (22, _), (23, _), (24, _)]) [kpeq _, kpeq _, kpeq _, kpeq _, kpeq _, kpeq _, kpeq _, kpeq _, kpeq _, kpeq _, kpeq _, kpeq _, kpeq _, kpeq _, kpeq _, kpeq _, kpeq _, kpeq _, kpeq _, kpeq _, kpeq _, kpeq _, kpeq _, kpeq _, kpeq _, kpeq _, kpeq _, kpeq _, kpeq _, kpeq _, kpeq _] 0 31 [0, 1, 3, 0, 8, 24, 0, 127, 0, 256, 768, 0, 2048, 6144, 16128, 0, 32768, 98304, 0, 262144, 786432, 2064384, 4194048, 0, 8388608, 25165824, 0, 67108864, 201326592, 528482304, 1073741568, 2147483647, 4294967295] [0, 2, 9, 10, 11, 12, 13, 15, 16, 17, 18, 22, 23, 24] (by kernel_rfl) (by decide) (by kernel_rfl) (.cons rfl (.cons rfl (.cons rfl (.cons rfl (.cons rfl (.cons rfl (.cons rfl (.cons rfl (.cons rfl (.cons rfl (.cons rfl (.cons rfl (.cons rfl (.cons rfl (.nil _))))))))))))))) rfl rfl (hall_cons (hop_mv rfl (by decide) rfl rfl) (hall_cons (hop_val [(0, 194, _)] [] rfl rfl rfl (by decide) rfl (jcons rfl rfl rfl rfl rfl (jnil)) (xnil) (fun _ _ _ _ => does_v (rv_indexR1 (rd_own (i := 0) rfl) Tryd.underlying121 sz77 rfl rfl (j := 0) rfl (by first | omega | (simp [hH] <;> omega))))) (hall_cons (hop_val [(1, 195, _)] [] rfl rfl rfl (by decide) rfl (jcons rfl rfl rfl rfl rfl (jnil)) (xnil) (fun _ _ _ _ => does_v (rv_load_rd (rd_own (i := 0) rfl) tyS77 rfl (get64 (by first | omega | (simp [hH] <;> omega)))))) (hall_cons (hop_mv rfl (by decide) rfl rfl) (hall_cons (hop_val [(3, 197, _)] [] rfl rfl rfl (by decide) rfl (jcons rfl rfl rfl rfl rfl (jnil)) (xnil) (fun _ _ _ _ => does_v (rv_indexR1 (rd_own (i := 3) rfl) Tryd.underlying169 sz47 rfl rfl (j := 0) rfl (by first | omega | (simp [hH] <;> omega))))) (hall_cons (hop_val [(4, 198, _)] [] rfl rfl rfl (by decide) rfl (jcons rfl rfl rfl rfl rfl (jnil)) (xnil) (fun _ _ _ _ => does_v (rv_load_rd (rd_own (i := 3) rfl) tyS47 rfl (by rfl)))) (hall_cons (hop_mv rfl (by decide) rfl rfl) (hall_cons (hop_val [(2, 196, _), (5, 199, _), (6, 200, _)] [] rfl rfl rfl (by decide) rfl (jcons rfl rfl rfl rfl rfl (jcons rfl rfl rfl rfl rfl (jcons rfl rfl rfl rfl rfl (jnil)))) (xnil) (fun _ _ _ _ => does_call0 cal124 rfl (fun w hM => (three64U_calls _ _ 28 34 39 (by decide) (by decide) (by decide) w ((rd_I (q := [_, _, _]) (len := 3) (i := 7) rfl rfl rfl (by omega)) w hM))))) (hall_cons (hop_mv rfl (by decide) rfl rfl) (hall_cons (hop_val [(8, 202, _)] [] rfl rfl rfl (by decide) rfl (jcons rfl rfl rfl rfl rfl (jnil)) (xnil) (fun _ _ _ _ => does_v (rv_indexR1 (rd_own (i := 0) rfl) Tryd.underlying121 sz77 rfl rfl (j := 0) rfl (by first | omega | (simp [hH] <;> omega))))) (hall_cons (hop_val [(9, 203, _)] [] rfl rfl rfl (by decide) rfl (jcons rfl rfl rfl rfl rfl (jnil)) (xnil) (fun _ _ _ _ => does_v (rv_load_rd (rd_own (i := 0) rfl) tyS77 rfl (get64 (by first | omega | (simp [hH] <;> omega)))))) (hall_cons (hop_mv rfl (by decide) rfl rfl) (hall_cons (hop_val [(11, 205, _)] [] rfl rfl rfl (by decide) rfl (jcons rfl rfl rfl rfl rfl (jnil)) (xnil) (fun _ _ _ _ => does_v (rv_indexR1 (rd_own (i := 0) rfl) Tryd.underlying121 sz77 rfl rfl (j := 1) rfl (by first | omega | (simp [hH] <;> omega))))) (hall_cons (hop_val [(12, 206, _)] [] rfl rfl rfl (by decide) rfl (jcons rfl rfl rfl rfl rfl (jnil)) (xnil) (fun _ _ _ _ => does_v (rv_load_rd (rd_own (i := 0) rfl) tyS77 rfl (get64 (by first | omega | (simp [hH] <;> omega)))))) (hall_cons (hop_val [(10, 204, _), (13, 207, _)] [] rfl rfl rfl (by decide) rfl (jcons rfl rfl rfl rfl rfl (jcons rfl rfl rfl rfl rfl (jnil))) (xnil) (fun _ _ _ _ => does_v (rv_and64 rfl rfl))) (hall_cons (hop_mv rfl (by decide) rfl rfl) (hall_cons (hop_val [(15, 209, _)] [] rfl rfl rfl (by decide) rfl (jcons rfl rfl rfl rfl rfl (jnil)) (xnil) (fun _ _ _ _ => does_v (rv_indexR1 (rd_own (i := 0) rfl) Tryd.underlying121 sz77 rfl rfl (j := 0) rfl (by first | omega | (simp [hH] <;> omega))))) (hall_cons (hop_val [(16, 210, _)] [] rfl rfl rfl (by decide) rfl (jcons rfl rfl rfl rfl rfl (jnil)) (xnil) (fun _ _ _ _ => does_v (rv_load_rd (rd_own (i := 0) rfl) tyS77 rfl (get64 (by first | omega | (simp [hH] <;> omega)))))) (hall_cons (hop_mv rfl (by decide) rfl rfl) (hall_cons (hop_val [(18, 212, _)] [] rfl rfl rfl (by decide) rfl (jcons rfl rfl rfl rfl rfl (jnil)) (xnil) (fun _ _ _ _ => does_v (rv_indexR1 (rd_own (i := 0) rfl) Tryd.underlying121 sz77 rfl rfl (j := 2) rfl (by first | omega | (simp [hH] <;> omega))))) (hall_cons (hop_val [(19, 213, _)] [] rfl rfl rfl (by decide) rfl (jcons rfl rfl rfl rfl rfl (jnil)) (xnil) (fun _ _ _ _ => does_v (rv_load_rd (rd_own (i := 0) rfl) tyS77 rfl (get64 (by first | omega | (simp [hH] <;> omega)))))) (hall_cons (hop_val [(17, 211, _), (20, 214, _)] [] rfl rfl rfl (by decide) rfl (jcons rfl rfl rfl rfl rfl (jcons rfl rfl rfl rfl rfl (jnil))) (xnil) (fun _ _ _ _ => does_v (rv_and64 rfl rfl))) (hall_cons (hop_val [(14, 208, _), (21, 215, _)] [] rfl rfl rfl (by decide) rfl (jcons rfl rfl rfl rfl rfl (jcons rfl rfl rfl rfl rfl (jnil))) (xnil) (fun _ _ _ _ => does_v (rv_xor64 rfl rfl))) (hall_cons (hop_mv rfl (by decide) rfl rfl) (hall_cons (hop_val [(23, 217, _)] [] rfl rfl rfl (by decide) rfl (jcons rfl rfl rfl rfl rfl (jnil)) (xnil) (fun _ _ _ _ => does_v (rv_indexR1 (rd_own (i := 0) rfl) Tryd.underlying121 sz77 rfl rfl (j := 1) rfl (by first | omega | (simp [hH] <;> omega))))) (hall_cons (hop_val [(24, 218, _)] [] rfl rfl rfl (by decide) rfl (jcons rfl rfl rfl rfl rfl (jnil)) (xnil) (fun _ _ _ _ => does_v (rv_load_rd (rd_own (i := 0) rfl) tyS77 rfl (get64 (by first | omega | (simp [hH] <;> omega)))))) (hall_cons (hop_mv rfl (by decide) rfl rfl) (hall_cons (hop_val [(26, 220, _)] [] rfl rfl rfl (by decide) rfl (jcons rfl rfl rfl rfl rfl (jnil)) (xnil) (fun _ _ _ _ => does_v (rv_indexR1 (rd_own (i := 0) rfl) Tryd.underlying121 sz77 rfl rfl (j := 2) rfl (by first | omega | (simp [hH] <;> omega))))) (hall_cons (hop_val [(27, 221, _)] [] rfl rfl rfl (by decide) rfl (jcons rfl rfl rfl rfl rfl (jnil)) (xnil) (fun _ _ _ _ => does_v (rv_load_rd (rd_own (i := 0) rfl) tyS77 rfl (get64 (by first | omega | (simp [hH] <;> omega)))))) (hall_cons (hop_val [(25, 219, _), (28, 222, _)] [] rfl rfl rfl (by decide) rfl (jcons rfl rfl rfl rfl rfl (jcons rfl rfl rfl rfl rfl (jnil))) (xnil) (fun _ _ _ _ => does_v (rv_and64 rfl rfl))) (hall_cons (hop_val [(22, 216, _), (29, 223, _)] [] rfl rfl rfl (by decide) rfl (jcons rfl rfl rfl rfl rfl (jcons rfl rfl rfl rfl rfl (jnil))) (xnil) (fun _ _ _ _ => does_v (rv_xor64 rfl rfl))) (hall_nil)))))))))))))))))))))))))))))))) (draw_end1 [(7, 201, _), (30, 224, _)] (jcons rfl rfl rfl rfl rfl (jcons rfl rfl rfl rfl rfl (jnil))) ?_)
            refine st_drawTail (N := 31) [0, 1, 3, 0, 8, 24, 0, 127, 0, 256, 768, 0, 2048, 6144, 16128, 0, 32768, 98304, 0, 262144, 786432, 2064384, 4194048, 0, 8388608, 25165824, 0, 67108864, 201326592, 528482304, 1073741568, 2147483647, 4294967295] (by kernel_rfl) (by kernel_rfl) ?_
            refine st_v (rv_add64 rfl rfl) (by decide) ?_
            refine st_v (rv_assign rfl) (by decide) ?_
            refine st_nil ?_
            refine st_then ?_
            refine st_drawStart mixed ?_
            refine st_drawSeg1 (E0 := [(0, _), (2, _), (9, _), (10, _), (11, _), (12, _), (13, _), (15, _), (16, _), (17, _), (18, _), (22, _), (23, _), (24, _), (25, _)]) [kpeq _, kpeq _, kpeq _, kpeq _, kpeq _, kpeq _, kpeq _, kpeq _, kpeq _, kpeq _, kpeq _, kpeq _, kpeq _, kpeq _, kpeq _, kpeq _, kpeq _, kpeq _, kpeq _, kpeq _, kpeq _, kpeq _, kpeq _, kpeq _, kpeq _, kpeq _, kpeq _, kpeq _, kpeq _, kpeq _] 0 30 [0, 0, 3, 0, 15, 0, 32, 96, 0, 256, 768, 0, 2048, 6144, 0, 16384, 49152, 0, 245760, 0, 1032192, 0, 2097152, 6291456, 0, 16777216, 50331648, 0, 134217728, 402653184, 1073741823, 2147483647] [0, 2, 9, 10, 11, 12, 13, 15, 16, 17, 18, 22, 23, 24, 25] (by kernel_rfl) (by decide) (by kernel_rfl) (.cons rfl (.cons rfl (.cons rfl (.cons rfl (.cons rfl (.cons rfl (.cons rfl (.cons rfl (.cons rfl (.cons rfl (.cons rfl (.cons rfl (.cons rfl (.cons rfl (.cons rfl (.nil _)))))))))))))))) rfl rfl (hall_cons (hop_mv rfl (by decide) rfl rfl) (hall_cons (hop_mv rfl (by decide) rfl rfl) (hall_cons (hop_val [(0, 226, _), (1, 227, _)] [] rfl rfl rfl (by decide) rfl (jcons rfl rfl rfl rfl rfl (jcons rfl rfl rfl rfl rfl (jnil))) (xnil) (fun _ _ _ _ => does_v (rv_add64 rfl rfl))) (hall_cons (hop_mv rfl (by decide) rfl rfl) (hall_cons (hop_val [(2, 228, _), (3, 229, _)] [] rfl rfl rfl (by decide) rfl (jcons rfl rfl rfl rfl rfl (jcons rfl rfl rfl rfl rfl (jnil))) (xnil) (fun _ _ _ _ => does_v (rv_and64 rfl rfl))) (hall_cons (hop_mv rfl (by decide) rfl rfl) (hall_cons (hop_val [(5, 231, _)] [] rfl rfl rfl (by decide) rfl (jcons rfl rfl rfl rfl rfl (jnil)) (xnil) (fun _ _ _ _ => does_v (rv_indexR1 (rd_own (i := 0) rfl) Tryd.underlying121 sz77 rfl rfl (j := 0) rfl (by first | omega | (simp [hH] <;> omega))))) (hall_cons (hop_val [(6, 232, _)] [] rfl rfl rfl (by decide) rfl (jcons rfl rfl rfl rfl rfl (jnil)) (xnil) (fun _ _ _ _ => does_v (rv_load_rd (rd_own (i := 0) rfl) tyS77 rfl (get64 (by first | omega | (simp [hH] <;> omega)))))) (hall_cons (hop_mv rfl (by decide) rfl rfl) (hall_cons (hop_val [(8, 234, _)] [] rfl rfl rfl (by decide) rfl (jcons rfl rfl rfl rfl rfl (jnil)) (xnil) (fun _ _ _ _ => does_v (rv_indexR1 (rd_own (i := 0) rfl) Tryd.underlying121 sz77 rfl rfl (j := 1) rfl (by first | omega | (simp [hH] <;> omega))))) (hall_cons (hop_val [(9, 235, _)] [] rfl rfl rfl (by decide) rfl (jcons rfl rfl rfl rfl rfl (jnil)) (xnil) (fun _ _ _ _ => does_v (rv_load_rd (rd_own (i := 0) rfl) tyS77 rfl (get64 (by first | omega | (simp [hH] <;> omega)))))) (hall_cons (hop_mv rfl (by decide) rfl rfl) (hall_cons (hop_val [(11, 237, _)] [] rfl rfl rfl (by decide) rfl (jcons rfl rfl rfl rfl rfl (jnil)) (xnil) (fun _ _ _ _ => does_v (rv_indexR1 (rd_own (i := 0) rfl) Tryd.underlying121 sz77 rfl rfl (j := 2) rfl (by first | omega | (simp [hH] <;> omega))))) (hall_cons (hop_val [(12, 238, _)] [] rfl rfl rfl (by decide) rfl (jcons rfl rfl rfl rfl rfl (jnil)) (xnil) (fun _ _ _ _ => does_v (rv_load_rd (rd_own (i := 0) rfl) tyS77 rfl (get64 (by first | omega | (simp [hH] <;> omega)))))) (hall_cons (hop_mv rfl (by decide) rfl rfl) (hall_cons (hop_val [(14, 240, _)] [] rfl rfl rfl (by decide) rfl (jcons rfl rfl rfl rfl rfl (jnil)) (xnil) (fun _ _ _ _ => does_v (rv_indexR1 (rd_own (i := 0) rfl) Tryd.underlying121 sz77 rfl rfl (j := 3) rfl (by first | omega | (simp [hH] <;> omega))))) (hall_cons (hop_val [(15, 241, _)] [] rfl rfl rfl (by decide) rfl (jcons rfl rfl rfl rfl rfl (jnil)) (xnil) (fun _ _ _ _ => does_v (rv_load_rd (rd_own (i := 0) rfl) tyS77 rfl (get64 (by first | omega | (simp [hH] <;> omega)))))) (hall_cons (hop_mv rfl (by decide) rfl rfl) (hall_cons (hop_val [(16, 242, _), (17, 243, _)] [] rfl rfl rfl (by decide) rfl (jcons rfl rfl rfl rfl rfl (jcons rfl rfl rfl rfl rfl (jnil))) (xnil) (fun _ _ _ _ => does_v (rv_add64 rfl rfl))) (hall_cons (hop_mv rfl (by decide) rfl rfl) (hall_cons (hop_val [(18, 244, _), (19, 245, _)] [] rfl rfl rfl (by decide) rfl (jcons rfl rfl rfl rfl rfl (jcons rfl rfl rfl rfl rfl (jnil))) (xnil) (fun _ _ _ _ => does_v (rv_and64 rfl rfl))) (hall_cons (hop_mv rfl (by decide) rfl rfl) (hall_cons (hop_val [(21, 247, _)] [] rfl rfl rfl (by decide) rfl (jcons rfl rfl rfl rfl rfl (jnil)) (xnil) (fun _ _ _ _ => does_v (rv_indexR1 (rd_own (i := 0) rfl) Tryd.underlying121 sz77 rfl rfl (j := 4) rfl (by first | omega | (simp [hH] <;> omega))))) (hall_cons (hop_val [(22, 248, _)] [] rfl rfl rfl (by decide) rfl (jcons rfl rfl rfl rfl rfl (jnil)) (xnil) (fun _ _ _ _ => does_v (rv_load_rd (rd_own (i := 0) rfl) tyS77 rfl (get64 (by first | omega | (simp [hH] <;> omega)))))) (hall_cons (hop_mv rfl (by decide) rfl rfl) (hall_cons (hop_val [(24, 250, _)] [] rfl rfl rfl (by decide) rfl (jcons rfl rfl rfl rfl rfl (jnil)) (xnil) (fun _ _ _ _ => does_v (rv_indexR1 (rd_own (i := 0) rfl) Tryd.underlying121 sz77 rfl rfl (j := 5) rfl (by first | omega | (simp [hH] <;> omega))))) (hall_cons (hop_val [(25, 251, _)] [] rfl rfl rfl (by decide) rfl (jcons rfl rfl rfl rfl rfl (jnil)) (xnil) (fun _ _ _ _ => does_v (rv_load_rd (rd_own (i := 0) rfl) tyS77 rfl (get64 (by first | omega | (simp [hH] <;> omega)))))) (hall_cons (hop_mv rfl (by decide) rfl rfl) (hall_cons (hop_val [(27, 253, _)] [] rfl rfl rfl (by decide) rfl (jcons rfl rfl rfl rfl rfl (jnil)) (xnil) (fun _ _ _ _ => does_v (rv_indexR1 (rd_own (i := 0) rfl) Tryd.underlying121 sz77 rfl rfl (j := 6) rfl (by first | omega | (simp [hH] <;> omega))))) (hall_cons (hop_val [(28, 254, _)] [] rfl rfl rfl (by decide) rfl (jcons rfl rfl rfl rfl rfl (jnil)) (xnil) (fun _ _ _ _ => does_v (rv_load_rd (rd_own (i := 0) rfl) tyS77 rfl (get64 (by first | omega | (simp [hH] <;> omega)))))) (hall_nil))))))))))))))))))))))))))))))) (draw_end1 [(4, 230, _), (7, 233, _), (10, 236, _), (13, 239, _), (20, 246, _), (23, 249, _), (26, 252, _), (29, 255, _)] (jcons rfl rfl rfl rfl rfl (jcons rfl rfl rfl rfl rfl (jcons rfl rfl rfl rfl rfl (jcons rfl rfl rfl rfl rfl (jcons rfl rfl rfl rfl rfl (jcons rfl rfl rfl rfl rfl (jcons rfl rfl rfl rfl rfl (jcons rfl rfl rfl rfl rfl (jnil))))))))) ?_)
            refine st_drawTail (N := 30) [0, 0, 3, 0, 15, 0, 32, 96, 0, 256, 768, 0, 2048, 6144, 0, 16384, 49152, 0, 245760, 0, 1032192, 0, 2097152, 6291456, 0, 16777216, 50331648, 0, 134217728, 402653184, 1073741823, 2147483647] (by kernel_rfl) (by kernel_rfl) ?_
            refine st_buildO Tryd.underlying121 tyZ77 rfl rfl (by decide) (cs := ((stpR 64 (rndR 64 K (schR 64 K (padW s 128 16) (128 * m) (K.length - 16)) (feedR 64 K H (padW s 128 16) m) t) (K.getD t 0#64) ((schR 64 K (padW s 128 16) (128 * m) (K.length - 16)).getD t 0#64)).map U64).toArray) rfl rfl (by decide) (fun v9 => ?_)
            refine st_v (rv_assign rfl) (by decide) ?_
            refine st_nil ?_
            refine st_in_normal ?_
            refine st_then ?_
            refine st_region ?_
            refine st_v (rv_move rfl) (by decide) ?_
            first | refine st_v (rv_addN (b := 1) rfl rfl (by first | omega | (simp; done) | (simp; omega))) (by decide) ?_ | refine st_v (rv_addZ rfl rfl (by first | omega | (simp; done) | (simp; omega))) (by decide) ?_
            refine st_v (rv_assign rfl) (by decide) ?_
            refine st_nil ?_
            refine st_then ?_
            exact st_again (t + 1, _) (by omega) (by omega) (.cons rfl (.cons rfl (.cons rfl (.cons rfl (.cons rfl (.cons rfl (.cons rfl (.cons rfl (.cons rfl (.cons rfl (.cons rfl (.cons rfl (.cons rfl (.nil _)))))))))))))) (fun _ hM => hM.sublist (List.Sublist.cons_cons _ (List.Sublist.cons _ (List.Sublist.cons_cons _ (List.Sublist.cons_cons _ (List.Sublist.cons_cons _ (List.Sublist.cons_cons _ (List.Sublist.cons_cons _ (List.Sublist.cons_cons _ (List.Sublist.cons_cons _ (List.Sublist.slnil)))))))))))
          · -- t149 False
            try simp only [z1, z2, z3, z4, z5, z6, z7, z8, z9, z10, z11, z12, z13, z14] at hc149
            obtain rfl : t = K.length := by omega
            refine st_exit ?_
            refine st_then_exit ?_
            refine st_then_exit ?_
            refine st_in_exit ?_
            refine st_then ?_
            refine st_seq ?_
            refine st_region ?_
            refine st_v (rv_assign rfl) (by decide) ?_
            refine st_nil ?_
            refine st_then ?_
            refine st_block ?_
            refine st_loopA (σ := Nat) [(0, kst _), (2, kst _), (9, kst _), (10, kst _), (11, kst _), (12, kst _), (13, kst _), (15, kst _), (16, kst _), (17, kst _), (22, kst _), (26, fun i => vI i)] [kst _, kst _, fun i => blk b6 (c64 (addR 64 (rndR 64 K (schR 64 K (padW s 128 16) (128 * m) (K.length - 16)) (feedR 64 K H (padW s 128 16) m) K.length) (feedR 64 K H (padW s 128 16) m) i)) 77, kst _, kst _, kst _, kst _, kst _] (fun i => i ≤ 8) (fun i => 8 - i) 0 (by omega) (.cons rfl (.cons rfl (.cons rfl (.cons rfl (.cons rfl (.cons rfl (.cons rfl (.cons rfl (.cons rfl (.cons rfl (.cons rfl (.cons rfl (.nil _))))))))))))) (fun _ hM => hM) ?_
            intro i hI
            try dsimp only at hI
            dsimp only [List.map, kst]
            refine st_seq ?_
            refine st_seq ?_
            refine st_region ?_
            refine st_v (rv_move rfl) (by decide) ?_
            refine st_v (rv_lssZ rfl rfl) (by decide) ?_
            refine st_nil ?_
            refine st_then ?_
            refine st_cond rfl (fun hc258 => ?_) (fun hc258 => ?_)
            · -- t258 True
              try simp only [z1, z2, z3, z4, z5, z6, z7, z8, z9, z10, z11, z12, z13, z14] at hc258
              refine st_skip ?_
              refine st_then ?_
              refine st_seq ?_
              refine st_block ?_
              refine st_drawStart mixed ?_
              refine st_drawSeg1 (E0 := [(0, _), (2, _), (9, _), (10, _), (11, _), (12, _), (13, _), (15, _), (16, _), (17, _), (22, _), (26, _)]) [kpeq _, kpeq _, kpeq _, kpeq _, kpeq _, kpeq _, kpeq _, kpeq _, kpeq _, kpeq _, kpeq _, kpeq _, kpeq _] 0 13 [0, 0, 0, 0, 12, 28, 0, 0, 192, 448, 1020, 0, 4092, 8191, 16383] [0, 2, 9, 10, 11, 12, 13, 15, 16, 17, 22, 26] (by kernel_rfl) (by decide) (by kernel_rfl) (.cons rfl (.cons rfl (.cons rfl (.cons rfl (.cons rfl (.cons rfl (.cons rfl (.cons rfl (.cons rfl (.cons rfl (.cons rfl (.cons rfl (.nil _))))))))))))) rfl rfl (hall_cons (hop_mv rfl (by decide) rfl rfl) (hall_cons (hop_mv rfl (by decide) rfl rfl) (hall_cons (hop_mv rfl (by decide) rfl rfl) (hall_cons (hop_mv rfl (by decide) rfl rfl) (hall_cons (hop_val [(2, 263, _), (3, 264, _)] [] rfl rfl rfl (by decide) rfl (jcons rfl rfl rfl rfl rfl (jcons rfl rfl rfl rfl rfl (jnil))) (xnil) (fun _ _ _ _ => does_v (rv_indexS Tryd.underlying121 sz77 rfl rfl rfl (by first | omega | (simp [hH] <;> omega)) (by first | exact (Nat.zero_add _).trans (Nat.mul_one _) | exact congrArg _ (Nat.mul_one _) | rfl)))) (hall_cons (hop_val [(4, 265, _)] [] rfl rfl rfl (by decide) rfl (jcons rfl rfl rfl rfl rfl (jnil)) (xnil) (fun _ _ _ _ => does_v (rv_load_blk tyS77 rfl (i := 2) rfl (cell64 (by first | omega | (simp [hH] <;> omega)))))) (hall_cons (hop_mv rfl (by decide) rfl rfl) (hall_cons (hop_mv rfl (by decide) rfl rfl) (hall_cons (hop_val [(6, 267, _), (7, 268, _)] [] rfl rfl rfl (by decide) rfl (jcons rfl rfl rfl rfl rfl (jcons rfl rfl rfl rfl rfl (jnil))) (xnil) (fun _ _ _ _ => does_v (rv_indexR1 (rd_own (i := 0) rfl) Tryd.underlying121 sz77 rfl rfl rfl (by first | omega | (simp [hH] <;> omega))))) (hall_cons (hop_val [(8, 269, _)] [] rfl rfl rfl (by decide) rfl (jcons rfl rfl rfl rfl rfl (jnil)) (xnil) (fun _ _ _ _ => does_v (rv_load_rd (rd_own (i := 0) rfl) tyS77 rfl (get64 (by first | omega | (simp [hH] <;> omega)))))) (hall_cons (hop_val [(5, 266, _), (9, 270, _)] [] rfl rfl rfl (by decide) rfl (jcons rfl rfl rfl rfl rfl (jcons rfl rfl rfl rfl rfl (jnil))) (xnil) (fun _ _ _ _ => does_v (rv_add64 rfl rfl))) (hall_cons (hop_mv rfl (by decide) rfl rfl) (hall_cons (hop_val [(10, 271, _), (11, 272, _)] [] rfl rfl rfl (by decide) rfl (jcons rfl rfl rfl rfl rfl (jcons rfl rfl rfl rfl rfl (jnil))) (xnil) (fun _ _ _ _ => does_v (rv_and64 rfl rfl))) (hall_nil)))))))))))))) (draw_end1 [(0, 261, _), (1, 262, _), (12, 273, _)] (jcons rfl rfl rfl rfl rfl (jcons rfl rfl rfl rfl rfl (jcons rfl rfl rfl rfl rfl (jnil)))) ?_)
              refine st_drawTail (N := 13) [0, 0, 0, 0, 12, 28, 0, 0, 192, 448, 1020, 0, 4092, 8191, 16383] (by kernel_rfl) (by kernel_rfl) ?_
              refine st_v (rv_indexS Tryd.underlying121 sz77 rfl rfl rfl (by first | omega | (simp [hH] <;> omega)) (by first | exact (Nat.zero_add _).trans (Nat.mul_one _) | exact congrArg _ (Nat.mul_one _) | rfl)) (by decide) ?_
              refine st_store64 rfl rfl (i := 2) rfl sz77 (by first | omega | (simp [hH] <;> omega)) (l' := [_, _, _, _, _, _, _, _]) rfl ?_
              refine st_nil ?_
              refine st_in_normal ?_
              refine st_then ?_
              refine st_region ?_
              refine st_v (rv_move rfl) (by decide) ?_
              first | refine st_v (rv_addN (b := 1) rfl rfl (by first | omega | (simp; done) | (simp; omega))) (by decide) ?_ | refine st_v (rv_addZ rfl rfl (by first | omega | (simp; done) | (simp; omega))) (by decide) ?_
              refine st_v (rv_assign rfl) (by decide) ?_
              refine st_nil ?_
              refine st_then ?_
              exact st_again (i + 1) (by omega) (by omega) (.cons rfl (.cons rfl (.cons rfl (.cons rfl (.cons rfl (.cons rfl (.cons rfl (.cons rfl (.cons rfl (.cons rfl (.cons rfl (.cons rfl (.nil _))))))))))))) (fun _ hM => hM)
            · -- t258 False
              try simp only [z1, z2, z3, z4, z5, z6, z7, z8, z9, z10, z11, z12, z13, z14] at hc258
              obtain rfl : i = 8 := by omega
              refine st_exit ?_
              refine st_then_exit ?_
              refine st_then_exit ?_
              refine st_in_exit ?_
              refine st_in_normal ?_
              refine st_then ?_
              refine st_region ?_
              refine st_v (rv_move rfl) (by decide) ?_
              refine st_v (rv_move rfl) (by decide) ?_
              first | refine st_v (rv_mulN (a := 16) rfl rfl (by first | omega | (simp; done) | (simp; omega))) (by decide) ?_ | refine st_v (rv_mulZ rfl rfl (by first | omega | (simp; done) | (simp; omega))) (by decide) ?_
              first | refine st_v (rv_addN rfl rfl (by first | omega | (simp; done) | (simp; omega))) (by decide) ?_ | refine st_v (rv_addZ rfl rfl (by first | omega | (simp; done) | (simp; omega))) (by decide) ?_
              refine st_v (rv_assign rfl) (by decide) ?_
              refine st_nil ?_
              refine st_then ?_
              exact st_again (m + 1) (by omega) (by omega) (.cons rfl (.cons rfl (.cons rfl (.cons rfl (.cons rfl (.cons rfl (.cons rfl (.cons rfl (.cons rfl (SubE.cons (congrArg some (congrArg (fun z : Nat => vI z) (by omega))) (.nil _))))))))))) (fun _ hM => hM.sublist (List.Sublist.cons _ (List.Sublist.cons _ (List.Sublist.cons_cons _ (List.Sublist.cons_cons _ (List.Sublist.cons_cons _ (List.Sublist.cons_cons _ (List.Sublist.cons_cons _ (List.Sublist.cons_cons _ (List.Sublist.slnil))))))))))
    · -- t63 False
      try simp only [z1, z2, z3, z4, z5, z6, z7, z8, z9, z10, z11, z12, z13, z14] at hc63
      obtain rfl : M = m := by omega
      refine st_exit ?_
      refine st_then_exit ?_
      refine st_then_exit ?_
      refine st_in_exit ?_
      refine st_then ?_
      refine st_seq ?_
      refine st_region ?_
      refine st_v (rv_assign rfl) (by decide) ?_
      refine st_nil ?_
      refine st_then ?_
      refine st_seq ?_
      refine st_seq ?_
      refine st_region ?_
      refine st_v (rv_assign rfl) (by decide) ?_
      refine st_nil ?_
      refine st_then ?_
      refine st_block ?_
      refine st_loopA (σ := Nat) [(0, kst _), (13, kst _), (16, kst _), (27, fun i => vS (outR 64 (feedR 64 K H (padW s 128 16) M) i)), (28, fun i => vI i)] [kst _, kst _, kst _, kst _, kst _, kst _] (fun i => i ≤ 8) (fun i => 8 - i) 0 (by omega) (.cons rfl (.cons rfl (.cons rfl (.cons rfl (.cons rfl (.nil _)))))) (fun _ hM => hM) ?_
      intro i hI
      try dsimp only at hI
      dsimp only [List.map, kst]
      refine st_seq ?_
      refine st_seq ?_
      refine st_region ?_
      refine st_v (rv_move rfl) (by decide) ?_
      refine st_v (rv_lssZ rfl rfl) (by decide) ?_
      refine st_nil ?_
      refine st_then ?_
      refine st_cond rfl (fun hc276 => ?_) (fun hc276 => ?_)
      · -- t276 True
        try simp only [z1, z2, z3, z4, z5, z6, z7, z8, z9, z10, z11, z12, z13, z14] at hc276
        refine st_skip ?_
        refine st_then ?_
        refine st_seq ?_
        refine st_block ?_
        refine st_region ?_
        refine st_v (rv_move rfl) (by decide) ?_
        refine st_v (rv_move rfl) (by decide) ?_
        refine st_v (rv_move rfl) (by decide) ?_
        refine st_v (rv_indexS Tryd.underlying121 sz77 rfl rfl rfl (by first | omega | (simp [hH] <;> omega)) (by first | exact (Nat.zero_add _).trans (Nat.mul_one _) | exact congrArg _ (Nat.mul_one _) | rfl)) (by decide) ?_
        refine st_v (rv_load_blk tyS77 rfl (i := 0) rfl (cell64 (by first | omega | (simp [hH] <;> omega)))) (by decide) ?_
        refine st_v (rv_move rfl) (by decide) ?_
        refine st_call0 cal125 rfl (fun w hM => (number_calls _ 8 (by decide) w)) (by decide) ?_
        refine st_v (rv_concat rfl rfl (by first | omega | (simp [hH] <;> omega))) (by decide) ?_
        refine st_v (rv_assign rfl) (by decide) ?_
        refine st_nil ?_
        refine st_in_normal ?_
        refine st_then ?_
        refine st_region ?_
        refine st_v (rv_move rfl) (by decide) ?_
        first | refine st_v (rv_addN (b := 1) rfl rfl (by first | omega | (simp; done) | (simp; omega))) (by decide) ?_ | refine st_v (rv_addZ rfl rfl (by first | omega | (simp; done) | (simp; omega))) (by decide) ?_
        refine st_v (rv_assign rfl) (by decide) ?_
        refine st_nil ?_
        refine st_then ?_
        exact st_again (i + 1) (by omega) (by omega) (.cons rfl (.cons rfl (.cons rfl (.cons rfl (.cons rfl (.nil _)))))) (fun _ hM => hM)
      · -- t276 False
        try simp only [z1, z2, z3, z4, z5, z6, z7, z8, z9, z10, z11, z12, z13, z14] at hc276
        obtain rfl : i = 8 := by omega
        refine st_exit ?_
        refine st_then_exit ?_
        refine st_then_exit ?_
        refine st_in_exit ?_
        refine st_then ?_
        refine st_seq ?_
        refine st_region ?_
        refine st_v (rv_move rfl) (by decide) ?_
        refine st_v (rv_move rfl) (by decide) ?_
        refine st_call0 cal36 rfl (fun w hM => (rSize1 w)) (by decide) ?_
        refine st_v (rv_sliceB Tryd.underlying9 rfl evB_none (evB_some rfl rfl) (by first | omega | (simp [hH] <;> omega)) (by first | omega | (simp [hH] <;> omega))) (by decide) ?_
        refine st_v (rv_assign rfl) (by decide) ?_
        refine st_nil ?_
        refine st_then ?_
        refine st_ret ?_
        exact st_done rfl rfl (fun w hM => ⟨by rw [withR, hMd]; rfl, hM.sublist (List.nil_sublist _)⟩)
set_option maxRecDepth 100000 in
set_option maxHeartbeats 4000000 in
theorem with2_calls (s : List (BitVec 8)) (vK vH : Value) (K H : List (BitVec 64)) (hs : s.length ≤ 900000) (hK : 16 ≤ K.length ∧ K.length ≤ 100) (hH : H.length = 8) (w : World) (hKR : Rd w vK K.length 1 (K.map U64)) (hHR : Rd w vH H.length 1 (H.map U64)) : Calls Tryd.prog 85 #[vI (2 : Nat), vS s, vK, vH] w (fun r w' => r = .returned (vS (withR 64 64 K H (padW s 128 16))) ∧ Mem (All w) w w' []) := by
  obtain ⟨hK16, hK100⟩ := hK
  obtain ⟨M, hMd⟩ : ∃ M, (padW s 128 16).length / (16 * nbR 64) = M := ⟨_, rfl⟩
  have hpl : (padW s 128 16).length = 128 * M := by have h1 := padW128 s; have e : 16 * nbR 64 = 128 := rfl; rw [e] at hMd; omega
  have hpm : (padW s 128 16).length ≤ 1000000 := by rw [length_padW, zcount]; omega
  refine calls_of_st (n := 291) (args := [vI (2 : Nat), vS s, vK, vH]) Tryd.func85 rfl Tryd.ntmps85 (Nat.le_of_ble_eq_true rfl) (Mem.all w) ?_
  refine st_seq ?_
  refine st_region ?_
  refine st_v (rv_assign rfl) (by decide) ?_
  refine st_nil ?_
  refine st_then ?_
  refine st_seq ?_
  refine st_region ?_
  refine st_v (rv_to (u := vI (64 : Nat)) (rv_assign rfl) rfl) (by decide) ?_
  refine st_nil ?_
  refine st_then ?_
  refine st_seq ?_
  refine st_region ?_
  refine st_buildSlice Tryd.underlying47 tyZ3 rfl rfl (by decide) (cs := #[_, _, _]) rfl (by decide) (fun b1 hb1 => ?_)
  refine st_buildSlice Tryd.underlying47 tyZ3 rfl rfl (by decide) (cs := #[_, _, _]) rfl (by decide) (fun b2 hb2 => ?_)
  refine st_buildSlice Tryd.underlying47 tyZ3 rfl rfl (by decide) (cs := #[_, _, _]) rfl (by decide) (fun b3 hb3 => ?_)
  refine st_buildSlice Tryd.underlying47 tyZ3 rfl rfl (by decide) (cs := #[_, _, _]) rfl (by decide) (fun b4 hb4 => ?_)
  refine st_buildO Tryd.underlying169 tyZ47 rfl rfl (by decide) (cs := #[_, _, _, _]) (by first | rfl | (simp only [fillL, rfl, rfl, rfl, rfl] <;> rfl)) rfl (by decide) (fun v5 => ?_)
  refine st_v (rv_assign rfl) (by decide) ?_
  refine st_nil ?_
  refine st_then ?_
  refine st_seq ?_
  refine st_region ?_
  refine st_v (rv_to (u := U64 18446744073709551615#64) (rv_assign rfl) rfl) (by decide) ?_
  refine st_nil ?_
  refine st_then ?_
  refine st_seq ?_
  refine st_region ?_
  refine st_v (rv_to (u := vI (0 : Nat)) (rv_assign rfl) rfl) (by decide) ?_
  refine st_nil ?_
  refine st_then ?_
  refine st_seq ?_
  refine st_seq ?_
  refine st_region ?_
  refine st_v (rv_move rfl) (by decide) ?_
  refine st_v (rv_eqlZ rfl rfl) (by decide) ?_
  refine st_nil ?_
  refine st_then ?_
  refine st_false rfl ?_
  refine st_skip ?_
  refine st_then ?_
  refine st_seq ?_
  refine st_region ?_
  refine st_make64 Tryd.underlying121 tyZ77 (len := 8) (cap := 8) rfl rfl (by omega) (by omega) (by omega) (by decide) (fun b6 hb6 => ?_)
  refine st_v (rv_assign rfl) (by decide) ?_
  refine st_nil ?_
  refine st_then ?_
  refine st_seq ?_
  refine st_seq ?_
  refine st_region ?_
  refine st_v (rv_assign rfl) (by decide) ?_
  refine st_nil ?_
  refine st_then ?_
  refine st_block ?_
  refine st_loopA (σ := Nat) [(0, kst _), (1, kst _), (2, kst _), (3, kst _), (9, kst _), (10, kst _), (11, kst _), (12, kst _), (13, kst _), (14, fun i => vI i)] [fun i => blk b6 (c64 (initR 64 H i)) 77, kst _, kst _, kst _, kst _, kst _] (fun i => i ≤ 8) (fun i => 8 - i) 0 (by omega) (.cons rfl (.cons rfl (.cons rfl (.cons rfl (.cons rfl (.cons rfl (.cons rfl (.cons rfl (.cons rfl (.cons rfl (.nil _))))))))))) (fun _ hM => hM) ?_
  intro i hI
  try dsimp only at hI
  dsimp only [List.map, kst]
  refine st_seq ?_
  refine st_seq ?_
  refine st_region ?_
  refine st_v (rv_move rfl) (by decide) ?_
  refine st_v (rv_lssZ rfl rfl) (by decide) ?_
  refine st_nil ?_
  refine st_then ?_
  refine st_cond rfl (fun hc43 => ?_) (fun hc43 => ?_)
  · -- t43 True
    try simp only [z1, z2, z3, z4, z5, z6, z7, z8, z9, z10, z11, z12, z13, z14] at hc43
    refine st_skip ?_
    refine st_then ?_
    refine st_seq ?_
    refine st_block ?_
    refine st_region ?_
    refine st_v (rv_move rfl) (by decide) ?_
    refine st_v (rv_move rfl) (by decide) ?_
    refine st_v (rv_move rfl) (by decide) ?_
    refine st_v (rv_move rfl) (by decide) ?_
    refine st_v (rv_indexR1 (rd_old hHR hHR.all) Tryd.underlying121 sz77 rfl rfl rfl (by first | omega | (simp [hH] <;> omega))) (by decide) ?_
    refine st_v (rv_load_rd (rd_old hHR hHR.all) tyS77 rfl (get64 (by first | omega | (simp [hH] <;> omega)))) (by decide) ?_
    refine st_v (rv_move rfl) (by decide) ?_
    refine st_v (rv_shr64 rfl rfl rfl) (by decide) ?_
    refine st_v (rv_indexS Tryd.underlying121 sz77 rfl rfl rfl (by first | omega | (simp [hH] <;> omega)) (by first | exact (Nat.zero_add _).trans (Nat.mul_one _) | exact congrArg _ (Nat.mul_one _) | rfl)) (by decide) ?_
    refine st_store64 rfl rfl (i := 0) rfl sz77 (by first | omega | (simp [hH] <;> omega)) (l' := [_, _, _, _, _, _]) rfl ?_
    refine st_nil ?_
    refine st_in_normal ?_
    refine st_then ?_
    refine st_region ?_
    refine st_v (rv_move rfl) (by decide) ?_
    first | refine st_v (rv_addN (b := 1) rfl rfl (by first | omega | (simp; done) | (simp; omega))) (by decide) ?_ | refine st_v (rv_addZ rfl rfl (by first | omega | (simp; done) | (simp; omega))) (by decide) ?_
    refine st_v (rv_assign rfl) (by decide) ?_
    refine st_nil ?_
    refine st_then ?_
    exact st_again (i + 1) (by omega) (by omega) (.cons rfl (.cons rfl (.cons rfl (.cons rfl (.cons rfl (.cons rfl (.cons rfl (.cons rfl (.cons rfl (.cons rfl (.nil _))))))))))) (fun _ hM => hM)
  · -- t43 False
    try simp only [z1, z2, z3, z4, z5, z6, z7, z8, z9, z10, z11, z12, z13, z14] at hc43
    obtain rfl : i = 8 := by omega
    refine st_exit ?_
    refine st_then_exit ?_
    refine st_then_exit ?_
    refine st_in_exit ?_
    refine st_then ?_
    refine st_seq ?_
    refine st_region ?_
    refine st_v (rv_move rfl) (by decide) ?_
    refine st_v (rv_move rfl) (by decide) ?_
    refine st_call0 cal123 rfl (fun w hM => (padded2_calls s hs w)) (by decide) ?_
    refine st_v (rv_assign rfl) (by decide) ?_
    refine st_nil ?_
    refine st_then ?_
    refine st_seq ?_
    refine st_region ?_
    refine st_v (rv_move rfl) (by decide) ?_
    refine st_v (rv_to (u := vI (8 : Nat)) (rv_quoN (a := 64) (b := 8) rfl rfl (by omega)) (by rfl)) (by decide) ?_
    refine st_v (rv_assign rfl) (by decide) ?_
    refine st_nil ?_
    refine st_then ?_
    refine st_seq ?_
    refine st_seq ?_
    refine st_region ?_
    refine st_v (rv_assign rfl) (by decide) ?_
    refine st_nil ?_
    refine st_then ?_
    refine st_block ?_
    refine st_loopA (σ := Nat) [(0, kst _), (2, kst _), (9, kst _), (10, kst _), (11, kst _), (12, kst _), (13, kst _), (15, kst _), (16, kst _), (17, fun m => vI (128 * m : Nat))] [fun m => blk b6 (c64 (feedR 64 K H (padW s 128 16) m)) 77, kst _, kst _, kst _, kst _, kst _] (fun m => m ≤ M) (fun m => M - m) 0 (by omega) (.cons rfl (.cons rfl (.cons rfl (.cons rfl (.cons rfl (.cons rfl (.cons rfl (.cons rfl (.cons rfl (.cons rfl (.nil _))))))))))) (fun _ hM => hM) ?_
    intro m hI
    try dsimp only at hI
    dsimp only [List.map, kst]
    refine st_seq ?_
    refine st_seq ?_
    refine st_region ?_
    refine st_v (rv_move rfl) (by decide) ?_
    refine st_v (rv_move rfl) (by decide) ?_
    refine st_v (rv_lenB Tryd.underlying9 rfl) (by decide) ?_
    refine st_v (rv_lssZ rfl rfl) (by decide) ?_
    refine st_nil ?_
    refine st_then ?_
    refine st_cond rfl (fun hc63 => ?_) (fun hc63 => ?_)
    · -- t63 True
      try simp only [z1, z2, z3, z4, z5, z6, z7, z8, z9, z10, z11, z12, z13, z14] at hc63
      refine st_skip ?_
      refine st_then ?_
      refine st_seq ?_
      refine st_block ?_
      refine st_seq ?_
      refine st_region ?_
      refine st_v (rv_move rfl) (by decide) ?_
      refine st_v (rv_lenR (rd_old hKR hKR.all) Tryd.underlying121 rfl) (by decide) ?_
      refine st_make64 Tryd.underlying121 tyZ77 rfl rfl (by omega) (by omega) (by omega) (by decide) (fun b7 hb7 => ?_)
      refine st_v (rv_assign rfl) (by decide) ?_
      refine st_nil ?_
      refine st_then ?_
      refine st_seq ?_
      refine st_seq ?_
      refine st_region ?_
      refine st_v (rv_assign rfl) (by decide) ?_
      refine st_nil ?_
      refine st_then ?_
      refine st_block ?_
      refine st_loopA (σ := Nat) [(0, kst _), (2, kst _), (9, kst _), (10, kst _), (11, kst _), (12, kst _), (13, kst _), (15, kst _), (16, kst _), (17, kst _), (18, kst _), (19, fun t => vI t)] [fun t => blk b7 (c64 (f16R 64 K (padW s 128 16) (128 * m) t)) 77, kst _, kst _, kst _, kst _, kst _, kst _] (fun t => t ≤ 16) (fun t => 16 - t) 0 (by omega) (.cons rfl (.cons rfl (.cons rfl (.cons rfl (.cons rfl (.cons rfl (.cons rfl (.cons rfl (.cons rfl (.cons rfl (.cons rfl (.cons rfl (.nil _))))))))))))) (fun _ hM => hM) ?_
      intro t hI
      try dsimp only at hI
      dsimp only [List.map, kst]
      refine st_seq ?_
      refine st_seq ?_
      refine st_region ?_
      refine st_v (rv_move rfl) (by decide) ?_
      refine st_v (rv_lssZ rfl rfl) (by decide) ?_
      refine st_nil ?_
      refine st_then ?_
      refine st_cond rfl (fun hc72 => ?_) (fun hc72 => ?_)
      · -- t72 True
        try simp only [z1, z2, z3, z4, z5, z6, z7, z8, z9, z10, z11, z12, z13, z14] at hc72
        refine st_skip ?_
        refine st_then ?_
        refine st_seq ?_
        refine st_block ?_
        refine st_seq ?_
        refine st_region ?_
        refine st_v (rv_assign rfl) (by decide) ?_
        refine st_nil ?_
        refine st_then ?_
        refine st_block ?_
        refine st_loopA (σ := Nat) [(0, kst _), (2, kst _), (9, kst _), (10, kst _), (11, kst _), (12, kst _), (13, kst _), (15, kst _), (16, kst _), (17, kst _), (18, kst _), (19, kst _), (20, fun i => vI i)] [fun i => blk b7 (c64 (accR 64 (padW s 128 16) (f16R 64 K (padW s 128 16) (128 * m) t) (128 * m) t i)) 77, kst _, kst _, kst _, kst _, kst _, kst _] (fun i => i ≤ 8) (fun i => 8 - i) 0 (by omega) (.cons rfl (.cons rfl (.cons rfl (.cons rfl (.cons rfl (.cons rfl (.cons rfl (.cons rfl (.cons rfl (.cons rfl (.cons rfl (.cons rfl (.cons rfl (.nil _)))))))))))))) (fun _ hM => hM) ?_
        intro i hI
        try dsimp only at hI
        dsimp only [List.map, kst]
        refine st_seq ?_
        refine st_seq ?_
        refine st_region ?_
        refine st_v (rv_move rfl) (by decide) ?_
        refine st_v (rv_move rfl) (by decide) ?_
        refine st_v (rv_lssZ rfl rfl) (by decide) ?_
        refine st_nil ?_
        refine st_then ?_
        refine st_cond rfl (fun hc77 => ?_) (fun hc77 => ?_)
        · -- t77 True
          try simp only [z1, z2, z3, z4, z5, z6, z7, z8, z9, z10, z11, z12, z13, z14] at hc77
          refine st_skip ?_
          refine st_then ?_
          refine st_seq ?_
          refine st_block ?_
          refine st_drawStart mixed ?_
          refine st_drawSeg1 (E0 := [(0, _), (2, _), (9, _), (10, _), (11, _), (12, _), (13, _), (15, _), (16, _), (17, _), (18, _), (19, _), (20, _)]) [kpeq _, kpeq _, kpeq _, kpeq _, kpeq _, kpeq _, kpeq _, kpeq _, kpeq _, kpeq _, kpeq _, kpeq _, kpeq _, kpeq _, kpeq _, kpeq _, kpeq _, kpeq _] 0 18 [0, 0, 0, 0, 12, 28, 60, 0, 0, 0, 0, 1536, 3840, 0, 16128, 32640, 65408, 131068, 262143, 524287] [0, 2, 9, 10, 11, 12, 13, 15, 16, 17, 18, 19, 20] (by kernel_rfl) (by decide) (by kernel_rfl) (.cons rfl (.cons rfl (.cons rfl (.cons rfl (.cons rfl (.cons rfl (.cons rfl (.cons rfl (.cons rfl (.cons rfl (.cons rfl (.cons rfl (.cons rfl (.nil _)))))))))))))) rfl rfl (hall_cons (hop_mv rfl (by decide) rfl rfl) (hall_cons (hop_mv rfl (by decide) rfl rfl) (hall_cons (hop_mv rfl (by decide) rfl rfl) (hall_cons (hop_mv rfl (by decide) rfl rfl) (hall_cons (hop_val [(2, 82, _), (3, 83, _)] [] rfl rfl rfl (by decide) rfl (jcons rfl rfl rfl rfl rfl (jcons rfl rfl rfl rfl rfl (jnil))) (xnil) (fun _ _ _ _ => does_v (rv_indexS Tryd.underlying121 sz77 rfl rfl rfl (by first | omega | (simp [hH] <;> omega)) (by first | exact (Nat.zero_add _).trans (Nat.mul_one _) | exact congrArg _ (Nat.mul_one _) | rfl)))) (hall_cons (hop_val [(4, 84, _)] [] rfl rfl rfl (by decide) rfl (jcons rfl rfl rfl rfl rfl (jnil)) (xnil) (fun _ _ _ _ => does_v (rv_load_blk tyS77 rfl (i := 0) rfl (cell64 (by first | omega | (simp [hH] <;> omega)))))) (hall_cons (hop_val [(5, 85, _)] [] rfl rfl rfl (by decide) rfl (jcons rfl rfl rfl rfl rfl (jnil)) (xnil) (fun _ _ _ _ => does_v (rv_shl64 (s := 8) rfl rfl rfl))) (hall_cons (hop_mv rfl (by decide) rfl rfl) (hall_cons (hop_mv rfl (by decide) rfl rfl) (hall_cons (hop_mv rfl (by decide) rfl rfl) (hall_cons (hop_mv rfl (by decide) rfl rfl) (hall_cons (hop_val [(9, 89, _), (10, 90, _)] [] rfl rfl rfl (by decide) rfl (jcons rfl rfl rfl rfl rfl (jcons rfl rfl rfl rfl rfl (jnil))) (xnil) (fun _ _ _ _ => does_v (rv_mulN rfl rfl (by first | omega | (simp; done) | (simp; omega))))) (hall_cons (hop_val [(8, 88, _), (11, 91, _)] [] rfl rfl rfl (by decide) rfl (jcons rfl rfl rfl rfl rfl (jcons rfl rfl rfl rfl rfl (jnil))) (xnil) (fun _ _ _ _ => does_v (rv_addN rfl rfl (by first | omega | (simp; done) | (simp; omega))))) (hall_cons (hop_mv rfl (by decide) rfl rfl) (hall_cons (hop_val [(12, 92, _), (13, 93, _)] [] rfl rfl rfl (by decide) rfl (jcons rfl rfl rfl rfl rfl (jcons rfl rfl rfl rfl rfl (jnil))) (xnil) (fun _ _ _ _ => does_v (rv_addN rfl rfl (by first | omega | (simp; done) | (simp; omega))))) (hall_cons (hop_val [(7, 87, _), (14, 94, _)] [] rfl rfl rfl (by decide) rfl (jcons rfl rfl rfl rfl rfl (jcons rfl rfl rfl rfl rfl (jnil))) (xnil) (fun _ _ _ _ => does_v (rv_indexB Tryd.underlying9 rfl rfl rfl (by first | omega | (simp [hH] <;> omega))))) (hall_cons (hop_val [(15, 95, _)] [] rfl rfl rfl (by decide) rfl (jcons rfl rfl rfl rfl rfl (jnil)) (xnil) (fun _ _ _ _ => does_v (rv_conv8to64 Tryd.underlying5 Tryd.underlying77 rfl))) (hall_cons (hop_val [(6, 86, _), (16, 96, _)] [] rfl rfl rfl (by decide) rfl (jcons rfl rfl rfl rfl rfl (jcons rfl rfl rfl rfl rfl (jnil))) (xnil) (fun _ _ _ _ => does_v (rv_or64 rfl rfl))) (hall_nil))))))))))))))))))) (draw_end1 [(0, 80, _), (1, 81, _), (17, 97, _)] (jcons rfl rfl rfl rfl rfl (jcons rfl rfl rfl rfl rfl (jcons rfl rfl rfl rfl rfl (jnil)))) ?_)
          refine st_drawTail (N := 18) [0, 0, 0, 0, 12, 28, 60, 0, 0, 0, 0, 1536, 3840, 0, 16128, 32640, 65408, 131068, 262143, 524287] (by kernel_rfl) (by kernel_rfl) ?_
          refine st_v (rv_indexS Tryd.underlying121 sz77 rfl rfl rfl (by first | omega | (simp [hH] <;> omega)) (by first | exact (Nat.zero_add _).trans (Nat.mul_one _) | exact congrArg _ (Nat.mul_one _) | rfl)) (by decide) ?_
          refine st_store64 rfl rfl (i := 0) rfl sz77 (by first | omega | (simp [hH] <;> omega)) (l' := [_, _, _, _, _, _, _]) rfl ?_
          refine st_nil ?_
          refine st_in_normal ?_
          refine st_then ?_
          refine st_region ?_
          refine st_v (rv_move rfl) (by decide) ?_
          first | refine st_v (rv_addN (b := 1) rfl rfl (by first | omega | (simp; done) | (simp; omega))) (by decide) ?_ | refine st_v (rv_addZ rfl rfl (by first | omega | (simp; done) | (simp; omega))) (by decide) ?_
          refine st_v (rv_assign rfl) (by decide) ?_
          refine st_nil ?_
          refine st_then ?_
          exact st_again (i + 1) (by omega) (by omega) (.cons rfl (.cons rfl (.cons rfl (.cons rfl (.cons rfl (.cons rfl (.cons rfl (.cons rfl (.cons rfl (.cons rfl (.cons rfl (.cons rfl (.cons rfl (.nil _)))))))))))))) (fun _ hM => hM)
        · -- t77 False
          try simp only [z1, z2, z3, z4, z5, z6, z7, z8, z9, z10, z11, z12, z13, z14] at hc77
          obtain rfl : i = 8 := by omega
          refine st_exit ?_
          refine st_then_exit ?_
          refine st_then_exit ?_
          refine st_in_exit ?_
          refine st_in_normal ?_
          refine st_then ?_
          refine st_region ?_
          refine st_v (rv_move rfl) (by decide) ?_
          first | refine st_v (rv_addN (b := 1) rfl rfl (by first | omega | (simp; done) | (simp; omega))) (by decide) ?_ | refine st_v (rv_addZ rfl rfl (by first | omega | (simp; done) | (simp; omega))) (by decide) ?_
          refine st_v (rv_assign rfl) (by decide) ?_
          refine st_nil ?_
          refine st_then ?_
          exact st_again (t + 1) (by omega) (by omega) (.cons rfl (.cons rfl (.cons rfl (.cons rfl (.cons rfl (.cons rfl (.cons rfl (.cons rfl (.cons rfl (.cons rfl (.cons rfl (.cons rfl (.nil _))))))))))))) (fun _ hM => hM)
      · -- t72 False
        try simp only [z1, z2, z3, z4, z5, z6, z7, z8, z9, z10, z11, z12, z13, z14] at hc72
        obtain rfl : t = 16 := by omega
        refine st_exit ?_
        refine st_then_exit ?_
        refine st_then_exit ?_
        refine st_in_exit ?_
        refine st_then ?_
        refine st_seq ?_
        refine st_seq ?_
        refine st_region ?_
        refine st_v (rv_assign rfl) (by decide) ?_
        refine st_nil ?_
        refine st_then ?_
        refine st_block ?_
        refine st_loopA (σ := Nat) [(0, kst _), (2, kst _), (9, kst _), (10, kst _), (11, kst _), (12, kst _), (13, kst _), (15, kst _), (16, kst _), (17, kst _), (18, kst _), (21, fun t => vI (16 + t : Nat))] [fun t => blk b7 (c64 (schR 64 K (padW s 128 16) (128 * m) t)) 77, kst _, kst _, kst _, kst _, kst _, kst _] (fun t => 16 + t ≤ K.length) (fun t => K.length - (16 + t)) 0 (by omega) (.cons rfl (.cons rfl (.cons rfl (.cons rfl (.cons rfl (.cons rfl (.cons rfl (.cons rfl (.cons rfl (.cons rfl (.cons rfl (.cons rfl (.nil _))))))))))))) (fun _ hM => hM) ?_
        intro t hI
        try dsimp only at hI
        dsimp only [List.map, kst]
        refine st_seq ?_
        refine st_seq ?_
        refine st_region ?_
        refine st_v (rv_move rfl) (by decide) ?_
        refine st_v (rv_move rfl) (by decide) ?_
        refine st_v (rv_lenR (rd_old hKR hKR.all) Tryd.underlying121 rfl) (by decide) ?_
        refine st_v (rv_lssZ rfl rfl) (by decide) ?_
        refine st_nil ?_
        refine st_then ?_
        refine st_cond rfl (fun hc102 => ?_) (fun hc102 => ?_)
        · -- t102 True
          try simp only [z1, z2, z3, z4, z5, z6, z7, z8, z9, z10, z11, z12, z13, z14] at hc102
          refine st_skip ?_
          refine st_then ?_
          refine st_seq ?_
          refine st_block ?_
          refine st_drawStart mixed ?_
          refine st_drawSeg1 (E0 := [(0, _), (2, _), (9, _), (10, _), (11, _), (12, _), (13, _), (15, _), (16, _), (17, _), (18, _), (21, _)]) [kpeq _, kpeq _, kpeq _, kpeq _, kpeq _, kpeq _, kpeq _, kpeq _, kpeq _, kpeq _, kpeq _, kpeq _, kpeq _, kpeq _, kpeq _, kpeq _, kpeq _, kpeq _, kpeq _, kpeq _, kpeq _, kpeq _, kpeq _, kpeq _, kpeq _, kpeq _, kpeq _, kpeq _, kpeq _, kpeq _, kpeq _, kpeq _, kpeq _, kpeq _, kpeq _, kpeq _, kpeq _] 0 37 [0, 0, 0, 0, 8, 28, 60, 0, 128, 384, 0, 2044, 0, 0, 8192, 28672, 61440, 131068, 0, 0, 524288, 1835008, 3932160, 0, 8388608, 25165824, 0, 133959676, 268435452, 0, 0, 1073741824, 3758096384, 8053063680, 17179869180, 0, 68719476732, 137438953471, 274877906943] [0, 2, 9, 10, 11, 12, 13, 15, 16, 17, 18, 21] (by kernel_rfl) (by decide) (by kernel_rfl) (.cons rfl (.cons rfl (.cons rfl (.cons rfl (.cons rfl (.cons rfl (.cons rfl (.cons rfl (.cons rfl (.cons rfl (.cons rfl (.cons rfl (.nil _))))))))))))) rfl rfl (hall_cons (hop_mv rfl (by decide) rfl rfl) (hall_cons (hop_mv rfl (by decide) rfl rfl) (hall_cons (hop_mv rfl (by decide) rfl rfl) (hall_cons (hop_mv rfl (by decide) rfl rfl) (hall_cons (hop_val [(3, 108, _)] [] rfl rfl rfl (by decide) rfl (jcons rfl rfl rfl rfl rfl (jnil)) (xnil) (fun _ _ _ _ => does_v (rv_subN (b := 2) rfl rfl (by first | omega | (simp; done) | (simp; omega))))) (hall_cons (hop_val [(2, 107, _), (4, 109, _)] [] rfl rfl rfl (by decide) rfl (jcons rfl rfl rfl rfl rfl (jcons rfl rfl rfl rfl rfl (jnil))) (xnil) (fun _ _ _ _ => does_v (rv_indexS Tryd.underlying121 sz77 rfl rfl rfl (by first | omega | (simp [hH] <;> omega)) (by first | exact (Nat.zero_add _).trans (Nat.mul_one _) | exact congrArg _ (Nat.mul_one _) | rfl)))) (hall_cons (hop_val [(5, 110, _)] [] rfl rfl rfl (by decide) rfl (jcons rfl rfl rfl rfl rfl (jnil)) (xnil) (fun _ _ _ _ => does_v (rv_load_blk tyS77 rfl (i := 0) rfl (cell64 (by first | omega | (simp [hH] <;> omega)))))) (hall_cons (hop_mv rfl (by decide) rfl rfl) (hall_cons (hop_val [(7, 112, _)] [] rfl rfl rfl (by decide) rfl (jcons rfl rfl rfl rfl rfl (jnil)) (xnil) (fun _ _ _ _ => does_v (rv_indexR1 (rd_own (i := 2) rfl) Tryd.underlying169 sz47 rfl rfl (j := 3) rfl (by first | omega | (simp [hH] <;> omega))))) (hall_cons (hop_val [(8, 113, _)] [] rfl rfl rfl (by decide) rfl (jcons rfl rfl rfl rfl rfl (jnil)) (xnil) (fun _ _ _ _ => does_v (rv_load_rd (rd_own (i := 2) rfl) tyS47 rfl (by rfl)))) (hall_cons (hop_mv rfl (by decide) rfl rfl) (hall_cons (hop_val [(6, 111, _), (9, 114, _), (10, 115, _)] [] rfl rfl rfl (by decide) rfl (jcons rfl rfl rfl rfl rfl (jcons rfl rfl rfl rfl rfl (jcons rfl rfl rfl rfl rfl (jnil)))) (xnil) (fun _ _ _ _ => does_call0 cal124 rfl (fun w hM => (three64D_calls _ _ 19 61 6 (by decide) (by decide) (by decide) w ((rd_I (q := [_, _, _]) (len := 3) (i := 3) rfl rfl rfl (by omega)) w hM))))) (hall_cons (hop_mv rfl (by decide) rfl rfl) (hall_cons (hop_mv rfl (by decide) rfl rfl) (hall_cons (hop_val [(13, 118, _)] [] rfl rfl rfl (by decide) rfl (jcons rfl rfl rfl rfl rfl (jnil)) (xnil) (fun _ _ _ _ => does_v (rv_subN (b := 7) rfl rfl (by first | omega | (simp; done) | (simp; omega))))) (hall_cons (hop_val [(12, 117, _), (14, 119, _)] [] rfl rfl rfl (by decide) rfl (jcons rfl rfl rfl rfl rfl (jcons rfl rfl rfl rfl rfl (jnil))) (xnil) (fun _ _ _ _ => does_v (rv_indexS Tryd.underlying121 sz77 rfl rfl rfl (by first | omega | (simp [hH] <;> omega)) (by first | exact (Nat.zero_add _).trans (Nat.mul_one _) | exact congrArg _ (Nat.mul_one _) | rfl)))) (hall_cons (hop_val [(15, 120, _)] [] rfl rfl rfl (by decide) rfl (jcons rfl rfl rfl rfl rfl (jnil)) (xnil) (fun _ _ _ _ => does_v (rv_load_blk tyS77 rfl (i := 0) rfl (cell64 (by first | omega | (simp [hH] <;> omega)))))) (hall_cons (hop_val [(11, 116, _), (16, 121, _)] [] rfl rfl rfl (by decide) rfl (jcons rfl rfl rfl rfl rfl (jcons rfl rfl rfl rfl rfl (jnil))) (xnil) (fun _ _ _ _ => does_v (rv_add64 rfl rfl))) (hall_cons (hop_mv rfl (by decide) rfl rfl) (hall_cons (hop_mv rfl (by decide) rfl rfl) (hall_cons (hop_val [(19, 124, _)] [] rfl rfl rfl (by decide) rfl (jcons rfl rfl rfl rfl rfl (jnil)) (xnil) (fun _ _ _ _ => does_v (rv_subN (b := 15) rfl rfl (by first | omega | (simp; done) | (simp; omega))))) (hall_cons (hop_val [(18, 123, _), (20, 125, _)] [] rfl rfl rfl (by decide) rfl (jcons rfl rfl rfl rfl rfl (jcons rfl rfl rfl rfl rfl (jnil))) (xnil) (fun _ _ _ _ => does_v (rv_indexS Tryd.underlying121 sz77 rfl rfl rfl (by first | omega | (simp [hH] <;> omega)) (by first | exact (Nat.zero_add _).trans (Nat.mul_one _) | exact congrArg _ (Nat.mul_one _) | rfl)))) (hall_cons (hop_val [(21, 126, _)] [] rfl rfl rfl (by decide) rfl (jcons rfl rfl rfl rfl rfl (jnil)) (xnil) (fun _ _ _ _ => does_v (rv_load_blk tyS77 rfl (i := 0) rfl (cell64 (by first | omega | (simp [hH] <;> omega)))))) (hall_cons (hop_mv rfl (by decide) rfl rfl) (hall_cons (hop_val [(23, 128, _)] [] rfl rfl rfl (by decide) rfl (jcons rfl rfl rfl rfl rfl (jnil)) (xnil) (fun _ _ _ _ => does_v (rv_indexR1 (rd_own (i := 2) rfl) Tryd.underlying169 sz47 rfl rfl (j := 2) rfl (by first | omega | (simp [hH] <;> omega))))) (hall_cons (hop_val [(24, 129, _)] [] rfl rfl rfl (by decide) rfl (jcons rfl rfl rfl rfl rfl (jnil)) (xnil) (fun _ _ _ _ => does_v (rv_load_rd (rd_own (i := 2) rfl) tyS47 rfl (by rfl)))) (hall_cons (hop_mv rfl (by decide) rfl rfl) (hall_cons (hop_val [(22, 127, _), (25, 130, _), (26, 131, _)] [] rfl rfl rfl (by decide) rfl (jcons rfl rfl rfl rfl rfl (jcons rfl rfl rfl rfl rfl (jcons rfl rfl rfl rfl rfl (jnil)))) (xnil) (fun _ _ _ _ => does_call0 cal124 rfl (fun w hM => (three64D_calls _ _ 1 8 7 (by decide) (by decide) (by decide) w ((rd_I (q := [_, _, _]) (len := 3) (i := 4) rfl rfl rfl (by omega)) w hM))))) (hall_cons (hop_val [(17, 122, _), (27, 132, _)] [] rfl rfl rfl (by decide) rfl (jcons rfl rfl rfl rfl rfl (jcons rfl rfl rfl rfl rfl (jnil))) (xnil) (fun _ _ _ _ => does_v (rv_add64 rfl rfl))) (hall_cons (hop_mv rfl (by decide) rfl rfl) (hall_cons (hop_mv rfl (by decide) rfl rfl) (hall_cons (hop_val [(30, 135, _)] [] rfl rfl rfl (by decide) rfl (jcons rfl rfl rfl rfl rfl (jnil)) (xnil) (fun _ _ _ _ => does_v (rv_subN (b := 16) rfl rfl (by first | omega | (simp; done) | (simp; omega))))) (hall_cons (hop_val [(29, 134, _), (31, 136, _)] [] rfl rfl rfl (by decide) rfl (jcons rfl rfl rfl rfl rfl (jcons rfl rfl rfl rfl rfl (jnil))) (xnil) (fun _ _ _ _ => does_v (rv_indexS Tryd.underlying121 sz77 rfl rfl rfl (by first | omega | (simp [hH] <;> omega)) (by first | exact (Nat.zero_add _).trans (Nat.mul_one _) | exact congrArg _ (Nat.mul_one _) | rfl)))) (hall_cons (hop_val [(32, 137, _)] [] rfl rfl rfl (by decide) rfl (jcons rfl rfl rfl rfl rfl (jnil)) (xnil) (fun _ _ _ _ => does_v (rv_load_blk tyS77 rfl (i := 0) rfl (cell64 (by first | omega | (simp [hH] <;> omega)))))) (hall_cons (hop_val [(28, 133, _), (33, 138, _)] [] rfl rfl rfl (by decide) rfl (jcons rfl rfl rfl rfl rfl (jcons rfl rfl rfl rfl rfl (jnil))) (xnil) (fun _ _ _ _ => does_v (rv_add64 rfl rfl))) (hall_cons (hop_mv rfl (by decide) rfl rfl) (hall_cons (hop_val [(34, 139, _), (35, 140, _)] [] rfl rfl rfl (by decide) rfl (jcons rfl rfl rfl rfl rfl (jcons rfl rfl rfl rfl rfl (jnil))) (xnil) (fun _ _ _ _ => does_v (rv_and64 rfl rfl))) (hall_nil)))))))))))))))))))))))))))))))))))))) (draw_end1 [(0, 105, _), (1, 106, _), (36, 141, _)] (jcons rfl rfl rfl rfl rfl (jcons rfl rfl rfl rfl rfl (jcons rfl rfl rfl rfl rfl (jnil)))) ?_)
          refine st_drawTail (N := 37) [0, 0, 0, 0, 8, 28, 60, 0, 128, 384, 0, 2044, 0, 0, 8192, 28672, 61440, 131068, 0, 0, 524288, 1835008, 3932160, 0, 8388608, 25165824, 0, 133959676, 268435452, 0, 0, 1073741824, 3758096384, 8053063680, 17179869180, 0, 68719476732, 137438953471, 274877906943] (by kernel_rfl) (by kernel_rfl) ?_
          refine st_v (rv_indexS Tryd.underlying121 sz77 rfl rfl rfl (by first | omega | (simp [hH] <;> omega)) (by first | exact (Nat.zero_add _).trans (Nat.mul_one _) | exact congrArg _ (Nat.mul_one _) | rfl)) (by decide) ?_
          refine st_store64 rfl rfl (i := 0) rfl sz77 (by first | omega | (simp [hH] <;> omega)) (l' := [_, _, _, _, _, _, _]) rfl ?_
          refine st_nil ?_
          refine st_in_normal ?_
          refine st_then ?_
          refine st_region ?_
          refine st_v (rv_move rfl) (by decide) ?_
          first | refine st_v (rv_addN (b := 1) rfl rfl (by first | omega | (simp; done) | (simp; omega))) (by decide) ?_ | refine st_v (rv_addZ rfl rfl (by first | omega | (simp; done) | (simp; omega))) (by decide) ?_
          refine st_v (rv_assign rfl) (by decide) ?_
          refine st_nil ?_
          refine st_then ?_
          exact st_again (t + 1) (by omega) (by omega) (.cons rfl (.cons rfl (.cons rfl (.cons rfl (.cons rfl (.cons rfl (.cons rfl (.cons rfl (.cons rfl (.cons rfl (.cons rfl (.cons rfl (.nil _))))))))))))) (fun _ hM => hM)
        · -- t102 False
          try simp only [z1, z2, z3, z4, z5, z6, z7, z8, z9, z10, z11, z12, z13, z14] at hc102
          obtain rfl : t = K.length - 16 := by omega
          refine st_exit ?_
          refine st_then_exit ?_
          refine st_then_exit ?_
          refine st_in_exit ?_
          refine st_then ?_
          refine st_seq ?_
          refine st_region ?_
          refine st_buildO Tryd.underlying121 tyZ77 rfl rfl (by decide) (cs := (([] : List (BitVec 64)).map U64).toArray) rfl rfl (by decide) (fun v8 => ?_)
          refine st_v (rv_move rfl) (by decide) ?_
          refine st_append Tryd.underlying121 Tryd.underlying121 (.inr ⟨_, rfl⟩) tyZ77 rfl rfl rfl (i := 0) rfl (one64 _) (fun w hM => src_rd ((rd_w64 (i := 2) rfl (by first | omega | (simp [hH]; done) | (simp [hH] <;> omega)) (by omega)) w hM) (one64 _)) (by first | omega | (simp; omega)) (by first | omega | (simp; omega)) (by decide) (fun v8 => ?_)
          rw [← List.map_append, List.nil_append, Nat.zero_add]
          refine st_v (rv_assign rfl) (by decide) ?_
          refine st_nil ?_
          refine st_then ?_
          refine st_seq ?_
          refine st_seq ?_
          refine st_region ?_
          refine st_v (rv_assign rfl) (by decide) ?_
          refine st_nil ?_
          refine st_then ?_
          refine st_block ?_
          refine st_loopA (σ := Nat × Value) [(0, kst _), (2, kst _), (9, kst _), (10, kst _), (11, kst _), (12, kst _), (13, kst _), (15, kst _), (16, kst _), (17, kst _), (18, kst _), (22, fun (t, y) => y), (23, fun (t, y) => vI t)] [fun (t, y) => own y 77 1 8 ((rndR 64 K (schR 64 K (padW s 128 16) (128 * m) (K.length - 16)) (feedR 64 K H (padW s 128 16) m) t).map U64), kst _, kst _, kst _, kst _, kst _, kst _, kst _] (fun (t, y) => t ≤ K.length) (fun (t, y) => K.length - t) (0, _) (by omega) (.cons rfl (.cons rfl (.cons rfl (.cons rfl (.cons rfl (.cons rfl (.cons rfl (.cons rfl (.cons rfl (.cons rfl (.cons rfl (.cons rfl (.cons rfl (.nil _)))))))))))))) (fun _ hM => hM) ?_
          intro ⟨t, y⟩ hI
          try dsimp only at hI
          dsimp only [List.map, kst]
          refine st_seq ?_
          refine st_seq ?_
          refine st_region ?_
          refine st_v (rv_move rfl) (by decide) ?_
          refine st_v (rv_move rfl) (by decide) ?_
          refine st_v (rv_lenR (rd_old hKR hKR.all) Tryd.underlying121 rfl) (by decide) ?_
          refine st_v (rv_lssZ rfl rfl) (by decide) ?_
          refine st_nil ?_
          refine st_then ?_
          refine st_cond rfl (fun hc149 => ?_) (fun hc149 => ?_)
          · -- t149 True
            try simp only [z1, z2, z3, z4, z5, z6, z7, z8, z9, z10, z11, z12, z13, z14] at hc149
            refine st_skip ?_
            refine st_then ?_
            refine st_seq ?_
            refine st_block ?_
            refine st_seq ?_
            refine st_drawStart mixed ?_
            refine st_drawSeg1 (E0 := [(0, _), (2, _), (9, _), (10, _), (11, _), (12, _), (13, _), (15, _), (16, _), (17, _), (18, _), (22, _), (23, _)]) [kpeq _, kpeq _, kpeq _, kpeq _, kpeq _, kpeq _, kpeq _, kpeq _, kpeq _, kpeq _, kpeq _, kpeq _, kpeq _, kpeq _, kpeq _, kpeq _, kpeq _, kpeq _, kpeq _, kpeq _, kpeq _, kpeq _, kpeq _, kpeq _, kpeq _, kpeq _, kpeq _, kpeq _, kpeq _, kpeq _, kpeq _, kpeq _, kpeq _, kpeq _, kpeq _, kpeq _, kpeq _, kpeq _, kpeq _, kpeq _, kpeq _] 0 41 [0, 1, 3, 0, 8, 24, 0, 64, 192, 0, 1016, 2047, 0, 4096, 12288, 0, 32768, 98304, 258048, 0, 0, 1048576, 3145728, 7864320, 0, 16777216, 50331648, 133693440, 268431360, 536870911, 0, 0, 3221225472, 7516192768, 0, 33285996544, 68719476735, 0, 0, 412316860416, 962072674304, 2199023255551, 4398046511103] [0, 2, 9, 10, 11, 12, 13, 15, 16, 17, 18, 22, 23] (by kernel_rfl) (by decide) (by kernel_rfl) (.cons rfl (.cons rfl (.cons rfl (.cons rfl (.cons rfl (.cons rfl (.cons rfl (.cons rfl (.cons rfl (.cons rfl (.cons rfl (.cons rfl (.cons rfl (.nil _)))))))))))))) rfl rfl (hall_cons (hop_mv rfl (by decide) rfl rfl) (hall_cons (hop_val [(0, 152, _)] [] rfl rfl rfl (by decide) rfl (jcons rfl rfl rfl rfl rfl (jnil)) (xnil) (fun _ _ _ _ => does_v (rv_indexR1 (rd_own (i := 0) rfl) Tryd.underlying121 sz77 rfl rfl (j := 7) rfl (by first | omega | (simp [hH] <;> omega))))) (hall_cons (hop_val [(1, 153, _)] [] rfl rfl rfl (by decide) rfl (jcons rfl rfl rfl rfl rfl (jnil)) (xnil) (fun _ _ _ _ => does_v (rv_load_rd (rd_own (i := 0) rfl) tyS77 rfl (get64 (by first | omega | (simp [hH] <;> omega)))))) (hall_cons (hop_mv rfl (by decide) rfl rfl) (hall_cons (hop_val [(3, 155, _)] [] rfl rfl rfl (by decide) rfl (jcons rfl rfl rfl rfl rfl (jnil)) (xnil) (fun _ _ _ _ => does_v (rv_indexR1 (rd_own (i := 0) rfl) Tryd.underlying121 sz77 rfl rfl (j := 4) rfl (by first | omega | (simp [hH] <;> omega))))) (hall_cons (hop_val [(4, 156, _)] [] rfl rfl rfl (by decide) rfl (jcons rfl rfl rfl rfl rfl (jnil)) (xnil) (fun _ _ _ _ => does_v (rv_load_rd (rd_own (i := 0) rfl) tyS77 rfl (get64 (by first | omega | (simp [hH] <;> omega)))))) (hall_cons (hop_mv rfl (by decide) rfl rfl) (hall_cons (hop_val [(6, 158, _)] [] rfl rfl rfl (by decide) rfl (jcons rfl rfl rfl rfl rfl (jnil)) (xnil) (fun _ _ _ _ => does_v (rv_indexR1 (rd_own (i := 3) rfl) Tryd.underlying169 sz47 rfl rfl (j := 1) rfl (by first | omega | (simp [hH] <;> omega))))) (hall_cons (hop_val [(7, 159, _)] [] rfl rfl rfl (by decide) rfl (jcons rfl rfl rfl rfl rfl (jnil)) (xnil) (fun _ _ _ _ => does_v (rv_load_rd (rd_own (i := 3) rfl) tyS47 rfl (by rfl)))) (hall_cons (hop_mv rfl (by decide) rfl rfl) (hall_cons (hop_val [(5, 157, _), (8, 160, _), (9, 161, _)] [] rfl rfl rfl (by decide) rfl (jcons rfl rfl rfl rfl rfl (jcons rfl rfl rfl rfl rfl (jcons rfl rfl rfl rfl rfl (jnil)))) (xnil) (fun _ _ _ _ => does_call0 cal124 rfl (fun w hM => (three64U_calls _ _ 14 18 41 (by decide) (by decide) (by decide) w ((rd_I (q := [_, _, _]) (len := 3) (i := 6) rfl rfl rfl (by omega)) w hM))))) (hall_cons (hop_val [(2, 154, _), (10, 162, _)] [] rfl rfl rfl (by decide) rfl (jcons rfl rfl rfl rfl rfl (jcons rfl rfl rfl rfl rfl (jnil))) (xnil) (fun _ _ _ _ => does_v (rv_add64 rfl rfl))) (hall_cons (hop_mv rfl (by decide) rfl rfl) (hall_cons (hop_val [(12, 164, _)] [] rfl rfl rfl (by decide) rfl (jcons rfl rfl rfl rfl rfl (jnil)) (xnil) (fun _ _ _ _ => does_v (rv_indexR1 (rd_own (i := 0) rfl) Tryd.underlying121 sz77 rfl rfl (j := 4) rfl (by first | omega | (simp [hH] <;> omega))))) (hall_cons (hop_val [(13, 165, _)] [] rfl rfl rfl (by decide) rfl (jcons rfl rfl rfl rfl rfl (jnil)) (xnil) (fun _ _ _ _ => does_v (rv_load_rd (rd_own (i := 0) rfl) tyS77 rfl (get64 (by first | omega | (simp [hH] <;> omega)))))) (hall_cons (hop_mv rfl (by decide) rfl rfl) (hall_cons (hop_val [(15, 167, _)] [] rfl rfl rfl (by decide) rfl (jcons rfl rfl rfl rfl rfl (jnil)) (xnil) (fun _ _ _ _ => does_v (rv_indexR1 (rd_own (i := 0) rfl) Tryd.underlying121 sz77 rfl rfl (j := 5) rfl (by first | omega | (simp [hH] <;> omega))))) (hall_cons (hop_val [(16, 168, _)] [] rfl rfl rfl (by decide) rfl (jcons rfl rfl rfl rfl rfl (jnil)) (xnil) (fun _ _ _ _ => does_v (rv_load_rd (rd_own (i := 0) rfl) tyS77 rfl (get64 (by first | omega | (simp [hH] <;> omega)))))) (hall_cons (hop_val [(14, 166, _), (17, 169, _)] [] rfl rfl rfl (by decide) rfl (jcons rfl rfl rfl rfl rfl (jcons rfl rfl rfl rfl rfl (jnil))) (xnil) (fun _ _ _ _ => does_v (rv_and64 rfl rfl))) (hall_cons (hop_mv rfl (by decide) rfl rfl) (hall_cons (hop_mv rfl (by decide) rfl rfl) (hall_cons (hop_val [(20, 172, _)] [] rfl rfl rfl (by decide) rfl (jcons rfl rfl rfl rfl rfl (jnil)) (xnil) (fun _ _ _ _ => does_v (rv_indexR1 (rd_own (i := 0) rfl) Tryd.underlying121 sz77 rfl rfl (j := 4) rfl (by first | omega | (simp [hH] <;> omega))))) (hall_cons (hop_val [(21, 173, _)] [] rfl rfl rfl (by decide) rfl (jcons rfl rfl rfl rfl rfl (jnil)) (xnil) (fun _ _ _ _ => does_v (rv_load_rd (rd_own (i := 0) rfl) tyS77 rfl (get64 (by first | omega | (simp [hH] <;> omega)))))) (hall_cons (hop_val [(19, 171, _), (22, 174, _)] [] rfl rfl rfl (by decide) rfl (jcons rfl rfl rfl rfl rfl (jcons rfl rfl rfl rfl rfl (jnil))) (xnil) (fun _ _ _ _ => does_v (rv_xor64 rfl rfl))) (hall_cons (hop_mv rfl (by decide) rfl rfl) (hall_cons (hop_val [(24, 176, _)] [] rfl rfl rfl (by decide) rfl (jcons rfl rfl rfl rfl rfl (jnil)) (xnil) (fun _ _ _ _ => does_v (rv_indexR1 (rd_own (i := 0) rfl) Tryd.underlying121 sz77 rfl rfl (j := 6) rfl (by first | omega | (simp [hH] <;> omega))))) (hall_cons (hop_val [(25, 177, _)] [] rfl rfl rfl (by decide) rfl (jcons rfl rfl rfl rfl rfl (jnil)) (xnil) (fun _ _ _ _ => does_v (rv_load_rd (rd_own (i := 0) rfl) tyS77 rfl (get64 (by first | omega | (simp [hH] <;> omega)))))) (hall_cons (hop_val [(23, 175, _), (26, 178, _)] [] rfl rfl rfl (by decide) rfl (jcons rfl rfl rfl rfl rfl (jcons rfl rfl rfl rfl rfl (jnil))) (xnil) (fun _ _ _ _ => does_v (rv_and64 rfl rfl))) (hall_cons (hop_val [(18, 170, _), (27, 179, _)] [] rfl rfl rfl (by decide) rfl (jcons rfl rfl rfl rfl rfl (jcons rfl rfl rfl rfl rfl (jnil))) (xnil) (fun _ _ _ _ => does_v (rv_xor64 rfl rfl))) (hall_cons (hop_val [(11, 163, _), (28, 180, _)] [] rfl rfl rfl (by decide) rfl (jcons rfl rfl rfl rfl rfl (jcons rfl rfl rfl rfl rfl (jnil))) (xnil) (fun _ _ _ _ => does_v (rv_add64 rfl rfl))) (hall_cons (hop_mv rfl (by decide) rfl rfl) (hall_cons (hop_mv rfl (by decide) rfl rfl) (hall_cons (hop_val [(30, 182, _), (31, 183, _)] [] rfl rfl rfl (by decide) rfl (jcons rfl rfl rfl rfl rfl (jcons rfl rfl rfl rfl rfl (jnil))) (xnil) (fun _ _ _ _ => does_v (rv_indexR1 (rd_old hKR hKR.all) Tryd.underlying121 sz77 rfl rfl rfl (by first | omega | (simp [hH] <;> omega))))) (hall_cons (hop_val [(32, 184, _)] [] rfl rfl rfl (by decide) rfl (jcons rfl rfl rfl rfl rfl (jnil)) (xnil) (fun _ _ _ _ => does_v (rv_load_rd (rd_old hKR hKR.all) tyS77 rfl (get64 (by first | omega | (simp [hH] <;> omega)))))) (hall_cons (hop_mv rfl (by decide) rfl rfl) (hall_cons (hop_val [(33, 185, _), (34, 186, _)] [] rfl rfl rfl (by decide) rfl (jcons rfl rfl rfl rfl rfl (jcons rfl rfl rfl rfl rfl (jnil))) (xnil) (fun _ _ _ _ => does_v (rv_shr64 rfl rfl rfl))) (hall_cons (hop_val [(29, 181, _), (35, 187, _)] [] rfl rfl rfl (by decide) rfl (jcons rfl rfl rfl rfl rfl (jcons rfl rfl rfl rfl rfl (jnil))) (xnil) (fun _ _ _ _ => does_v (rv_add64 rfl rfl))) (hall_cons (hop_mv rfl (by decide) rfl rfl) (hall_cons (hop_mv rfl (by decide) rfl rfl) (hall_cons (hop_val [(37, 189, _), (38, 190, _)] [] rfl rfl rfl (by decide) rfl (jcons rfl rfl rfl rfl rfl (jcons rfl rfl rfl rfl rfl (jnil))) (xnil) (fun _ _ _ _ => does_v (rv_indexS Tryd.underlying121 sz77 rfl rfl rfl (by first | omega | (simp [hH] <;> omega)) (by first | exact (Nat.zero_add _).trans (Nat.mul_one _) | exact congrArg _ (Nat.mul_one _) | rfl)))) (hall_cons (hop_val [(39, 191, _)] [] rfl rfl rfl (by decide) rfl (jcons rfl rfl rfl rfl rfl (jnil)) (xnil) (fun _ _ _ _ => does_v (rv_load_blk tyS77 rfl (i := 1) rfl (cell64 (by first | omega | (simp [hH] <;> omega)))))) (hall_nil)))))))))))))))))))))))))))))))))))))))))) (draw_end1 [(36, 188, _), (40, 192, _)] (jcons rfl rfl rfl rfl rfl (jcons rfl rfl rfl rfl rfl (jnil))) ?_)
            refine st_drawTail (N := 41) [0, 1, 3, 0, 8, 24, 0, 64, 192, 0, 1016, 2047, 0, 4096, 12288, 0, 32768, 98304, 258048, 0, 0, 1048576, 3145728, 7864320, 0, 16777216, 50331648, 133693440, 268431360, 536870911, 0, 0, 3221225472, 7516192768, 0, 33285996544, 68719476735, 0, 0, 412316860416, 962072674304, 2199023255551, 4398046511103] (by kernel_rfl) (by kernel_rfl) ?_
            refine st_v (rv_add64 rfl rfl) (by decide) ?_
            refine st_v (rv_assign rfl) (by decide) ?_
            refine st_nil ?_
            refine st_then ?_
            refine st_seq ?_
            refine st_drawStart mixed ?_
            refine st_drawSeg1 (E0 := [(0, _), (2, _), (9, _), (10, _), (11, _), (12, _), (13, _), (15, _), (16, _), (17, _), (18, _), (22, _), (23, _), (24, _)]) [kpeq _, kpeq _, kpeq _, kpeq _, kpeq _, kpeq _, kpeq _, kpeq _, kpeq _, kpeq _, kpeq _, kpeq _, kpeq _, kpeq _, kpeq _, kpeq _, kpeq _, kpeq _, kpeq _, kpeq _, kpeq _, kpeq _, kpeq _, kpeq _, kpeq _, kpeq _, kpeq _, kpeq _, kpeq _, kpeq _, kpeq _] 0 31 [0, 1, 3, 0, 8, 24, 0, 127, 0, 256, 768, 0, 2048, 6144, 16128, 0, 32768, 98304, 0, 262144, 786432, 2064384, 4194048, 0, 8388608, 25165824, 0, 67108864, 201326592, 528482304, 1073741568, 2147483647, 4294967295] [0, 2, 9, 10, 11, 12, 13, 15, 16, 17, 18, 22, 23, 24] (by kernel_rfl) (by decide) (by kernel_rfl) (.cons rfl (.cons rfl (.cons rfl (.cons rfl (.cons rfl (.cons rfl (.cons rfl (.cons rfl (.cons rfl (.cons rfl (.cons rfl (.cons rfl (.cons rfl (.cons rfl (.nil _))))))))))))))) rfl rfl (hall_cons (hop_mv rfl (by decide) rfl rfl) (hall_cons (hop_val [(0, 194, _)] [] rfl rfl rfl (by decide) rfl (jcons rfl rfl rfl rfl rfl (jnil)) (xnil) (fun _ _ _ _ => does_v (rv_indexR1 (rd_own (i := 0) rfl) Tryd.underlying121 sz77 rfl rfl (j := 0) rfl (by first | omega | (simp [hH] <;> omega))))) (hall_cons (hop_val [(1, 195, _)] [] rfl rfl rfl (by decide) rfl (jcons rfl rfl rfl rfl rfl (jnil)) (xnil) (fun _ _ _ _ => does_v (rv_load_rd (rd_own (i := 0) rfl) tyS77 rfl (get64 (by first | omega | (simp [hH] <;> omega)))))) (hall_cons (hop_mv rfl (by decide) rfl rfl) (hall_cons (hop_val [(3, 197, _)] [] rfl rfl rfl (by decide) rfl (jcons rfl rfl rfl rfl rfl (jnil)) (xnil) (fun _ _ _ _ => does_v (rv_indexR1 (rd_own (i := 3) rfl) Tryd.underlying169 sz47 rfl rfl (j := 0) rfl (by first | omega | (simp [hH] <;> omega))))) (hall_cons (hop_val [(4, 198, _)] [] rfl rfl rfl (by decide) rfl (jcons rfl rfl rfl rfl rfl (jnil)) (xnil) (fun _ _ _ _ => does_v (rv_load_rd (rd_own (i := 3) rfl) tyS47 rfl (by rfl)))) (hall_cons (hop_mv rfl (by decide) rfl rfl) (hall_cons (hop_val [(2, 196, _), (5, 199, _), (6, 200, _)] [] rfl rfl rfl (by decide) rfl (jcons rfl rfl rfl rfl rfl (jcons rfl rfl rfl rfl rfl (jcons rfl rfl rfl rfl rfl (jnil)))) (xnil) (fun _ _ _ _ => does_call0 cal124 rfl (fun w hM => (three64U_calls _ _ 28 34 39 (by decide) (by decide) (by decide) w ((rd_I (q := [_, _, _]) (len := 3) (i := 7) rfl rfl rfl (by omega)) w hM))))) (hall_cons (hop_mv rfl (by decide) rfl rfl) (hall_cons (hop_val [(8, 202, _)] [] rfl rfl rfl (by decide) rfl (jcons rfl rfl rfl rfl rfl (jnil)) (xnil) (fun _ _ _ _ => does_v (rv_indexR1 (rd_own (i := 0) rfl) Tryd.underlying121 sz77 rfl rfl (j := 0) rfl (by first | omega | (simp [hH] <;> omega))))) (hall_cons (hop_val [(9, 203, _)] [] rfl rfl rfl (by decide) rfl (jcons rfl rfl rfl rfl rfl (jnil)) (xnil) (fun _ _ _ _ => does_v (rv_load_rd (rd_own (i := 0) rfl) tyS77 rfl (get64 (by first | omega | (simp [hH] <;> omega)))))) (hall_cons (hop_mv rfl (by decide) rfl rfl) (hall_cons (hop_val [(11, 205, _)] [] rfl rfl rfl (by decide) rfl (jcons rfl rfl rfl rfl rfl (jnil)) (xnil) (fun _ _ _ _ => does_v (rv_indexR1 (rd_own (i := 0) rfl) Tryd.underlying121 sz77 rfl rfl (j := 1) rfl (by first | omega | (simp [hH] <;> omega))))) (hall_cons (hop_val [(12, 206, _)] [] rfl rfl rfl (by decide) rfl (jcons rfl rfl rfl rfl rfl (jnil)) (xnil) (fun _ _ _ _ => does_v (rv_load_rd (rd_own (i := 0) rfl) tyS77 rfl (get64 (by first | omega | (simp [hH] <;> omega)))))) (hall_cons (hop_val [(10, 204, _), (13, 207, _)] [] rfl rfl rfl (by decide) rfl (jcons rfl rfl rfl rfl rfl (jcons rfl rfl rfl rfl rfl (jnil))) (xnil) (fun _ _ _ _ => does_v (rv_and64 rfl rfl))) (hall_cons (hop_mv rfl (by decide) rfl rfl) (hall_cons (hop_val [(15, 209, _)] [] rfl rfl rfl (by decide) rfl (jcons rfl rfl rfl rfl rfl (jnil)) (xnil) (fun _ _ _ _ => does_v (rv_indexR1 (rd_own (i := 0) rfl) Tryd.underlying121 sz77 rfl rfl (j := 0) rfl (by first | omega | (simp [hH] <;> omega))))) (hall_cons (hop_val [(16, 210, _)] [] rfl rfl rfl (by decide) rfl (jcons rfl rfl rfl rfl rfl (jnil)) (xnil) (fun _ _ _ _ => does_v (rv_load_rd (rd_own (i := 0) rfl) tyS77 rfl (get64 (by first | omega | (simp [hH] <;> omega)))))) (hall_cons (hop_mv rfl (by decide) rfl rfl) (hall_cons (hop_val [(18, 212, _)] [] rfl rfl rfl (by decide) rfl (jcons rfl rfl rfl rfl rfl (jnil)) (xnil) (fun _ _ _ _ => does_v (rv_indexR1 (rd_own (i := 0) rfl) Tryd.underlying121 sz77 rfl rfl (j := 2) rfl (by first | omega | (simp [hH] <;> omega))))) (hall_cons (hop_val [(19, 213, _)] [] rfl rfl rfl (by decide) rfl (jcons rfl rfl rfl rfl rfl (jnil)) (xnil) (fun _ _ _ _ => does_v (rv_load_rd (rd_own (i := 0) rfl) tyS77 rfl (get64 (by first | omega | (simp [hH] <;> omega)))))) (hall_cons (hop_val [(17, 211, _), (20, 214, _)] [] rfl rfl rfl (by decide) rfl (jcons rfl rfl rfl rfl rfl (jcons rfl rfl rfl rfl rfl (jnil))) (xnil) (fun _ _ _ _ => does_v (rv_and64 rfl rfl))) (hall_cons (hop_val [(14, 208, _), (21, 215, _)] [] rfl rfl rfl (by decide) rfl (jcons rfl rfl rfl rfl rfl (jcons rfl rfl rfl rfl rfl (jnil))) (xnil) (fun _ _ _ _ => does_v (rv_xor64 rfl rfl))) (hall_cons (hop_mv rfl (by decide) rfl rfl) (hall_cons (hop_val [(23, 217, _)] [] rfl rfl rfl (by decide) rfl (jcons rfl rfl rfl rfl rfl (jnil)) (xnil) (fun _ _ _ _ => does_v (rv_indexR1 (rd_own (i := 0) rfl) Tryd.underlying121 sz77 rfl rfl (j := 1) rfl (by first | omega | (simp [hH] <;> omega))))) (hall_cons (hop_val [(24, 218, _)] [] rfl rfl rfl (by decide) rfl (jcons rfl rfl rfl rfl rfl (jnil)) (xnil) (fun _ _ _ _ => does_v (rv_load_rd (rd_own (i := 0) rfl) tyS77 rfl (get64 (by first | omega | (simp [hH] <;> omega)))))) (hall_cons (hop_mv rfl (by decide) rfl rfl) (hall_cons (hop_val [(26, 220, _)] [] rfl rfl rfl (by decide) rfl (jcons rfl rfl rfl rfl rfl (jnil)) (xnil) (fun _ _ _ _ => does_v (rv_indexR1 (rd_own (i := 0) rfl) Tryd.underlying121 sz77 rfl rfl (j := 2) rfl (by first | omega | (simp [hH] <;> omega))))) (hall_cons (hop_val [(27, 221, _)] [] rfl rfl rfl (by decide) rfl (jcons rfl rfl rfl rfl rfl (jnil)) (xnil) (fun _ _ _ _ => does_v (rv_load_rd (rd_own (i := 0) rfl) tyS77 rfl (get64 (by first | omega | (simp [hH] <;> omega)))))) (hall_cons (hop_val [(25, 219, _), (28, 222, _)] [] rfl rfl rfl (by decide) rfl (jcons rfl rfl rfl rfl rfl (jcons rfl rfl rfl rfl rfl (jnil))) (xnil) (fun _ _ _ _ => does_v (rv_and64 rfl rfl))) (hall_cons (hop_val [(22, 216, _), (29, 223, _)] [] rfl rfl rfl (by decide) rfl (jcons rfl rfl rfl rfl rfl (jcons rfl rfl rfl rfl rfl (jnil))) (xnil) (fun _ _ _ _ => does_v (rv_xor64 rfl rfl))) (hall_nil)))))))))))))))))))))))))))))))) (draw_end1 [(7, 201, _), (30, 224, _)] (jcons rfl rfl rfl rfl rfl (jcons rfl rfl rfl rfl rfl (jnil))) ?_)
            refine st_drawTail (N := 31) [0, 1, 3, 0, 8, 24, 0, 127, 0, 256, 768, 0, 2048, 6144, 16128, 0, 32768, 98304, 0, 262144, 786432, 2064384, 4194048, 0, 8388608, 25165824, 0, 67108864, 201326592, 528482304, 1073741568, 2147483647, 4294967295] (by kernel_rfl) (by kernel_rfl) ?_
            refine st_v (rv_add64 rfl rfl) (by decide) ?_
            refine st_v (rv_assign rfl) (by decide) ?_
            refine st_nil ?_
            refine st_then ?_
            refine st_drawStart mixed ?_
            refine st_drawSeg1 (E0 := [(0, _), (2, _), (9, _), (10, _), (11, _), (12, _), (13, _), (15, _), (16, _), (17, _), (18, _), (22, _), (23, _), (24, _), (25, _)]) [kpeq _, kpeq _, kpeq _, kpeq _, kpeq _, kpeq _, kpeq _, kpeq _, kpeq _, kpeq _, kpeq _, kpeq _, kpeq _, kpeq _, kpeq _, kpeq _, kpeq _, kpeq _, kpeq _, kpeq _, kpeq _, kpeq _, kpeq _, kpeq _, kpeq _, kpeq _, kpeq _, kpeq _, kpeq _, kpeq _] 0 30 [0, 0, 3, 0, 15, 0, 32, 96, 0, 256, 768, 0, 2048, 6144, 0, 16384, 49152, 0, 245760, 0, 1032192, 0, 2097152, 6291456, 0, 16777216, 50331648, 0, 134217728, 402653184, 1073741823, 2147483647] [0, 2, 9, 10, 11, 12, 13, 15, 16, 17, 18, 22, 23, 24, 25] (by kernel_rfl) (by decide) (by kernel_rfl) (.cons rfl (.cons rfl (.cons rfl (.cons rfl (.cons rfl (.cons rfl (.cons rfl (.cons rfl (.cons rfl (.cons rfl (.cons rfl (.cons rfl (.cons rfl (.cons rfl (.cons rfl (.nil _)))))))))))))))) rfl rfl (hall_cons (hop_mv rfl (by decide) rfl rfl) (hall_cons (hop_mv rfl (by decide) rfl rfl) (hall_cons (hop_val [(0, 226, _), (1, 227, _)] [] rfl rfl rfl (by decide) rfl (jcons rfl rfl rfl rfl rfl (jcons rfl rfl rfl rfl rfl (jnil))) (xnil) (fun _ _ _ _ => does_v (rv_add64 rfl rfl))) (hall_cons (hop_mv rfl (by decide) rfl rfl) (hall_cons (hop_val [(2, 228, _), (3, 229, _)] [] rfl rfl rfl (by decide) rfl (jcons rfl rfl rfl rfl rfl (jcons rfl rfl rfl rfl rfl (jnil))) (xnil) (fun _ _ _ _ => does_v (rv_and64 rfl rfl))) (hall_cons (hop_mv rfl (by decide) rfl rfl) (hall_cons (hop_val [(5, 231, _)] [] rfl rfl rfl (by decide) rfl (jcons rfl rfl rfl rfl rfl (jnil)) (xnil) (fun _ _ _ _ => does_v (rv_indexR1 (rd_own (i := 0) rfl) Tryd.underlying121 sz77 rfl rfl (j := 0) rfl (by first | omega | (simp [hH] <;> omega))))) (hall_cons (hop_val [(6, 232, _)] [] rfl rfl rfl (by decide) rfl (jcons rfl rfl rfl rfl rfl (jnil)) (xnil) (fun _ _ _ _ => does_v (rv_load_rd (rd_own (i := 0) rfl) tyS77 rfl (get64 (by first | omega | (simp [hH] <;> omega)))))) (hall_cons (hop_mv rfl (by decide) rfl rfl) (hall_cons (hop_val [(8, 234, _)] [] rfl rfl rfl (by decide) rfl (jcons rfl rfl rfl rfl rfl (jnil)) (xnil) (fun _ _ _ _ => does_v (rv_indexR1 (rd_own (i := 0) rfl) Tryd.underlying121 sz77 rfl rfl (j := 1) rfl (by first | omega | (simp [hH] <;> omega))))) (hall_cons (hop_val [(9, 235, _)] [] rfl rfl rfl (by decide) rfl (jcons rfl rfl rfl rfl rfl (jnil)) (xnil) (fun _ _ _ _ => does_v (rv_load_rd (rd_own (i := 0) rfl) tyS77 rfl (get64 (by first | omega | (simp [hH] <;> omega)))))) (hall_cons (hop_mv rfl (by decide) rfl rfl) (hall_cons (hop_val [(11, 237, _)] [] rfl rfl rfl (by decide) rfl (jcons rfl rfl rfl rfl rfl (jnil)) (xnil) (fun _ _ _ _ => does_v (rv_indexR1 (rd_own (i := 0) rfl) Tryd.underlying121 sz77 rfl rfl (j := 2) rfl (by first | omega | (simp [hH] <;> omega))))) (hall_cons (hop_val [(12, 238, _)] [] rfl rfl rfl (by decide) rfl (jcons rfl rfl rfl rfl rfl (jnil)) (xnil) (fun _ _ _ _ => does_v (rv_load_rd (rd_own (i := 0) rfl) tyS77 rfl (get64 (by first | omega | (simp [hH] <;> omega)))))) (hall_cons (hop_mv rfl (by decide) rfl rfl) (hall_cons (hop_val [(14, 240, _)] [] rfl rfl rfl (by decide) rfl (jcons rfl rfl rfl rfl rfl (jnil)) (xnil) (fun _ _ _ _ => does_v (rv_indexR1 (rd_own (i := 0) rfl) Tryd.underlying121 sz77 rfl rfl (j := 3) rfl (by first | omega | (simp [hH] <;> omega))))) (hall_cons (hop_val [(15, 241, _)] [] rfl rfl rfl (by decide) rfl (jcons rfl rfl rfl rfl rfl (jnil)) (xnil) (fun _ _ _ _ => does_v (rv_load_rd (rd_own (i := 0) rfl) tyS77 rfl (get64 (by first | omega | (simp [hH] <;> omega)))))) (hall_cons (hop_mv rfl (by decide) rfl rfl) (hall_cons (hop_val [(16, 242, _), (17, 243, _)] [] rfl rfl rfl (by decide) rfl (jcons rfl rfl rfl rfl rfl (jcons rfl rfl rfl rfl rfl (jnil))) (xnil) (fun _ _ _ _ => does_v (rv_add64 rfl rfl))) (hall_cons (hop_mv rfl (by decide) rfl rfl) (hall_cons (hop_val [(18, 244, _), (19, 245, _)] [] rfl rfl rfl (by decide) rfl (jcons rfl rfl rfl rfl rfl (jcons rfl rfl rfl rfl rfl (jnil))) (xnil) (fun _ _ _ _ => does_v (rv_and64 rfl rfl))) (hall_cons (hop_mv rfl (by decide) rfl rfl) (hall_cons (hop_val [(21, 247, _)] [] rfl rfl rfl (by decide) rfl (jcons rfl rfl rfl rfl rfl (jnil)) (xnil) (fun _ _ _ _ => does_v (rv_indexR1 (rd_own (i := 0) rfl) Tryd.underlying121 sz77 rfl rfl (j := 4) rfl (by first | omega | (simp [hH] <;> omega))))) (hall_cons (hop_val [(22, 248, _)] [] rfl rfl rfl (by decide) rfl (jcons rfl rfl rfl rfl rfl (jnil)) (xnil) (fun _ _ _ _ => does_v (rv_load_rd (rd_own (i := 0) rfl) tyS77 rfl (get64 (by first | omega | (simp [hH] <;> omega)))))) (hall_cons (hop_mv rfl (by decide) rfl rfl) (hall_cons (hop_val [(24, 250, _)] [] rfl rfl rfl (by decide) rfl (jcons rfl rfl rfl rfl rfl (jnil)) (xnil) (fun _ _ _ _ => does_v (rv_indexR1 (rd_own (i := 0) rfl) Tryd.underlying121 sz77 rfl rfl (j := 5) rfl (by first | omega | (simp [hH] <;> omega))))) (hall_cons (hop_val [(25, 251, _)] [] rfl rfl rfl (by decide) rfl (jcons rfl rfl rfl rfl rfl (jnil)) (xnil) (fun _ _ _ _ => does_v (rv_load_rd (rd_own (i := 0) rfl) tyS77 rfl (get64 (by first | omega | (simp [hH] <;> omega)))))) (hall_cons (hop_mv rfl (by decide) rfl rfl) (hall_cons (hop_val [(27, 253, _)] [] rfl rfl rfl (by decide) rfl (jcons rfl rfl rfl rfl rfl (jnil)) (xnil) (fun _ _ _ _ => does_v (rv_indexR1 (rd_own (i := 0) rfl) Tryd.underlying121 sz77 rfl rfl (j := 6) rfl (by first | omega | (simp [hH] <;> omega))))) (hall_cons (hop_val [(28, 254, _)] [] rfl rfl rfl (by decide) rfl (jcons rfl rfl rfl rfl rfl (jnil)) (xnil) (fun _ _ _ _ => does_v (rv_load_rd (rd_own (i := 0) rfl) tyS77 rfl (get64 (by first | omega | (simp [hH] <;> omega)))))) (hall_nil))))))))))))))))))))))))))))))) (draw_end1 [(4, 230, _), (7, 233, _), (10, 236, _), (13, 239, _), (20, 246, _), (23, 249, _), (26, 252, _), (29, 255, _)] (jcons rfl rfl rfl rfl rfl (jcons rfl rfl rfl rfl rfl (jcons rfl rfl rfl rfl rfl (jcons rfl rfl rfl rfl rfl (jcons rfl rfl rfl rfl rfl (jcons rfl rfl rfl rfl rfl (jcons rfl rfl rfl rfl rfl (jcons rfl rfl rfl rfl rfl (jnil))))))))) ?_)
            refine st_drawTail (N := 30) [0, 0, 3, 0, 15, 0, 32, 96, 0, 256, 768, 0, 2048, 6144, 0, 16384, 49152, 0, 245760, 0, 1032192, 0, 2097152, 6291456, 0, 16777216, 50331648, 0, 134217728, 402653184, 1073741823, 2147483647] (by kernel_rfl) (by kernel_rfl) ?_
            refine st_buildO Tryd.underlying121 tyZ77 rfl rfl (by decide) (cs := ((stpR 64 (rndR 64 K (schR 64 K (padW s 128 16) (128 * m) (K.length - 16)) (feedR 64 K H (padW s 128 16) m) t) (K.getD t 0#64) ((schR 64 K (padW s 128 16) (128 * m) (K.length - 16)).getD t 0#64)).map U64).toArray) rfl rfl (by decide) (fun v9 => ?_)
            refine st_v (rv_assign rfl) (by decide) ?_
            refine st_nil ?_
            refine st_in_normal ?_
            refine st_then ?_
            refine st_region ?_
            refine st_v (rv_move rfl) (by decide) ?_
            first | refine st_v (rv_addN (b := 1) rfl rfl (by first | omega | (simp; done) | (simp; omega))) (by decide) ?_ | refine st_v (rv_addZ rfl rfl (by first | omega | (simp; done) | (simp; omega))) (by decide) ?_
            refine st_v (rv_assign rfl) (by decide) ?_
            refine st_nil ?_
            refine st_then ?_
            exact st_again (t + 1, _) (by omega) (by omega) (.cons rfl (.cons rfl (.cons rfl (.cons rfl (.cons rfl (.cons rfl (.cons rfl (.cons rfl (.cons rfl (.cons rfl (.cons rfl (.cons rfl (.cons rfl (.nil _)))))))))))))) (fun _ hM => hM.sublist (List.Sublist.cons_cons _ (List.Sublist.cons _ (List.Sublist.cons_cons _ (List.Sublist.cons_cons _ (List.Sublist.cons_cons _ (List.Sublist.cons_cons _ (List.Sublist.cons_cons _ (List.Sublist.cons_cons _ (List.Sublist.cons_cons _ (List.Sublist.slnil)))))))))))
          · -- t149 False
            try simp only [z1, z2, z3, z4, z5, z6, z7, z8, z9, z10, z11, z12, z13, z14] at hc149
            obtain rfl : t = K.length := by omega
            refine st_exit ?_
            refine st_then_exit ?_
            refine st_then_exit ?_
            refine st_in_exit ?_
            refine st_then ?_
            refine st_seq ?_
            refine st_region ?_
            refine st_v (rv_assign rfl) (by decide) ?_
            refine st_nil ?_
            refine st_then ?_
            refine st_block ?_
            refine st_loopA (σ := Nat) [(0, kst _), (2, kst _), (9, kst _), (10, kst _), (11, kst _), (12, kst _), (13, kst _), (15, kst _), (16, kst _), (17, kst _), (22, kst _), (26, fun i => vI i)] [kst _, kst _, fun i => blk b6 (c64 (addR 64 (rndR 64 K (schR 64 K (padW s 128 16) (128 * m) (K.length - 16)) (feedR 64 K H (padW s 128 16) m) K.length) (feedR 64 K H (padW s 128 16) m) i)) 77, kst _, kst _, kst _, kst _, kst _] (fun i => i ≤ 8) (fun i => 8 - i) 0 (by omega) (.cons rfl (.cons rfl (.cons rfl (.cons rfl (.cons rfl (.cons rfl (.cons rfl (.cons rfl (.cons rfl (.cons rfl (.cons rfl (.cons rfl (.nil _))))))))))))) (fun _ hM => hM) ?_
            intro i hI
            try dsimp only at hI
            dsimp only [List.map, kst]
            refine st_seq ?_
            refine st_seq ?_
            refine st_region ?_
            refine st_v (rv_move rfl) (by decide) ?_
            refine st_v (rv_lssZ rfl rfl) (by decide) ?_
            refine st_nil ?_
            refine st_then ?_
            refine st_cond rfl (fun hc258 => ?_) (fun hc258 => ?_)
            · -- t258 True
              try simp only [z1, z2, z3, z4, z5, z6, z7, z8, z9, z10, z11, z12, z13, z14] at hc258
              refine st_skip ?_
              refine st_then ?_
              refine st_seq ?_
              refine st_block ?_
              refine st_drawStart mixed ?_
              refine st_drawSeg1 (E0 := [(0, _), (2, _), (9, _), (10, _), (11, _), (12, _), (13, _), (15, _), (16, _), (17, _), (22, _), (26, _)]) [kpeq _, kpeq _, kpeq _, kpeq _, kpeq _, kpeq _, kpeq _, kpeq _, kpeq _, kpeq _, kpeq _, kpeq _, kpeq _] 0 13 [0, 0, 0, 0, 12, 28, 0, 0, 192, 448, 1020, 0, 4092, 8191, 16383] [0, 2, 9, 10, 11, 12, 13, 15, 16, 17, 22, 26] (by kernel_rfl) (by decide) (by kernel_rfl) (.cons rfl (.cons rfl (.cons rfl (.cons rfl (.cons rfl (.cons rfl (.cons rfl (.cons rfl (.cons rfl (.cons rfl (.cons rfl (.cons rfl (.nil _))))))))))))) rfl rfl (hall_cons (hop_mv rfl (by decide) rfl rfl) (hall_cons (hop_mv rfl (by decide) rfl rfl) (hall_cons (hop_mv rfl (by decide) rfl rfl) (hall_cons (hop_mv rfl (by decide) rfl rfl) (hall_cons (hop_val [(2, 263, _), (3, 264, _)] [] rfl rfl rfl (by decide) rfl (jcons rfl rfl rfl rfl rfl (jcons rfl rfl rfl rfl rfl (jnil))) (xnil) (fun _ _ _ _ => does_v (rv_indexS Tryd.underlying121 sz77 rfl rfl rfl (by first | omega | (simp [hH] <;> omega)) (by first | exact (Nat.zero_add _).trans (Nat.mul_one _) | exact congrArg _ (Nat.mul_one _) | rfl)))) (hall_cons (hop_val [(4, 265, _)] [] rfl rfl rfl (by decide) rfl (jcons rfl rfl rfl rfl rfl (jnil)) (xnil) (fun _ _ _ _ => does_v (rv_load_blk tyS77 rfl (i := 2) rfl (cell64 (by first | omega | (simp [hH] <;> omega)))))) (hall_cons (hop_mv rfl (by decide) rfl rfl) (hall_cons (hop_mv rfl (by decide) rfl rfl) (hall_cons (hop_val [(6, 267, _), (7, 268, _)] [] rfl rfl rfl (by decide) rfl (jcons rfl rfl rfl rfl rfl (jcons rfl rfl rfl rfl rfl (jnil))) (xnil) (fun _ _ _ _ => does_v (rv_indexR1 (rd_own (i := 0) rfl) Tryd.underlying121 sz77 rfl rfl rfl (by first | omega | (simp [hH] <;> omega))))) (hall_cons (hop_val [(8, 269, _)] [] rfl rfl rfl (by decide) rfl (jcons rfl rfl rfl rfl rfl (jnil)) (xnil) (fun _ _ _ _ => does_v (rv_load_rd (rd_own (i := 0) rfl) tyS77 rfl (get64 (by first | omega | (simp [hH] <;> omega)))))) (hall_cons (hop_val [(5, 266, _), (9, 270, _)] [] rfl rfl rfl (by decide) rfl (jcons rfl rfl rfl rfl rfl (jcons rfl rfl rfl rfl rfl (jnil))) (xnil) (fun _ _ _ _ => does_v (rv_add64 rfl rfl))) (hall_cons (hop_mv rfl (by decide) rfl rfl) (hall_cons (hop_val [(10, 271, _), (11, 272, _)] [] rfl rfl rfl (by decide) rfl (jcons rfl rfl rfl rfl rfl (jcons rfl rfl rfl rfl rfl (jnil))) (xnil) (fun _ _ _ _ => does_v (rv_and64 rfl rfl))) (hall_nil)))))))))))))) (draw_end1 [(0, 261, _), (1, 262, _), (12, 273, _)] (jcons rfl rfl rfl rfl rfl (jcons rfl rfl rfl rfl rfl (jcons rfl rfl rfl rfl rfl (jnil)))) ?_)
              refine st_drawTail (N := 13) [0, 0, 0, 0, 12, 28, 0, 0, 192, 448, 1020, 0, 4092, 8191, 16383] (by kernel_rfl) (by kernel_rfl) ?_
              refine st_v (rv_indexS Tryd.underlying121 sz77 rfl rfl rfl (by first | omega | (simp [hH] <;> omega)) (by first | exact (Nat.zero_add _).trans (Nat.mul_one _) | exact congrArg _ (Nat.mul_one _) | rfl)) (by decide) ?_
              refine st_store64 rfl rfl (i := 2) rfl sz77 (by first | omega | (simp [hH] <;> omega)) (l' := [_, _, _, _, _, _, _, _]) rfl ?_
              refine st_nil ?_
              refine st_in_normal ?_
              refine st_then ?_
              refine st_region ?_
              refine st_v (rv_move rfl) (by decide) ?_
              first | refine st_v (rv_addN (b := 1) rfl rfl (by first | omega | (simp; done) | (simp; omega))) (by decide) ?_ | refine st_v (rv_addZ rfl rfl (by first | omega | (simp; done) | (simp; omega))) (by decide) ?_
              refine st_v (rv_assign rfl) (by decide) ?_
              refine st_nil ?_
              refine st_then ?_
              exact st_again (i + 1) (by omega) (by omega) (.cons rfl (.cons rfl (.cons rfl (.cons rfl (.cons rfl (.cons rfl (.cons rfl (.cons rfl (.cons rfl (.cons rfl (.cons rfl (.cons rfl (.nil _))))))))))))) (fun _ hM => hM)
            · -- t258 False
              try simp only [z1, z2, z3, z4, z5, z6, z7, z8, z9, z10, z11, z12, z13, z14] at hc258
              obtain rfl : i = 8 := by omega
              refine st_exit ?_
              refine st_then_exit ?_
              refine st_then_exit ?_
              refine st_in_exit ?_
              refine st_in_normal ?_
              refine st_then ?_
              refine st_region ?_
              refine st_v (rv_move rfl) (by decide) ?_
              refine st_v (rv_move rfl) (by decide) ?_
              first | refine st_v (rv_mulN (a := 16) rfl rfl (by first | omega | (simp; done) | (simp; omega))) (by decide) ?_ | refine st_v (rv_mulZ rfl rfl (by first | omega | (simp; done) | (simp; omega))) (by decide) ?_
              first | refine st_v (rv_addN rfl rfl (by first | omega | (simp; done) | (simp; omega))) (by decide) ?_ | refine st_v (rv_addZ rfl rfl (by first | omega | (simp; done) | (simp; omega))) (by decide) ?_
              refine st_v (rv_assign rfl) (by decide) ?_
              refine st_nil ?_
              refine st_then ?_
              exact st_again (m + 1) (by omega) (by omega) (.cons rfl (.cons rfl (.cons rfl (.cons rfl (.cons rfl (.cons rfl (.cons rfl (.cons rfl (.cons rfl (SubE.cons (congrArg some (congrArg (fun z : Nat => vI z) (by omega))) (.nil _))))))))))) (fun _ hM => hM.sublist (List.Sublist.cons _ (List.Sublist.cons _ (List.Sublist.cons_cons _ (List.Sublist.cons_cons _ (List.Sublist.cons_cons _ (List.Sublist.cons_cons _ (List.Sublist.cons_cons _ (List.Sublist.cons_cons _ (List.Sublist.slnil))))))))))
    · -- t63 False
      try simp only [z1, z2, z3, z4, z5, z6, z7, z8, z9, z10, z11, z12, z13, z14] at hc63
      obtain rfl : M = m := by omega
      refine st_exit ?_
      refine st_then_exit ?_
      refine st_then_exit ?_
      refine st_in_exit ?_
      refine st_then ?_
      refine st_seq ?_
      refine st_region ?_
      refine st_v (rv_assign rfl) (by decide) ?_
      refine st_nil ?_
      refine st_then ?_
      refine st_seq ?_
      refine st_seq ?_
      refine st_region ?_
      refine st_v (rv_assign rfl) (by decide) ?_
      refine st_nil ?_
      refine st_then ?_
      refine st_block ?_
      refine st_loopA (σ := Nat) [(0, kst _), (13, kst _), (16, kst _), (27, fun i => vS (outR 64 (feedR 64 K H (padW s 128 16) M) i)), (28, fun i => vI i)] [kst _, kst _, kst _, kst _, kst _, kst _] (fun i => i ≤ 8) (fun i => 8 - i) 0 (by omega) (.cons rfl (.cons rfl (.cons rfl (.cons rfl (.cons rfl (.nil _)))))) (fun _ hM => hM) ?_
      intro i hI
      try dsimp only at hI
      dsimp only [List.map, kst]
      refine st_seq ?_
      refine st_seq ?_
      refine st_region ?_
      refine st_v (rv_move rfl) (by decide) ?_
      refine st_v (rv_lssZ rfl rfl) (by decide) ?_
      refine st_nil ?_
      refine st_then ?_
      refine st_cond rfl (fun hc276 => ?_) (fun hc276 => ?_)
      · -- t276 True
        try simp only [z1, z2, z3, z4, z5, z6, z7, z8, z9, z10, z11, z12, z13, z14] at hc276
        refine st_skip ?_
        refine st_then ?_
        refine st_seq ?_
        refine st_block ?_
        refine st_region ?_
        refine st_v (rv_move rfl) (by decide) ?_
        refine st_v (rv_move rfl) (by decide) ?_
        refine st_v (rv_move rfl) (by decide) ?_
        refine st_v (rv_indexS Tryd.underlying121 sz77 rfl rfl rfl (by first | omega | (simp [hH] <;> omega)) (by first | exact (Nat.zero_add _).trans (Nat.mul_one _) | exact congrArg _ (Nat.mul_one _) | rfl)) (by decide) ?_
        refine st_v (rv_load_blk tyS77 rfl (i := 0) rfl (cell64 (by first | omega | (simp [hH] <;> omega)))) (by decide) ?_
        refine st_v (rv_move rfl) (by decide) ?_
        refine st_call0 cal125 rfl (fun w hM => (number_calls _ 8 (by decide) w)) (by decide) ?_
        refine st_v (rv_concat rfl rfl (by first | omega | (simp [hH] <;> omega))) (by decide) ?_
        refine st_v (rv_assign rfl) (by decide) ?_
        refine st_nil ?_
        refine st_in_normal ?_
        refine st_then ?_
        refine st_region ?_
        refine st_v (rv_move rfl) (by decide) ?_
        first | refine st_v (rv_addN (b := 1) rfl rfl (by first | omega | (simp; done) | (simp; omega))) (by decide) ?_ | refine st_v (rv_addZ rfl rfl (by first | omega | (simp; done) | (simp; omega))) (by decide) ?_
        refine st_v (rv_assign rfl) (by decide) ?_
        refine st_nil ?_
        refine st_then ?_
        exact st_again (i + 1) (by omega) (by omega) (.cons rfl (.cons rfl (.cons rfl (.cons rfl (.cons rfl (.nil _)))))) (fun _ hM => hM)
      · -- t276 False
        try simp only [z1, z2, z3, z4, z5, z6, z7, z8, z9, z10, z11, z12, z13, z14] at hc276
        obtain rfl : i = 8 := by omega
        refine st_exit ?_
        refine st_then_exit ?_
        refine st_then_exit ?_
        refine st_in_exit ?_
        refine st_then ?_
        refine st_seq ?_
        refine st_region ?_
        refine st_v (rv_move rfl) (by decide) ?_
        refine st_v (rv_move rfl) (by decide) ?_
        refine st_call0 cal36 rfl (fun w hM => (rSize2 w)) (by decide) ?_
        refine st_v (rv_sliceB Tryd.underlying9 rfl evB_none (evB_some rfl rfl) (by first | omega | (simp [hH] <;> omega)) (by first | omega | (simp [hH] <;> omega))) (by decide) ?_
        refine st_v (rv_assign rfl) (by decide) ?_
        refine st_nil ?_
        refine st_then ?_
        refine st_ret ?_
        exact st_done rfl rfl (fun w hM => ⟨by rw [withR, hMd]; rfl, hM.sublist (List.nil_sublist _)⟩)
end Go.Proofs.YtjhjjhpfjadjpaaDoor
