/- Walks: what functions of the given program do, operation by operation. Written by wip/gen. -/
import Derived.Test.YtpihffpdkfkkhaaDoorWX
import Derived.Test.YtpihffpdkfkkhaaDoorVR
import Derived.Test.YtpihffpdkfkkhaaDoorME
namespace Go.Proofs.YtpihffpdkfkkhaaDoor
set_option linter.all false
open Go
theorem counter_calls (b : Nat) (vc vn : Value) (n : Nat) (flat nonce : List (BitVec 8)) (hn : 1 ≤ n ∧ n ≤ 100) (hf : flat.length = n * 16) (hnon : nonce.length = 12) (i : BitVec 32) (w : World) (hT : Tab w) (hB : ∃ fr : Nat × Nat, w.heap[b]? = some (.cells #[vc, vn] 63 fr)) (hC : Rd w vc n 16 (flat.map U8)) (hN : Rd w vn 12 1 (nonce.map U8)) : Calls Tryd.prog 34 #[pt b 0, U32 i] w (fun r w' => r = .returned (.agg (c8 (seaE flat n nonce i))) ∧ Mem (All w) w w' []) := by
  have hS0 : All w 0 := ⟨by have := hT.live; omega, fun h => h⟩
  have hS1 : All w 1 := ⟨by have := hT.live; omega, fun h => h⟩
  obtain ⟨fr, hrow⟩ := hB
  have hSb : All w b := ⟨(Array.getElem?_eq_some_iff.1 hrow).1, fun h => h⟩
  have hlive := hT.live
  refine calls_of_st (n := 32) (args := [pt b 0, U32 i]) Tryd.func34 rfl Tryd.ntmps34 (Nat.le_of_ble_eq_true rfl) (Mem.all w) ?_
  refine st_seq ?_
  refine st_region ?_
  refine st_alloc tyZ43 (by decide) (cs := c8 (List.replicate 16 0#8)) (rfl) (fun b1 hb1 => ?_)
  refine st_nil ?_
  refine st_then ?_
  refine st_seq ?_
  refine st_region ?_
  refine st_alloc tyZ43 (by decide) (cs := c8 (List.replicate 16 0#8)) (rfl) (fun b2 hb2 => ?_)
  refine st_nil ?_
  refine st_then ?_
  refine st_seq ?_
  refine st_drawStart mixed ?_
  refine st_drawSeg1 (E0 := [(0, _), (1, _), (4, _), (5, _)]) [kpeq _, kpeq _, kpeq _, kpeq _, kpeq _] 0 5 [0, 0, 2, 6, 14, 31] [0, 1, 4, 5] (by kernel_rfl) (by decide) (by kernel_rfl) (SubE.cons rfl (SubE.cons rfl (SubE.cons rfl (SubE.cons rfl (SubE.nil _))))) rfl rfl (hall_cons (hop_val [] [] rfl rfl rfl (by decide) rfl (jnil) (xnil) (fun _ _ _ _ => does_v (rv_sliceA Tryd.underlying43 sz5 rfl evB_none evB_none (by omega) (by omega) (by decide) rfl))) (hall_cons (hop_val [] [] rfl rfl rfl (by decide) rfl (jnil) (xnil) (fun _ _ _ _ => does_v (rv_move rfl))) (hall_cons (hop_val [(1, 8, _)] [] rfl rfl rfl (by decide) rfl (jcons rfl rfl rfl rfl rfl (jnil)) (xnil) (fun _ _ _ _ => does_v (rv_nilCheck rfl))) (hall_cons (hop_val [(2, 9, _)] [] rfl rfl rfl (by decide) rfl (jcons rfl rfl rfl rfl rfl (jnil)) (xnil) (fun _ _ _ _ => does_v (rv_fieldAddr Tryd.underlying63 (fs := _) rfl sz22 rfl rfl))) (hall_cons (hop_val [(3, 10, _)] [] rfl rfl rfl (by decide) rfl (jcons rfl rfl rfl rfl rfl (jnil)) (xnil) (fun _ _ _ _ => does_v (rv_load_old tyS22 rfl hrow hSb rfl))) (hall_nil)))))) (draw_end1 [(0, 7, _), (4, 11, _)] (jcons rfl rfl rfl rfl rfl (jcons rfl rfl rfl rfl rfl (jnil))) ?_)
  refine st_drawTail (N := 5) [0, 0, 2, 6, 14, 31] (by kernel_rfl) (by kernel_rfl) ?_
  refine st_copy8 Tryd.underlying22 sz5 rfl rfl (i := 0) rfl (by first | omega | (simp [length_ctrL _ _ _ hnon, length_encS, hnon, over]; done) | (simp [length_ctrL _ _ _ hnon, length_encS, hnon, over] <;> omega)) (fun w hM => src_rd ((rd_old hN hN.all) w hM) (one8 _)) (l' := [_, _]) rfl (by decide) ?_
  refine st_nil ?_
  refine st_then ?_
  refine st_seq ?_
  refine st_seq ?_
  refine st_region ?_
  refine st_v (rv_move rfl) (by decide) ?_
  refine st_nil ?_
  refine st_then ?_
  refine st_block ?_
  refine st_loopA (σ := Nat) [(0, kst _), (1, kst _), (4, kst _), (5, kst _), (13, fun k => vI k)] [fun k => blk b2 (c8 (ctrL nonce i k)) 43, kst _] (fun k => k ≤ 4) (fun k => 4 - k) 0 (by omega) (SubE.cons rfl (SubE.cons rfl (SubE.cons rfl (SubE.cons rfl (SubE.cons rfl (SubE.nil _)))))) (fun _ hM => hM) ?_
  intro k hI
  try dsimp only at hI
  dsimp only [List.map, kst]
  refine st_seq ?_
  refine st_region ?_
  refine st_v (rv_lssZ rfl rfl) (by decide) ?_
  refine st_nil ?_
  refine st_then ?_
  refine st_seq ?_
  refine st_cond rfl (fun hc14 => ?_) (fun hc14 => ?_)
  · -- t14 True
    try simp only [decide_eq_true_eq, decide_eq_false_iff_not, Bool.and_eq_true, Bool.or_eq_true, Bool.and_eq_false_iff, Bool.or_eq_false_iff, Bool.not_eq_true, Bool.not_eq_eq_eq_not, Bool.not_true, Bool.not_false, Int.not_lt, Int.not_le, ne_eq, Decidable.not_not] at hc14
    refine st_skip ?_
    refine st_then ?_
    refine st_seq ?_
    refine st_block ?_
    refine st_seq ?_
    refine st_region ?_
    refine st_v (rv_move rfl) (by decide) ?_
    refine st_v (rv_assign rfl) (by decide) ?_
    refine st_nil ?_
    refine st_then ?_
    refine st_region ?_
    refine st_v (rv_move rfl) (by decide) ?_
    first | refine st_v (rv_addN (a := 12) rfl rfl (by first | omega | (simp <;> omega))) (by decide) ?_ | refine st_v (rv_addZ rfl rfl (by first | omega | (simp <;> omega))) (by decide) ?_
    refine st_v (rv_move rfl) (by decide) ?_
    refine st_v (rv_move rfl) (by decide) ?_
    first | refine st_v (rv_mulN (a := 8) rfl rfl (by first | omega | (simp <;> omega))) (by decide) ?_ | refine st_v (rv_mulZ rfl rfl (by first | omega | (simp <;> omega))) (by decide) ?_
    first | refine st_v (rv_subN (a := 24) rfl rfl (by first | omega | (simp <;> omega))) (by decide) ?_ | refine st_v (rv_subZ rfl rfl (by first | omega | (simp <;> omega))) (by decide) ?_
    refine st_v (rv_shr32 rfl rfl rfl) (by decide) ?_
    refine st_v (rv_conv32to8 Tryd.underlying65 Tryd.underlying5 rfl) (by decide) ?_
    refine st_v (rv_indexA Tryd.underlying43 sz5 rfl rfl rfl (by first | omega | (simp [length_ctrL _ _ _ hnon, length_encS, hnon, over] <;> omega)) (by first | exact (Nat.zero_add _).trans (Nat.mul_one _) | exact congrArg _ (Nat.mul_one _) | exact Nat.zero_add _ | rfl)) (by decide) ?_
    refine st_store8 rfl rfl (i := 0) rfl sz5 (by first | omega | (simp [length_ctrL _ _ _ hnon, length_encS, hnon, over] <;> omega)) (l' := [_, _]) rfl ?_
    refine st_nil ?_
    refine st_in_normal ?_
    refine st_then ?_
    refine st_region ?_
    first | refine st_v (rv_addN (b := 1) rfl rfl (by first | omega | (simp <;> omega))) (by decide) ?_ | refine st_v (rv_addZ rfl rfl (by first | omega | (simp <;> omega))) (by decide) ?_
    refine st_v (rv_move rfl) (by decide) ?_
    refine st_nil ?_
    refine st_then ?_
    exact st_again (k + 1) (by omega) (by omega) (SubE.cons rfl (SubE.cons rfl (SubE.cons rfl (SubE.cons rfl (SubE.cons rfl (SubE.nil _)))))) (fun _ hM => hM)
  · -- t14 False
    try simp only [decide_eq_true_eq, decide_eq_false_iff_not, Bool.and_eq_true, Bool.or_eq_true, Bool.and_eq_false_iff, Bool.or_eq_false_iff, Bool.not_eq_true, Bool.not_eq_eq_eq_not, Bool.not_true, Bool.not_false, Int.not_lt, Int.not_le, ne_eq, Decidable.not_not] at hc14
    obtain rfl : k = 4 := by omega
    refine st_exit ?_
    refine st_then_exit ?_
    refine st_then_exit ?_
    refine st_in_exit ?_
    refine st_then ?_
    refine st_seq ?_
    refine st_drawStart mixed ?_
    refine st_drawSeg1 (E0 := [(0, _), (4, _), (5, _)]) [kpeq _, kpeq _, kpeq _, kpeq _, kpeq _] 0 5 [0, 1, 3, 7, 0, 31, 63] [0, 4, 5] (by kernel_rfl) (by decide) (by kernel_rfl) (SubE.cons rfl (SubE.cons rfl (SubE.cons rfl (SubE.nil _)))) rfl rfl (hall_cons (hop_val [] [] rfl rfl rfl (by decide) rfl (jnil) (xnil) (fun _ _ _ _ => does_v (rv_move rfl))) (hall_cons (hop_val [(0, 26, _)] [] rfl rfl rfl (by decide) rfl (jcons rfl rfl rfl rfl rfl (jnil)) (xnil) (fun _ _ _ _ => does_v (rv_nilCheck rfl))) (hall_cons (hop_val [(1, 27, _)] [] rfl rfl rfl (by decide) rfl (jcons rfl rfl rfl rfl rfl (jnil)) (xnil) (fun _ _ _ _ => does_v (rv_fieldAddr Tryd.underlying63 (fs := _) rfl sz40 rfl rfl))) (hall_cons (hop_val [(2, 28, _)] [] rfl rfl rfl (by decide) rfl (jcons rfl rfl rfl rfl rfl (jnil)) (xnil) (fun _ _ _ _ => does_v (rv_load_old tyS40 rfl hrow hSb rfl))) (hall_cons (hop_val [] [] rfl rfl rfl (by decide) rfl (jnil) (xnil) (fun _ _ _ _ => does_v (rv_loadW_blk tyA43 rfl (i := 0) rfl (by first | omega | (simp [length_ctrL _ _ _ hnon, length_encS, hnon, over]; done) | (simp [length_ctrL _ _ _ hnon, length_encS, hnon, over] <;> omega))))) (hall_nil)))))) (draw_end1 [(3, 29, _), (4, 30, _)] (jcons rfl rfl rfl rfl rfl (jcons rfl rfl rfl rfl rfl (jnil))) ?_)
    refine st_drawTail (N := 5) [0, 1, 3, 7, 0, 31, 63] (by kernel_rfl) (by kernel_rfl) ?_
    refine st_call0 cal17 rfl (fun w hM => enc_calls _ n flat (ctrL nonce i 4) (length_ctrL _ _ _ hnon) hn hf w (hT.at hM hS0 hS1) ((rd_old hC hC.all) w hM)) (by decide) ?_
    refine st_storeW8 rfl rfl (i := 1) rfl sz43 (by first | omega | (simp [length_ctrL _ _ _ hnon, length_encS, hnon, over]; done) | (simp [length_ctrL _ _ _ hnon, length_encS, hnon, over] <;> omega)) (by first | omega | (simp [length_ctrL _ _ _ hnon, length_encS, hnon, over]; done) | (simp [length_ctrL _ _ _ hnon, length_encS, hnon, over] <;> omega)) (l' := [_, _]) rfl ?_
    refine st_nil ?_
    refine st_then ?_
    refine st_ret ?_
    exact st_doneC tyA43 rfl rfl (i := 1) rfl (by first | omega | (simp [length_ctrL _ _ _ hnon, length_encS, hnon, over]; done) | (simp [length_ctrL _ _ _ hnon, length_encS, hnon, over] <;> omega)) (fun w hM => ⟨rfl, hM.sublist (List.nil_sublist _)⟩)
set_option maxHeartbeats 1000000 in
theorem turn_calls (b : Nat) (vc vn : Value) (n : Nat) (flat nonce : List (BitVec 8)) (hn : 1 ≤ n ∧ n ≤ 100) (hf : flat.length = n * 16) (hnon : nonce.length = 12) (x : Value) (text : List (BitVec 8)) (ht : text.length ≤ 1000000) (w : World) (hT : Tab w) (hB : ∃ fr : Nat × Nat, w.heap[b]? = some (.cells #[vc, vn] 63 fr)) (hC : Rd w vc n 16 (flat.map U8)) (hN : Rd w vn 12 1 (nonce.map U8)) (hX : Rd w x text.length 1 (text.map U8)) : Calls Tryd.prog 23 #[pt b 0, x] w (fun e w' => ∃ v, e = .returned v ∧ Mem (All w) w w' [own v 5 1 text.length ((turnL flat n nonce text text.length).map U8)]) := by
  have hS0 : All w 0 := ⟨by have := hT.live; omega, fun h => h⟩
  have hS1 : All w 1 := ⟨by have := hT.live; omega, fun h => h⟩
  obtain ⟨fr, hrow⟩ := hB
  have hSb : All w b := ⟨(Array.getElem?_eq_some_iff.1 hrow).1, fun h => h⟩
  have hlive := hT.live
  refine calls_of_st (n := 52) (args := [pt b 0, x]) Tryd.func23 rfl Tryd.ntmps23 (Nat.le_of_ble_eq_true rfl) (Mem.all w) ?_
  refine st_seq ?_
  refine st_region ?_
  refine st_v (rv_assign rfl) (by decide) ?_
  refine st_nil ?_
  refine st_then ?_
  refine st_seq ?_
  refine st_region ?_
  refine st_v (rv_move rfl) (by decide) ?_
  refine st_v (rv_lenR (rd_old hX hX.all) Tryd.underlying22 rfl) (by decide) ?_
  first | refine st_v (rv_addN (b := 16) rfl rfl (by first | omega | (simp <;> omega))) (by decide) ?_ | refine st_v (rv_addZ rfl rfl (by first | omega | (simp <;> omega))) (by decide) ?_
  refine st_makeO0 Tryd.underlying22 tyZ5 rfl rfl (by omega) (by omega) (by decide) (fun v1 => ?_)
  refine st_v (rv_move rfl) (by decide) ?_
  refine st_append8 Tryd.underlying22 Tryd.underlying22 (.inr ⟨_, rfl⟩) tyZ5 rfl rfl rfl (i := 0) rfl (fun w hM => src_rd ((rd_old hX hX.all) w hM) (one8 _)) (by first | omega | simp) (by first | omega | simp) (by decide) (fun v1 => ?_)
  refine st_v (rv_assign rfl) (by decide) ?_
  rw [Nat.zero_add text.length, List.nil_append text]
  refine st_nil ?_
  refine st_then ?_
  refine st_seq ?_
  refine st_seq ?_
  refine st_region ?_
  refine st_v (rv_move rfl) (by decide) ?_
  refine st_v (rv_lenR (rd_own (i := 0) rfl) Tryd.underlying22 rfl) (by decide) ?_
  refine st_v (rv_move rfl) (by decide) ?_
  refine st_nil ?_
  refine st_then ?_
  refine st_block ?_
  refine st_loopA (σ := Nat) [(0, kst _), (5, kst _), (16, kst _), (17, fun i => vI i)] [fun i => own v1 5 1 text.length ((turnL flat n nonce text i).map U8)] (fun i => i ≤ text.length) (fun i => text.length - i) 0 (by omega) (SubE.cons rfl (SubE.cons rfl (SubE.cons rfl (SubE.cons rfl (SubE.nil _))))) (fun _ hM => hM) ?_
  intro i hI
  try dsimp only at hI
  dsimp only [List.map, kst]
  refine st_seq ?_
  refine st_region ?_
  refine st_v (rv_lssZ rfl rfl) (by decide) ?_
  refine st_nil ?_
  refine st_then ?_
  refine st_seq ?_
  refine st_cond rfl (fun hc18 => ?_) (fun hc18 => ?_)
  · -- t18 True
    try simp only [decide_eq_true_eq, decide_eq_false_iff_not, Bool.and_eq_true, Bool.or_eq_true, Bool.and_eq_false_iff, Bool.or_eq_false_iff, Bool.not_eq_true, Bool.not_eq_eq_eq_not, Bool.not_true, Bool.not_false, Int.not_lt, Int.not_le, ne_eq, Decidable.not_not] at hc18
    refine st_skip ?_
    refine st_then ?_
    refine st_seq ?_
    refine st_block ?_
    refine st_seq ?_
    refine st_region ?_
    refine st_v (rv_move rfl) (by decide) ?_
    refine st_v (rv_assign rfl) (by decide) ?_
    refine st_nil ?_
    refine st_then ?_
    refine st_seq ?_
    refine st_region ?_
    refine st_v (rv_move rfl) (by decide) ?_
    refine st_v (rv_remN (b := 16) rfl rfl (by first | omega | (simp <;> omega))) (by decide) ?_
    refine st_v (rv_eqlZ rfl rfl) (by decide) ?_
    refine st_nil ?_
    refine st_then ?_
    refine st_cond rfl (fun hc22 => ?_) (fun hc22 => ?_)
    · -- t22 True
      try simp only [decide_eq_true_eq, decide_eq_false_iff_not, Bool.and_eq_true, Bool.or_eq_true, Bool.and_eq_false_iff, Bool.or_eq_false_iff, Bool.not_eq_true, Bool.not_eq_eq_eq_not, Bool.not_true, Bool.not_false, Int.not_lt, Int.not_le, ne_eq, Decidable.not_not] at hc22
      have hm : i % 16 = 0 := by exact_mod_cast hc22
      refine st_seq ?_
      refine st_region ?_
      refine st_v (rv_move rfl) (by decide) ?_
      refine st_v (rv_move rfl) (by decide) ?_
      refine st_v (rv_quoN (b := 16) rfl rfl (by first | omega | (simp <;> omega))) (by decide) ?_
      refine st_v (rv_convIto32 Tryd.underlying3 Tryd.underlying65 rfl) (by decide) ?_
      refine st_v (rv_add32 (b := 2#32) rfl rfl) (by decide) ?_
      refine st_call0 cal34 rfl (fun w hM => counter_calls b vc vn n flat nonce hn hf hnon _ w (hT.at hM hS0 hS1) ⟨fr, (hM.old b hSb).trans hrow⟩ ((rd_old hC hC.all) w hM) ((rd_old hN hN.all) w hM)) (by decide) ?_
      refine st_alloc tyZ43 (by decide) (cs := c8 (List.replicate 16 0#8)) (rfl) (fun b2 hb2 => ?_)
      refine st_storeW8 rfl rfl (i := 0) rfl sz43 (by first | omega | (simp [length_seaE _ _ _ _ hnon, length_turnL, length_xorB]; done) | (simp [length_seaE _ _ _ _ hnon, length_turnL, length_xorB] <;> omega)) (by first | omega | (simp [length_seaE _ _ _ _ hnon, length_turnL, length_xorB]; done) | (simp [length_seaE _ _ _ _ hnon, length_turnL, length_xorB] <;> omega)) (l' := [_, _]) rfl ?_
      refine st_nil ?_
      refine st_then ?_
      refine st_seq ?_
      refine st_region ?_
      refine st_v (rv_move rfl) (by decide) ?_
      refine st_v (rv_assign rfl) (by decide) ?_
      refine st_nil ?_
      refine st_then ?_
      refine st_block ?_
      refine st_loopA (σ := Nat) [(0, kst _), (5, kst _), (6, kst _), (7, kst _), (8, fun j => vI (i + j : Nat)), (16, kst _), (17, kst _)] [kst _, fun j => own v1 5 1 text.length ((xorB (turnL flat n nonce text i) (seaE flat n nonce (BitVec.ofNat 32 (i / 16) + 2#32)) i j).map U8)] (fun j => i + j ≤ min (i + 16) text.length) (fun j => min (i + 16) text.length - (i + j)) 0 (by omega) (SubE.cons rfl (SubE.cons rfl (SubE.cons rfl (SubE.cons rfl (SubE.cons rfl (SubE.cons rfl (SubE.cons rfl (SubE.nil _)))))))) (fun _ hM => hM) ?_
      intro j hI
      try dsimp only at hI
      dsimp only [List.map, kst]
      refine st_seq ?_
      refine st_seq ?_
      refine st_region ?_
      refine st_v (rv_move rfl) (by decide) ?_
      refine st_v (rv_move rfl) (by decide) ?_
      first | refine st_v (rv_addN (b := 16) rfl rfl (by first | omega | (simp <;> omega))) (by decide) ?_ | refine st_v (rv_addZ rfl rfl (by first | omega | (simp <;> omega))) (by decide) ?_
      refine st_v (rv_move rfl) (by decide) ?_
      refine st_v (rv_lenR (rd_own (i := 1) rfl) Tryd.underlying22 rfl) (by decide) ?_
      refine st_v (rv_minN rfl rfl) (by decide) ?_
      refine st_v (rv_lssZ rfl rfl) (by decide) ?_
      refine st_nil ?_
      refine st_then ?_
      refine st_cond rfl (fun hc36 => ?_) (fun hc36 => ?_)
      · -- t36 True
        try simp only [decide_eq_true_eq, decide_eq_false_iff_not, Bool.and_eq_true, Bool.or_eq_true, Bool.and_eq_false_iff, Bool.or_eq_false_iff, Bool.not_eq_true, Bool.not_eq_eq_eq_not, Bool.not_true, Bool.not_false, Int.not_lt, Int.not_le, ne_eq, Decidable.not_not] at hc36
        refine st_skip ?_
        refine st_then ?_
        refine st_seq ?_
        refine st_block ?_
        refine st_drawStart mixed ?_
        refine st_drawSeg1 (E0 := [(0, _), (5, _), (6, _), (7, _), (8, _), (16, _), (17, _)]) [kpeq _, kpeq _, kpeq _, kpeq _, kpeq _, kpeq _, kpeq _, kpeq _, kpeq _] 0 9 [0, 0, 3, 7, 0, 0, 48, 112, 240, 511, 1023, 2047] [0, 5, 6, 7, 8, 16, 17] (by kernel_rfl) (by decide) (by kernel_rfl) (SubE.cons rfl (SubE.cons rfl (SubE.cons rfl (SubE.cons rfl (SubE.cons rfl (SubE.cons rfl (SubE.cons rfl (SubE.nil _)))))))) rfl rfl (hall_cons (hop_val [] [] rfl rfl rfl (by decide) rfl (jnil) (xnil) (fun _ _ _ _ => does_v (rv_move rfl))) (hall_cons (hop_val [] [] rfl rfl rfl (by decide) rfl (jnil) (xnil) (fun _ _ _ _ => does_v (rv_move rfl))) (hall_cons (hop_val [(0, 39, _), (1, 40, _)] [] rfl rfl rfl (by decide) rfl (jcons rfl rfl rfl rfl rfl (jcons rfl rfl rfl rfl rfl (jnil))) (xnil) (fun _ _ _ _ => does_v (rv_indexR1 (rd_own (i := 1) rfl) Tryd.underlying22 sz5 rfl rfl rfl (by first | omega | (simp [length_seaE _ _ _ _ hnon, length_turnL, length_xorB] <;> omega))))) (hall_cons (hop_val [(2, 41, _)] [] rfl rfl rfl (by decide) rfl (jcons rfl rfl rfl rfl rfl (jnil)) (xnil) (fun _ _ _ _ => does_v (rv_load_rd (rd_own (i := 1) rfl) tyS5 rfl (get8 (by first | omega | (simp [length_seaE _ _ _ _ hnon, length_turnL, length_xorB] <;> omega)))))) (hall_cons (hop_val [] [] rfl rfl rfl (by decide) rfl (jnil) (xnil) (fun _ _ _ _ => does_v (rv_move rfl))) (hall_cons (hop_val [] [] rfl rfl rfl (by decide) rfl (jnil) (xnil) (fun _ _ _ _ => does_v (rv_move rfl))) (hall_cons (hop_val [(4, 43, _), (5, 44, _)] [] rfl rfl rfl (by decide) rfl (jcons rfl rfl rfl rfl rfl (jcons rfl rfl rfl rfl rfl (jnil))) (xnil) (fun _ _ _ _ => does_v (rv_to (u := vI j) (rv_subN rfl rfl (by omega)) (by rw [Nat.add_sub_cancel_left])))) (hall_cons (hop_val [(6, 45, _)] [] rfl rfl rfl (by decide) rfl (jcons rfl rfl rfl rfl rfl (jnil)) (xnil) (fun _ _ _ _ => does_v (rv_indexA Tryd.underlying43 sz5 rfl rfl rfl (by first | omega | (simp [length_seaE _ _ _ _ hnon, length_turnL, length_xorB] <;> omega)) (by first | exact (Nat.zero_add _).trans (Nat.mul_one _) | exact congrArg _ (Nat.mul_one _) | exact Nat.zero_add _ | rfl)))) (hall_cons (hop_val [(7, 46, _)] [] rfl rfl rfl (by decide) rfl (jcons rfl rfl rfl rfl rfl (jnil)) (xnil) (fun _ _ _ _ => does_v (rv_load_blk tyS5 rfl (i := 0) rfl (cell8 (by first | omega | (simp [length_seaE _ _ _ _ hnon, length_turnL, length_xorB] <;> omega)))))) (hall_nil)))))))))) (draw_end1 [(0, 39, _), (1, 40, _), (3, 42, _), (8, 47, _)] (jcons rfl rfl rfl rfl rfl (jcons rfl rfl rfl rfl rfl (jcons rfl rfl rfl rfl rfl (jcons rfl rfl rfl rfl rfl (jnil))))) ?_)
        refine st_drawTail (N := 9) [0, 0, 3, 7, 0, 0, 48, 112, 240, 511, 1023, 2047] (by kernel_rfl) (by kernel_rfl) ?_
        refine st_v (rv_xor8 rfl rfl) (by decide) ?_
        refine st_v (rv_indexR1 (rd_own (i := 1) rfl) Tryd.underlying22 sz5 rfl rfl rfl (by first | omega | (simp [length_seaE _ _ _ _ hnon, length_turnL, length_xorB] <;> omega))) (by decide) ?_
        refine st_storeOwn8 rfl rfl (i := 1) rfl sz5 (by first | omega | (simp [length_seaE _ _ _ _ hnon, length_turnL, length_xorB] <;> omega)) rfl ?_
        refine st_nil ?_
        refine st_in_normal ?_
        refine st_then ?_
        refine st_region ?_
        refine st_v (rv_move rfl) (by decide) ?_
        first | refine st_v (rv_addN (b := 1) rfl rfl (by first | omega | (simp <;> omega))) (by decide) ?_ | refine st_v (rv_addZ rfl rfl (by first | omega | (simp <;> omega))) (by decide) ?_
        refine st_v (rv_assign rfl) (by decide) ?_
        refine st_nil ?_
        refine st_then ?_
        exact st_again (j + 1) (by omega) (by omega) (SubE.cons rfl (SubE.cons rfl (SubE.cons rfl (SubE.cons rfl (SubE.cons rfl (SubE.cons rfl (SubE.cons rfl (SubE.nil _)))))))) (fun _ hM => hM)
      · -- t36 False
        try simp only [decide_eq_true_eq, decide_eq_false_iff_not, Bool.and_eq_true, Bool.or_eq_true, Bool.and_eq_false_iff, Bool.or_eq_false_iff, Bool.not_eq_true, Bool.not_eq_eq_eq_not, Bool.not_true, Bool.not_false, Int.not_lt, Int.not_le, ne_eq, Decidable.not_not] at hc36
        obtain rfl : j = min (i + 16) text.length - i := by omega
        refine st_exit ?_
        refine st_then_exit ?_
        refine st_then_exit ?_
        refine st_in_exit ?_
        refine st_in_normal ?_
        refine st_then ?_
        refine st_region ?_
        first | refine st_v (rv_addN (b := 1) rfl rfl (by first | omega | (simp <;> omega))) (by decide) ?_ | refine st_v (rv_addZ rfl rfl (by first | omega | (simp <;> omega))) (by decide) ?_
        refine st_v (rv_move rfl) (by decide) ?_
        refine st_nil ?_
        refine st_then ?_
        exact st_again (i + 1) (by omega) (by omega) (SubE.cons rfl (SubE.cons rfl (SubE.cons rfl (SubE.cons rfl (SubE.nil _))))) (by intro w hM; have hM := hM.sublist (List.Sublist.cons _ (List.Sublist.cons_cons _ (List.Sublist.slnil))); (first | rw [turnL, if_pos hm] | rw [turnL, if_neg hm]); exact hM)
    · -- t22 False
      try simp only [decide_eq_true_eq, decide_eq_false_iff_not, Bool.and_eq_true, Bool.or_eq_true, Bool.and_eq_false_iff, Bool.or_eq_false_iff, Bool.not_eq_true, Bool.not_eq_eq_eq_not, Bool.not_true, Bool.not_false, Int.not_lt, Int.not_le, ne_eq, Decidable.not_not] at hc22
      have hm : ¬ i % 16 = 0 := by exact_mod_cast hc22
      refine st_skip ?_
      refine st_in_normal ?_
      refine st_then ?_
      refine st_region ?_
      first | refine st_v (rv_addN (b := 1) rfl rfl (by first | omega | (simp <;> omega))) (by decide) ?_ | refine st_v (rv_addZ rfl rfl (by first | omega | (simp <;> omega))) (by decide) ?_
      refine st_v (rv_move rfl) (by decide) ?_
      refine st_nil ?_
      refine st_then ?_
      exact st_again (i + 1) (by omega) (by omega) (SubE.cons rfl (SubE.cons rfl (SubE.cons rfl (SubE.cons rfl (SubE.nil _))))) (by intro w hM; (first | rw [turnL, if_pos hm] | rw [turnL, if_neg hm]); exact hM)
  · -- t18 False
    try simp only [decide_eq_true_eq, decide_eq_false_iff_not, Bool.and_eq_true, Bool.or_eq_true, Bool.and_eq_false_iff, Bool.or_eq_false_iff, Bool.not_eq_true, Bool.not_eq_eq_eq_not, Bool.not_true, Bool.not_false, Int.not_lt, Int.not_le, ne_eq, Decidable.not_not] at hc18
    obtain rfl : i = text.length := by omega
    refine st_exit ?_
    refine st_then_exit ?_
    refine st_then_exit ?_
    refine st_in_exit ?_
    refine st_then ?_
    refine st_seq ?_
    refine st_region ?_
    refine st_v (rv_move rfl) (by decide) ?_
    refine st_v (rv_assign rfl) (by decide) ?_
    refine st_nil ?_
    refine st_then ?_
    refine st_ret ?_
    exact st_done rfl rfl (fun w hM => ⟨_, rfl, hM⟩)
set_option maxHeartbeats 1000000 in
theorem tag_calls (b : Nat) (vc vn : Value) (n : Nat) (flat nonce : List (BitVec 8)) (hn : 1 ≤ n ∧ n ≤ 100) (hf : flat.length = n * 16) (hnon : nonce.length = 12) (y z : Value) (a c : List (BitVec 8)) (ha : a.length ≤ 1000000) (hc : c.length ≤ 1000000) (w : World) (hT : Tab w) (hB : ∃ fr : Nat × Nat, w.heap[b]? = some (.cells #[vc, vn] 63 fr)) (hC : Rd w vc n 16 (flat.map U8)) (hN : Rd w vn 12 1 (nonce.map U8)) (hY : Rd w y a.length 1 (a.map U8)) (hZ : Rd w z c.length 1 (c.map U8)) : Calls Tryd.prog 24 #[pt b 0, y, z] w (fun r w' => r = .returned (.agg (c8 (tagL flat n nonce a c))) ∧ Mem (All w) w w' []) := by
  have hS0 : All w 0 := ⟨by have := hT.live; omega, fun h => h⟩
  have hS1 : All w 1 := ⟨by have := hT.live; omega, fun h => h⟩
  obtain ⟨fr, hrow⟩ := hB
  have hSb : All w b := ⟨(Array.getElem?_eq_some_iff.1 hrow).1, fun h => h⟩
  have hlive := hT.live
  refine calls_of_st (n := 26) (args := [pt b 0, y, z]) Tryd.func24 rfl Tryd.ntmps24 (Nat.le_of_ble_eq_true rfl) (Mem.all w) ?_
  refine st_seq ?_
  refine st_region ?_
  refine st_alloc tyZ43 (by decide) (cs := c8 (List.replicate 16 0#8)) (rfl) (fun b1 hb1 => ?_)
  refine st_nil ?_
  refine st_then ?_
  refine st_seq ?_
  refine st_region ?_
  refine st_v (rv_move rfl) (by decide) ?_
  refine st_v (rv_nilCheck rfl) (by decide) ?_
  refine st_v (rv_fieldAddr Tryd.underlying63 (fs := _) rfl sz40 rfl rfl) (by decide) ?_
  refine st_v (rv_load_old tyS40 rfl hrow hSb rfl) (by decide) ?_
  refine st_v (rv_to (u := .agg (c8 (List.replicate 16 0#8))) (rv_buildArray_of Tryd.underlying43 tyZ43 sz5 rfl (cs := #[_, _, _, _, _, _, _, _, _, _, _, _, _, _, _, _]) (by rfl)) (by rfl)) (by decide) ?_
  refine st_call0 cal17 rfl (fun w hM => enc_calls _ n flat (List.replicate 16 0#8) rfl hn hf w (hT.at hM hS0 hS1) ((rd_old hC hC.all) w hM)) (by decide) ?_
  refine st_alloc tyZ43 (by decide) (cs := c8 (List.replicate 16 0#8)) (rfl) (fun b2 hb2 => ?_)
  refine st_storeW8 rfl rfl (i := 0) rfl sz43 (by first | omega | (simp [length_seaE _ _ _ _ hnon, length_encS, length_elBytes, length_addL]; done) | (simp [length_seaE _ _ _ _ hnon, length_encS, length_elBytes, length_addL] <;> omega)) (by first | omega | (simp [length_seaE _ _ _ _ hnon, length_encS, length_elBytes, length_addL]; done) | (simp [length_seaE _ _ _ _ hnon, length_encS, length_elBytes, length_addL] <;> omega)) (l' := [_, _]) rfl ?_
  refine st_nil ?_
  refine st_then ?_
  refine st_seq ?_
  refine st_region ?_
  refine st_v (rv_move rfl) (by decide) ?_
  refine st_call0 cal34 rfl (fun w hM => counter_calls b vc vn n flat nonce hn hf hnon 1#32 w (hT.at hM hS0 hS1) ⟨fr, (hM.old b hSb).trans hrow⟩ ((rd_old hC hC.all) w hM) ((rd_old hN hN.all) w hM)) (by decide) ?_
  refine st_alloc tyZ43 (by decide) (cs := c8 (List.replicate 16 0#8)) (rfl) (fun b3 hb3 => ?_)
  refine st_storeW8 rfl rfl (i := 0) rfl sz43 (by first | omega | (simp [length_seaE _ _ _ _ hnon, length_encS, length_elBytes, length_addL]; done) | (simp [length_seaE _ _ _ _ hnon, length_encS, length_elBytes, length_addL] <;> omega)) (by first | omega | (simp [length_seaE _ _ _ _ hnon, length_encS, length_elBytes, length_addL]; done) | (simp [length_seaE _ _ _ _ hnon, length_encS, length_elBytes, length_addL] <;> omega)) (l' := [_, _, _]) rfl ?_
  refine st_nil ?_
  refine st_then ?_
  refine st_seq ?_
  refine st_region ?_
  refine st_v (rv_sliceA Tryd.underlying43 sz5 rfl evB_none evB_none (by omega) (by omega) (by decide) rfl) (by decide) ?_
  refine st_call0 cal36 rfl (fun w hM => read_calls _ _ _ (by first | omega | simp) w ((rd_w8 (i := 1) rfl (by first | omega | (simp [length_seaE _ _ _ _ hnon, length_encS, length_elBytes, length_addL]; done) | (simp [length_seaE _ _ _ _ hnon, length_encS, length_elBytes, length_addL] <;> omega)) (by omega)) w hM)) (by decide) ?_
  refine st_v (rv_move rfl) (by decide) ?_
  refine st_v (rv_move rfl) (by decide) ?_
  refine st_buildSlice Tryd.underlying46 tyZ22 rfl rfl (by decide) (cs := #[y, z]) (by simp [fillL, cells_rd hY, cells_rd hZ, spl]) (by decide) (fun b4 hb4 => ?_)
  refine st_call0 cal35 rfl (fun w hM => ghash_calls _ _ [(_, a), (_, c)] rfl w (rd_blk (i := 0) rfl rfl (Nat.le_refl _) (fun j u h => by simpa using h) w hM) (fun k hk => by
      match k, hk with
      | 0, _ => exact rd_old hY hY.all w hM
      | 1, _ => exact rd_old hZ hZ.all w hM) (fun k hk => by
      match k, hk with
      | 0, _ => show a.length ≤ _; omega
      | 1, _ => show c.length ≤ _; omega)) (by decide) ?_
  refine st_call0 cal37 rfl (fun w hM => bytes_calls _ w) (by decide) ?_
  refine st_callP cal29 rfl (i := 1) rfl (fun w hM => add_calls _ _ _ (by first | omega | (simp [length_seaE _ _ _ _ hnon, length_encS, length_elBytes, length_addL]; done) | (simp [length_seaE _ _ _ _ hnon, length_encS, length_elBytes, length_addL] <;> omega)) (by first | omega | (simp [length_seaE _ _ _ _ hnon, length_encS, length_elBytes, length_addL]; done) | (simp [length_seaE _ _ _ _ hnon, length_encS, length_elBytes, length_addL] <;> omega)) w (hM.holdsAt (i := 1) rfl)) (by decide) (l' := [_, _, _, _]) rfl ?_
  refine st_nil ?_
  refine st_then ?_
  refine st_seq ?_
  refine st_region ?_
  refine st_v (rv_loadW_blk tyA43 rfl (i := 1) rfl (by first | omega | (simp [length_seaE _ _ _ _ hnon, length_encS, length_elBytes, length_addL]; done) | (simp [length_seaE _ _ _ _ hnon, length_encS, length_elBytes, length_addL] <;> omega))) (by decide) ?_
  refine st_storeW8 rfl rfl (i := 3) rfl sz43 (by first | omega | (simp [length_seaE _ _ _ _ hnon, length_encS, length_elBytes, length_addL]; done) | (simp [length_seaE _ _ _ _ hnon, length_encS, length_elBytes, length_addL] <;> omega)) (by first | omega | (simp [length_seaE _ _ _ _ hnon, length_encS, length_elBytes, length_addL]; done) | (simp [length_seaE _ _ _ _ hnon, length_encS, length_elBytes, length_addL] <;> omega)) (l' := [_, _, _, _]) rfl ?_
  refine st_nil ?_
  refine st_then ?_
  refine st_ret ?_
  exact st_doneC tyA43 rfl rfl (i := 3) rfl (by first | omega | (simp [length_seaE _ _ _ _ hnon, length_encS, length_elBytes, length_addL]; done) | (simp [length_seaE _ _ _ _ hnon, length_encS, length_elBytes, length_addL] <;> omega)) (fun w hM => ⟨rfl, hM.sublist (List.nil_sublist _)⟩)
end Go.Proofs.YtpihffpdkfkkhaaDoor
