/- Walks: what functions of the given program do, operation by operation. Written by wip/gen. -/
import Derived.Test.YtpihffpdkfkkhaaDoorWR
namespace Go.Proofs.YtpihffpdkfkkhaaDoor
set_option linter.all false
open Go
theorem ghash_calls (h : El) (vp : Value) (ps : List (Value × List (BitVec 8))) (hl : ps.length = 2) (w : World) (hP : Rd w vp 2 1 (ps.map Prod.fst)) (hR : ∀ k, k < 2 → Rd w (ps.getD k (nilS, [])).1 (ps.getD k (nilS, [])).2.length 1 ((ps.getD k (nilS, [])).2.map U8)) (hB : ∀ k, k < 2 → (ps.getD k (nilS, [])).2.length ≤ 1000000) : Calls Tryd.prog 35 #[elV h, vp] w (fun r w' => r = .returned (elV (gSum h (ps.map Prod.snd))) ∧ Mem (All w) w w' []) := by
  have hget : ∀ k, k < 2 → (ps.map Prod.fst)[k]? = some (ps.getD k (nilS, [])).1 := by
    intro k hk
    simp [hl, hk]
  have hsnd : ∀ k, k < 2 → (ps.map Prod.snd).getD k [] = (ps.getD k (nilS, [])).2 := by
    intro k hk
    simp [hl, hk]
  refine calls_of_st (n := 47) (args := [elV h, vp]) Tryd.func35 rfl Tryd.ntmps35 (Nat.le_of_ble_eq_true rfl) (Mem.all w) ?_
  refine st_seq ?_
  refine st_region ?_
  refine st_box rfl (by decide) rfl (fun b1 hb1 => ?_)
  refine st_alloc tyZ68 (by decide) (cs := #[.int .u64 0, .int .u64 0]) (rfl) (fun b2 hb2 => ?_)
  refine st_nil ?_
  refine st_then ?_
  refine st_seq ?_
  refine st_region ?_
  refine st_alloc tyZ68 (by decide) (cs := #[.int .u64 0, .int .u64 0]) (rfl) (fun b3 hb3 => ?_)
  refine st_nil ?_
  refine st_then ?_
  refine st_seq ?_
  refine st_region ?_
  refine st_alloc tyZ75 (by decide) (cs := c64 [0#64, 0#64]) (rfl) (fun b4 hb4 => ?_)
  refine st_nil ?_
  refine st_then ?_
  refine st_seq ?_
  refine st_seq ?_
  refine st_region ?_
  refine st_v (rv_move rfl) (by decide) ?_
  refine st_v (rv_lenR (rd_old hP hP.all) Tryd.underlying46 rfl) (by decide) ?_
  refine st_v (rv_move rfl) (by decide) ?_
  refine st_nil ?_
  refine st_then ?_
  refine st_block ?_
  refine st_loop (σ := Nat) (fun k => [(2, pt b1 0), (4, pt b2 0), (5, pt b3 0), (6, pt b4 0), (10, vp), (11, vI 2), (12, vI k)]) (fun k => [blk b4 (c64 (gLens (ps.map Prod.snd) k)) 75, blk b3 #[U64 (gParts h (ps.map Prod.snd) (0#64, 0#64) k).1, U64 (gParts h (ps.map Prod.snd) (0#64, 0#64) k).2] 68, blk b2 #[U64 0#64, U64 0#64] 68, blk b1 #[U64 h.1, U64 h.2] 68]) (fun k => k ≤ 2) (fun k => 2 - k) 0 (by omega) (SubE.cons rfl (SubE.cons rfl (SubE.cons rfl (SubE.cons rfl (SubE.cons rfl (SubE.cons rfl (SubE.cons rfl (SubE.nil _)))))))) (fun _ hM => hM) ?_
  intro k hI
  refine st_seq ?_
  refine st_region ?_
  refine st_v (rv_lssZ rfl rfl) (by decide) ?_
  refine st_nil ?_
  refine st_then ?_
  refine st_seq ?_
  refine st_cond rfl (fun hc13 => ?_) (fun hc13 => ?_)
  · -- t13 True
    try simp only [decide_eq_true_eq, decide_eq_false_iff_not, Bool.and_eq_true, Bool.or_eq_true, Bool.and_eq_false_iff, Bool.or_eq_false_iff, Bool.not_eq_true, Bool.not_eq_eq_eq_not, Bool.not_true, Bool.not_false, Int.not_lt, Int.not_le, ne_eq, Decidable.not_not] at hc13
    have hk2 : k < 2 := by omega
    have hRk := hR k hk2
    have hBk := hB k hk2
    refine st_skip ?_
    refine st_then ?_
    refine st_seq ?_
    refine st_block ?_
    refine st_seq ?_
    refine st_region ?_
    refine st_v (rv_move rfl) (by decide) ?_
    refine st_v (rv_indexR1 (rd_old hP hP.all) Tryd.underlying46 sz22 rfl rfl rfl (by first | omega | (simp [length_gLens, over] <;> omega))) (by decide) ?_
    refine st_v (rv_load_rd (rd_old hP hP.all) tyS22 rfl (hget k hk2)) (by decide) ?_
    refine st_v (rv_assign rfl) (by decide) ?_
    refine st_v (rv_assign rfl) (by decide) ?_
    refine st_nil ?_
    refine st_then ?_
    refine st_seq ?_
    refine st_region ?_
    refine st_v (rv_move rfl) (by decide) ?_
    refine st_v (rv_move rfl) (by decide) ?_
    refine st_v (rv_lenR (rd_old hRk hRk.all) Tryd.underlying22 rfl) (by decide) ?_
    refine st_v (rv_convIto64 Tryd.underlying3 Tryd.underlying66 rfl) (by decide) ?_
    refine st_v (rv_mul64 (a := 8#64) rfl rfl) (by decide) ?_
    refine st_v (rv_indexA Tryd.underlying75 sz66 rfl rfl rfl (by first | omega | (simp [length_gLens, over] <;> omega)) (by first | exact (Nat.zero_add _).trans (Nat.mul_one _) | exact congrArg _ (Nat.mul_one _) | exact Nat.zero_add _ | rfl)) (by decide) ?_
    refine st_store64 rfl rfl (i := 0) rfl sz66 (by first | omega | (simp [length_gLens, over] <;> omega)) (l' := [_, _, _, _]) rfl ?_
    refine st_nil ?_
    refine st_then ?_
    refine st_block ?_
    refine st_loop (σ := Nat) (fun j => [(2, pt b1 0), (4, pt b2 0), (5, pt b3 0), (6, pt b4 0), (8, cutV (ps.getD k (nilS, [])).1 (ps.getD k (nilS, [])).2.length j), (10, vp), (11, vI 2), (12, vI k)]) (fun j => [blk b4 (c64 ((gLens (ps.map Prod.snd) k).set k (8#64 * BitVec.ofNat 64 (ps.getD k (nilS, [])).2.length))) 75, blk b3 #[U64 (gAcc h (ps.getD k (nilS, [])).2 (gParts h (ps.map Prod.snd) (0#64, 0#64) k) j).1, U64 (gAcc h (ps.getD k (nilS, [])).2 (gParts h (ps.map Prod.snd) (0#64, 0#64) k) j).2] 68, blk b2 #[U64 0#64, U64 0#64] 68, blk b1 #[U64 h.1, U64 h.2] 68]) (fun j => 16 * j ≤ (ps.getD k (nilS, [])).2.length + 15) (fun j => (ps.getD k (nilS, [])).2.length + 15 - 16 * j) 0 (by omega) (SubE.cons rfl (SubE.cons rfl (SubE.cons rfl (SubE.cons rfl (SubE.cons rfl (SubE.cons rfl (SubE.cons rfl (SubE.cons rfl (SubE.nil _))))))))) (fun _ hM => hM) ?_
    intro j hI
    refine st_seq ?_
    refine st_seq ?_
    refine st_region ?_
    refine st_v (rv_move rfl) (by decide) ?_
    refine st_v (rv_lenR (rd_old (cutRd hRk j) (cutRd hRk j).all) Tryd.underlying22 rfl) (by decide) ?_
    refine st_v (rv_gtrZ rfl rfl) (by decide) ?_
    refine st_nil ?_
    refine st_then ?_
    refine st_cond rfl (fun hc25 => ?_) (fun hc25 => ?_)
    · -- t25 True
      try simp only [decide_eq_true_eq, decide_eq_false_iff_not, Bool.and_eq_true, Bool.or_eq_true, Bool.and_eq_false_iff, Bool.or_eq_false_iff, Bool.not_eq_true, Bool.not_eq_eq_eq_not, Bool.not_true, Bool.not_false, Int.not_lt, Int.not_le, ne_eq, Decidable.not_not] at hc25
      refine st_skip ?_
      refine st_then ?_
      refine st_block ?_
      refine st_seq ?_
      refine st_region ?_
      refine st_alloc tyZ43 (by decide) (cs := c8 (List.replicate 16 0#8)) (rfl) (fun b5 hb5 => ?_)
      refine st_nil ?_
      refine st_then ?_
      refine st_seq ?_
      refine st_region ?_
      refine st_v (rv_move rfl) (by decide) ?_
      refine st_v (rv_sliceA Tryd.underlying43 sz5 rfl evB_none evB_none (by omega) (by omega) (by decide) rfl) (by decide) ?_
      refine st_v (rv_move rfl) (by decide) ?_
      refine st_copy8 Tryd.underlying22 sz5 rfl rfl (i := 0) rfl (by first | omega | (simp [length_gLens, over]; done) | (simp [length_gLens, over] <;> omega)) (fun w hM => src_rd ((rd_old (cutRd hRk j) (cutRd hRk j).all) w hM) (one8 _)) (l' := [_, _, _, _, _]) rfl (by decide) ?_
      refine st_v (rv_sliceR (rd_old (cutRd hRk j) (cutRd hRk j).all) Tryd.underlying22 sz5 rfl (evB_some rfl rfl) evB_none (by first | omega | (simp [length_gLens, over] <;> omega)) (by first | omega | (simp [length_gLens, over] <;> omega))) (by decide) ?_
      refine st_v (rv_assign rfl) (by decide) ?_
      refine st_nil ?_
      refine st_then ?_
      refine st_drawStart mixed ?_
      refine st_drawSeg1 (E0 := [(2, _), (4, _), (5, _), (6, _), (8, _), (9, _), (10, _), (11, _), (12, _)]) [kpeq _, kpeq _, kpeq _, kpeq _, kpeq _] 0 5 [0, 0, 2, 7, 0, 31, 63] [2, 4, 5, 6, 8, 9, 10, 11, 12] (by kernel_rfl) (by decide) (by kernel_rfl) (SubE.cons rfl (SubE.cons rfl (SubE.cons rfl (SubE.cons rfl (SubE.cons rfl (SubE.cons rfl (SubE.cons rfl (SubE.cons rfl (SubE.cons rfl (SubE.nil _)))))))))) rfl rfl (hall_cons (hop_val [] [] rfl rfl rfl (by decide) rfl (jnil) (xnil) (fun _ _ _ _ => does_v (rv_loadW_blk tyA68 rfl (i := 2) rfl rfl))) (hall_cons (hop_val [] [] rfl rfl rfl (by decide) rfl (jnil) (xnil) (fun _ _ _ _ => does_v (rv_sliceA Tryd.underlying43 sz5 rfl evB_none evB_none (by omega) (by omega) (by decide) rfl))) (hall_cons (hop_val [(1, 32, _)] [] rfl rfl rfl (by decide) rfl (jcons rfl rfl rfl rfl rfl (jnil)) (xnil) (fun _ _ _ _ => does_call0 cal36 rfl (fun w hM => read_calls _ _ _ (by first | omega | simp) w ((rd_w8 (i := 0) rfl (by first | omega | (simp [length_gLens, over]; done) | (simp [length_gLens, over] <;> omega)) (by omega)) w hM)))) (hall_cons (hop_val [(0, 31, _), (2, 33, _)] [] rfl rfl rfl (by decide) rfl (jcons rfl rfl rfl rfl rfl (jcons rfl rfl rfl rfl rfl (jnil))) (xnil) (fun _ _ _ _ => does_call0 cal41 rfl (fun w hM => plus_calls _ _ w))) (hall_cons (hop_val [] [] rfl rfl rfl (by decide) rfl (jnil) (xnil) (fun _ _ _ _ => does_v (rv_loadW_blk tyA68 rfl (i := 4) rfl rfl))) (hall_nil)))))) (draw_end1 [(3, 34, _), (4, 35, _)] (jcons rfl rfl rfl rfl rfl (jcons rfl rfl rfl rfl rfl (jnil))) ?_)
      refine st_drawTail (N := 5) [0, 0, 2, 7, 0, 31, 63] (by kernel_rfl) (by kernel_rfl) ?_
      refine st_call0 cal42 rfl (fun w hM => times_calls _ _ w) (by decide) ?_
      refine st_store (vs := [_, _]) rfl rfl (i := 2) rfl sz68 rfl (Nat.le_of_ble_eq_true rfl) (all1 rfl) (cs' := #[_, _]) rfl (l' := [_, _, _, _, _]) rfl ?_
      refine st_nil ?_
      refine st_in_normal ?_
      refine st_then ?_
      exact st_again (j + 1) (by omega) (by omega) (SubE.cons rfl (SubE.cons rfl (SubE.cons rfl (SubE.cons rfl (SubE.cons rfl (SubE.cons rfl (SubE.cons rfl (SubE.cons rfl (SubE.nil _))))))))) (fun _ hM => hM.sublist (List.sublist_cons_self _ _))
    · -- t25 False
      try simp only [decide_eq_true_eq, decide_eq_false_iff_not, Bool.and_eq_true, Bool.or_eq_true, Bool.and_eq_false_iff, Bool.or_eq_false_iff, Bool.not_eq_true, Bool.not_eq_eq_eq_not, Bool.not_true, Bool.not_false, Int.not_lt, Int.not_le, ne_eq, Decidable.not_not] at hc25
      obtain rfl : j = ((ps.getD k (nilS, [])).2.length + 15) / 16 := by omega
      refine st_exit ?_
      refine st_then_exit ?_
      refine st_then_exit ?_
      refine st_in_exit ?_
      refine st_in_normal ?_
      refine st_then ?_
      refine st_region ?_
      first | refine st_v (rv_addN (b := 1) rfl rfl (by first | omega | (simp <;> omega))) (by decide) ?_ | refine st_v (rv_addZ rfl rfl (by first | omega | (simp <;> omega))) (by decide) ?_
      refine st_v (rv_move rfl) (by decide) ?_
      refine st_nil ?_
      refine st_then ?_
      exact st_again (k + 1) (by omega) (by omega) (SubE.cons rfl (SubE.cons rfl (SubE.cons rfl (SubE.cons rfl (SubE.cons rfl (SubE.cons rfl (SubE.cons rfl (SubE.nil _)))))))) (by intro w hM; have e := hsnd k hk2; simp only [gParts, gLens, gPart, e]; exact hM)
  · -- t13 False
    try simp only [decide_eq_true_eq, decide_eq_false_iff_not, Bool.and_eq_true, Bool.or_eq_true, Bool.and_eq_false_iff, Bool.or_eq_false_iff, Bool.not_eq_true, Bool.not_eq_eq_eq_not, Bool.not_true, Bool.not_false, Int.not_lt, Int.not_le, ne_eq, Decidable.not_not] at hc13
    obtain rfl : k = 2 := by omega
    refine st_exit ?_
    refine st_then_exit ?_
    refine st_then_exit ?_
    refine st_in_exit ?_
    refine st_then ?_
    refine st_seq ?_
    refine st_drawStart mixed ?_
    refine st_drawSeg1 (E0 := [(2, _), (4, _), (5, _), (6, _)]) [kpeq _, kpeq _, kpeq _, kpeq _, kpeq _, kpeq _, kpeq _, kpeq _] 0 8 [0, 0, 2, 0, 8, 30, 63, 0, 255, 511] [2, 4, 5, 6] (by kernel_rfl) (by decide) (by kernel_rfl) (SubE.cons rfl (SubE.cons rfl (SubE.cons rfl (SubE.cons rfl (SubE.nil _))))) rfl rfl (hall_cons (hop_val [] [] rfl rfl rfl (by decide) rfl (jnil) (xnil) (fun _ _ _ _ => does_v (rv_loadW_blk tyA68 rfl (i := 1) rfl rfl))) (hall_cons (hop_val [] [] rfl rfl rfl (by decide) rfl (jnil) (xnil) (fun _ _ _ _ => does_v (rv_indexA Tryd.underlying75 sz66 rfl rfl (j := 0) rfl (by decide) rfl))) (hall_cons (hop_val [(1, 39, _)] [] rfl rfl rfl (by decide) rfl (jcons rfl rfl rfl rfl rfl (jnil)) (xnil) (fun _ _ _ _ => does_v (rv_load_blk tyS66 rfl (i := 0) rfl (cell64 (by first | omega | (simp [length_gLens, over] <;> omega)))))) (hall_cons (hop_val [] [] rfl rfl rfl (by decide) rfl (jnil) (xnil) (fun _ _ _ _ => does_v (rv_indexA Tryd.underlying75 sz66 rfl rfl (j := 1) rfl (by decide) rfl))) (hall_cons (hop_val [(3, 41, _)] [] rfl rfl rfl (by decide) rfl (jcons rfl rfl rfl rfl rfl (jnil)) (xnil) (fun _ _ _ _ => does_v (rv_load_blk tyS66 rfl (i := 0) rfl (cell64 (by first | omega | (simp [length_gLens, over] <;> omega)))))) (hall_cons (hop_val [(2, 40, _), (4, 42, _)] [] rfl rfl rfl (by decide) rfl (jcons rfl rfl rfl rfl rfl (jcons rfl rfl rfl rfl rfl (jnil))) (xnil) (fun _ _ _ _ => does_v (rv_buildStruct_of Tryd.underlying68 tyZ68 (places := [(0, 1), (1, 1)]) (by kernel_rfl) rfl (cs := #[_, _]) (by rfl)))) (hall_cons (hop_val [(0, 38, _), (5, 43, _)] [] rfl rfl rfl (by decide) rfl (jcons rfl rfl rfl rfl rfl (jcons rfl rfl rfl rfl rfl (jnil))) (xnil) (fun _ _ _ _ => does_call0 cal41 rfl (fun w hM => plus_calls _ (_, _) w))) (hall_cons (hop_val [] [] rfl rfl rfl (by decide) rfl (jnil) (xnil) (fun _ _ _ _ => does_v (rv_loadW_blk tyA68 rfl (i := 3) rfl rfl))) (hall_nil))))))))) (draw_end1 [(6, 44, _), (7, 45, _)] (jcons rfl rfl rfl rfl rfl (jcons rfl rfl rfl rfl rfl (jnil))) ?_)
    refine st_drawTail (N := 8) [0, 0, 2, 0, 8, 30, 63, 0, 255, 511] (by kernel_rfl) (by kernel_rfl) ?_
    refine st_call0 cal42 rfl (fun w hM => times_calls _ _ w) (by decide) ?_
    refine st_store (vs := [_, _]) rfl rfl (i := 2) rfl sz68 rfl (Nat.le_of_ble_eq_true rfl) (all1 rfl) (cs' := #[_, _]) rfl (l' := [_, _, _, _]) rfl ?_
    refine st_nil ?_
    refine st_then ?_
    refine st_ret ?_
    exact st_doneC tyA68 rfl rfl (i := 2) rfl (rfl) (fun w hM => ⟨rfl, hM.sublist (List.nil_sublist _)⟩)
end Go.Proofs.YtpihffpdkfkkhaaDoor
