/- Walks: what functions of the given program do, operation by operation. Written by wip/gen. -/
import Derived.Test.YtpihffpdkfkkhaaDoorWRE
import Derived.Test.YtpihffpdkfkkhaaDoorVQ
import Derived.Test.YtpihffpdkfkkhaaDoorMD
namespace Go.Proofs.YtpihffpdkfkkhaaDoor
set_option linter.all false
open Go
set_option maxRecDepth 20000 in
set_option maxHeartbeats 2000000 in
theorem make_calls (key : List (BitVec 8)) (nk : Nat) (hnk4 : nk = 4 ∨ nk = 8) (hkey : key.length = 4 * nk) (w : World) : Calls Tryd.prog 10 #[vS key] w (fun e w' => ∃ c vk vb vs, e = .returned (pt c 0) ∧ vs.length = 4 * (nk + 7) ∧ Mem (All w) w w' [cipA c 48 vk vb vs (mS key (boxR 256) nk (4 * (nk + 7))) (boxR 256)]) := by
  refine calls_of_st (n := 138) (args := [vS key]) Tryd.func10 rfl Tryd.ntmps10 (Nat.le_of_ble_eq_true rfl) (Mem.all w) ?_
  refine st_seq ?_
  refine st_region ?_
  refine st_v (rv_assign rfl) (by decide) ?_
  refine st_nil ?_
  refine st_then ?_
  refine st_seq ?_
  refine st_region ?_
  refine st_callV cal18 rfl (fun w hM => rbox_calls w) (by decide) (fun v1 => ?_)
  refine St.know (fun w hM => cells_rd ((rd_rd (i := 0) rfl) w hM)) (fun hcl10 => ?_)
  refine st_v (rv_buildStruct_of Tryd.underlying48 tyZ48 (places := [(0, 1), (1, 1)]) (by kernel_rfl) rfl (cs := #[_, _]) (by first | rfl | (simp only [fillL, hcl10] <;> rfl))) (by decide) ?_
  refine st_box rfl (by decide) rfl (fun b2 hb2 => ?_)
  refine st_v (rv_assign rfl) (by decide) ?_
  refine st_nil ?_
  refine st_then ?_
  refine st_seq ?_
  refine st_region ?_
  refine st_v (rv_move rfl) (by decide) ?_
  refine st_v (rv_lenB Tryd.underlying9 rfl) (by decide) ?_
  refine st_v (rv_to (u := vI nk) (rv_quoN (b := 4) rfl rfl (by omega)) (by rw [hkey, Nat.mul_div_cancel_left nk (by decide : 0 < 4)])) (by decide) ?_
  refine st_v (rv_assign rfl) (by decide) ?_
  refine st_nil ?_
  refine st_then ?_
  refine st_seq ?_
  refine st_seq ?_
  refine st_region ?_
  refine st_v (rv_assign rfl) (by decide) ?_
  refine st_nil ?_
  refine st_then ?_
  refine st_block ?_
  refine St.mem ?_ (fun w hM => hM.ownNil 22 1)
  refine St.mem ?_ (fun w hM => hM.allNil)
  refine st_loopA (σ := Nat × Value × List Value) [(0, kst _), (3, kst _), (4, kst _), (5, fun (i, u, vs) => vI i)] [fun (i, u, vs) => rdAll vs (mS key (boxR 256) nk i), fun (i, u, vs) => own u 22 1 i vs, fun (i, u, vs) => blk b2 #[u, v1] 48, kst _] (fun (i, u, vs) => i ≤ 4 * (nk + 7) ∧ vs.length = i) (fun (i, u, vs) => 4 * (nk + 7) - i) (0, nilS, []) (⟨by omega, rfl⟩) (SubE.cons rfl (SubE.cons rfl (SubE.cons rfl (SubE.cons rfl (SubE.nil _))))) (fun _ hM => hM) ?_
  intro ⟨i, u, vs⟩ hI
  try dsimp only at hI
  dsimp only [List.map, kst]
  obtain ⟨hi, hvs⟩ := hI
  refine St.know (fun w hM => rdAll_one (i := 0) rfl hM) (fun hone => ?_)
  have hV : ∀ k, k < i → vs[k]? = some (vs.getD k nilS) := fun k hk => by
    have : k < vs.length := by omega
    simp [this]
  have hW : ∀ k, k < i → (mS key (boxR 256) nk i)[k]? = some ((mS key (boxR 256) nk i).getD k []) := fun k hk => by
    have : k < (mS key (boxR 256) nk i).length := by rw [length_mS]; exact hk
    simp [this]
  refine st_seq ?_
  refine st_seq ?_
  refine st_region ?_
  refine st_v (rv_move rfl) (by decide) ?_
  refine st_v (rv_move rfl) (by decide) ?_
  first | refine st_v (rv_addN (b := 7) rfl rfl (by first | omega | (simp <;> omega))) (by decide) ?_ | refine st_v (rv_addZ rfl rfl (by first | omega | (simp <;> omega))) (by decide) ?_
  first | refine st_v (rv_mulN (a := 4) rfl rfl (by first | omega | (simp <;> omega))) (by decide) ?_ | refine st_v (rv_mulZ rfl rfl (by first | omega | (simp <;> omega))) (by decide) ?_
  refine st_v (rv_lssZ rfl rfl) (by decide) ?_
  refine st_nil ?_
  refine st_then ?_
  refine st_cond rfl (fun hc21 => ?_) (fun hc21 => ?_)
  · -- t21 True
    try simp only [decide_eq_true_eq, decide_eq_false_iff_not, Bool.and_eq_true, Bool.or_eq_true, Bool.and_eq_false_iff, Bool.or_eq_false_iff, Bool.not_eq_true, Bool.not_eq_eq_eq_not, Bool.not_true, Bool.not_false, Int.not_lt, Int.not_le, ne_eq, Decidable.not_not] at hc21
    refine st_skip ?_
    refine st_then ?_
    refine st_seq ?_
    refine st_block ?_
    refine st_seq ?_
    refine st_seq ?_
    refine st_region ?_
    refine st_v (rv_move rfl) (by decide) ?_
    refine st_v (rv_move rfl) (by decide) ?_
    refine st_v (rv_lssZ rfl rfl) (by decide) ?_
    refine st_nil ?_
    refine st_then ?_
    refine st_cond rfl (fun hc26 => ?_) (fun hc26 => ?_)
    · -- t26 True
      try simp only [decide_eq_true_eq, decide_eq_false_iff_not, Bool.and_eq_true, Bool.or_eq_true, Bool.and_eq_false_iff, Bool.or_eq_false_iff, Bool.not_eq_true, Bool.not_eq_eq_eq_not, Bool.not_true, Bool.not_false, Int.not_lt, Int.not_le, ne_eq, Decidable.not_not] at hc26
      refine st_seq ?_
      refine st_drawStart mixed ?_
      refine st_drawSeg (E0 := [(0, _), (3, _), (4, _), (5, _)]) [12, 13, 14] [kpeq _, kpeq _, kpeq _, kpeq _, kpeq _, kpeq _, kpeq _, kpeq _, kpeq _, kpeq _, kpeq _, kpeq _, kany, kany, kany] (phs [12, 13, 14] [[kst _, kst _, kst _, kst _], [kst _, kst _, kst _, kst _, kOwn 0 5 1 _ _], [kst _, kst _, kst _, kst _, kOwn 0 5 1 _ _, kOne 1 22 0], [kst _, kApp1 2 22 _ _ 0, kst _, kst _, kOwn 0 5 1 _ _, kOne 1 22 0]]) 0 15 [0, 0, 2, 6, 14, 0, 0, 64, 0, 256, 768, 2016, 4064, 8160, 16382, 32767, 65535, 131071] [0, 3, 4, 5] (by kernel_rfl) (by decide) (by decide) (by kernel_rfl) rfl rfl (phs_skip _) (SubE.cons rfl (SubE.cons rfl (SubE.cons rfl (SubE.cons rfl (SubE.nil _))))) (fun _ h => h) (hall_cons (hop_valY [] [] [] rfl rfl rfl (by decide) rfl (jnil) (xnil) (ynil) (fun p h1 h2 vals => by
    have h1 : 0 ≤ p := h1
    have h2 : p ≤ 3 := h2
    obtain rfl | rfl | rfl | rfl : p = 0 ∨ p = 1 ∨ p = 2 ∨ p = 3 := by omega
    all_goals exact does_v (rv_move rfl))) (hall_cons (hop_valY [] [] [] rfl rfl rfl (by decide) rfl (jnil) (xnil) (ynil) (fun p h1 h2 vals => by
    have h1 : 0 ≤ p := h1
    have h2 : p ≤ 2 := h2
    obtain rfl | rfl | rfl : p = 0 ∨ p = 1 ∨ p = 2 := by omega
    all_goals exact does_v (rv_move rfl))) (hall_cons (hop_valY [(1, 28, _)] [] [] rfl rfl rfl (by decide) rfl (jcons rfl rfl rfl rfl rfl (jnil)) (xnil) (ynil) (fun p h1 h2 vals => by
    have h1 : 0 ≤ p := h1
    have h2 : p ≤ 2 := h2
    obtain rfl | rfl | rfl : p = 0 ∨ p = 1 ∨ p = 2 := by omega
    all_goals exact does_v (rv_nilCheck rfl))) (hall_cons (hop_valY [(2, 29, _)] [] [] rfl rfl rfl (by decide) rfl (jcons rfl rfl rfl rfl rfl (jnil)) (xnil) (ynil) (fun p h1 h2 vals => by
    have h1 : 0 ≤ p := h1
    have h2 : p ≤ 2 := h2
    obtain rfl | rfl | rfl : p = 0 ∨ p = 1 ∨ p = 2 := by omega
    all_goals exact does_v (rv_fieldAddr Tryd.underlying48 (fs := _) rfl sz46 rfl rfl))) (hall_cons (hop_valY [(3, 30, _)] [] [] rfl rfl rfl (by decide) rfl (jcons rfl rfl rfl rfl rfl (jnil)) (xnil) (ynil) (fun p h1 h2 vals => by
    have h1 : 0 ≤ p := h1
    have h2 : p ≤ 2 := h2
    obtain rfl | rfl | rfl : p = 0 ∨ p = 1 ∨ p = 2 := by omega
    all_goals exact does_v (rv_load_blk tyS46 rfl (i := 2) rfl rfl))) (hall_cons (hop_valY [] [] [] rfl rfl rfl (by decide) rfl (jnil) (xnil) (ynil) (fun p h1 h2 vals => by obtain rfl : p = 0 := Nat.le_antisymm h2 h1; exact does_v (rv_move rfl))) (hall_cons (hop_valY [] [] [] rfl rfl rfl (by decide) rfl (jnil) (xnil) (ynil) (fun p h1 h2 vals => by obtain rfl : p = 0 := Nat.le_antisymm h2 h1; exact does_v (rv_move rfl))) (hall_cons (hop_valY [(6, 33, _)] [] [] rfl rfl rfl (by decide) rfl (jcons rfl rfl rfl rfl rfl (jnil)) (xnil) (ynil) (fun p h1 h2 vals => by obtain rfl : p = 0 := Nat.le_antisymm h2 h1; exact does_v (rv_mulN (a := 4) rfl rfl (by first | omega | (simp <;> omega))))) (hall_cons (hop_valY [] [] [] rfl rfl rfl (by decide) rfl (jnil) (xnil) (ynil) (fun p h1 h2 vals => by obtain rfl : p = 0 := Nat.le_antisymm h2 h1; exact does_v (rv_move rfl))) (hall_cons (hop_valY [(8, 35, _)] [] [] rfl rfl rfl (by decide) rfl (jcons rfl rfl rfl rfl rfl (jnil)) (xnil) (ynil) (fun p h1 h2 vals => by obtain rfl : p = 0 := Nat.le_antisymm h2 h1; exact does_v (rv_mulN (a := 4) rfl rfl (by first | omega | (simp <;> omega))))) (hall_cons (hop_valY [(9, 36, _)] [] [] rfl rfl rfl (by decide) rfl (jcons rfl rfl rfl rfl rfl (jnil)) (xnil) (ynil) (fun p h1 h2 vals => by obtain rfl : p = 0 := Nat.le_antisymm h2 h1; exact does_v (rv_addN (b := 4) rfl rfl (by first | omega | (simp <;> omega))))) (hall_cons (hop_valY [(5, 32, _), (7, 34, _), (10, 37, _)] [] [] rfl rfl rfl (by decide) rfl (jcons rfl rfl rfl rfl rfl (jcons rfl rfl rfl rfl rfl (jcons rfl rfl rfl rfl rfl (jnil)))) (xnil) (ynil) (fun p h1 h2 vals => by obtain rfl : p = 0 := Nat.le_antisymm h2 h1; exact does_v (rv_sliceB Tryd.underlying9 rfl (evB_some rfl rfl) (evB_some rfl rfl) (by first | omega | (simp [length_eachR, length_xorA, turnW] <;> omega)) (by first | omega | (simp [length_eachR, length_xorA, turnW] <;> omega))))) (hall_cons (hop_mem [(11, 38, _)] [] [] rfl rfl rfl (fun d h => by cases h; decide) (⟨fun _ => rfl, ⟨fun _ => rfl, ⟨fun _ => rfl, ⟨fun _ => rfl, ⟨fun _ => rfl, ⟨fun _ => rfl, ⟨fun _ => rfl, ⟨fun _ => rfl, ⟨fun _ => rfl, ⟨fun _ => rfl, ⟨fun _ => rfl, ⟨fun _ => rfl, ⟨fun _ => rfl, ⟨fun _ => rfl, ⟨fun _ => rfl, trivial⟩⟩⟩⟩⟩⟩⟩⟩⟩⟩⟩⟩⟩⟩⟩) (jcons rfl rfl rfl rfl rfl (jnil)) (xnil) (ynil) (fun vals => dm_bytes Tryd.underlying9 Tryd.underlying22 Tryd.underlying5 rfl (fun v => rfl))) (hall_cons (hop_mem [] [] [(12, 39)] rfl rfl rfl (fun d h => by cases h; decide) (⟨fun _ => rfl, ⟨fun _ => rfl, ⟨fun _ => rfl, ⟨fun _ => rfl, ⟨fun _ => rfl, ⟨fun _ => rfl, ⟨fun _ => rfl, ⟨fun _ => rfl, ⟨fun _ => rfl, ⟨fun _ => rfl, ⟨fun _ => rfl, ⟨fun _ => rfl, ⟨fun _ => rfl, ⟨fun _ => rfl, ⟨fun _ => rfl, trivial⟩⟩⟩⟩⟩⟩⟩⟩⟩⟩⟩⟩⟩⟩⟩) (jnil) (xnil) (ycons rfl rfl rfl (ynil)) (fun vals => dm_build1 Tryd.underlying46 tyZ22 rfl rfl (fun w F hM => ownCellsF (i := 4) rfl hM) (fun v => rfl))) (hall_cons (hop_mem [(4, 31, _)] [] [(13, 40)] rfl rfl rfl (fun d h => by cases h; decide) (⟨fun _ => rfl, ⟨fun _ => rfl, ⟨fun _ => rfl, ⟨fun _ => rfl, ⟨fun _ => rfl, ⟨fun _ => rfl, ⟨fun _ => rfl, ⟨fun _ => rfl, ⟨fun _ => rfl, ⟨fun _ => rfl, ⟨fun _ => rfl, ⟨fun _ => rfl, ⟨fun _ => rfl, ⟨fun _ => rfl, ⟨fun _ => rfl, trivial⟩⟩⟩⟩⟩⟩⟩⟩⟩⟩⟩⟩⟩⟩⟩) (jcons rfl rfl rfl rfl rfl (jnil)) (xnil) (ycons rfl rfl rfl (ynil)) (fun vals => dm_append Tryd.underlying46 Tryd.underlying46 (.inr ⟨_, rfl⟩) tyZ22 rfl rfl rfl (i := 1) rfl (hone) (fun w F hM => src_rd ((rd_own (i := 5) rfl) w hM) (one1 (ownOneF (i := 4) rfl hM))) (by first | omega | (simp [length_xorA] <;> omega)) (by first | omega | (simp [length_xorA] <;> omega)) (fun v => rfl))) (hall_nil)))))))))))))))) (draw_endY [(0, 27, _)] [] [(12, 39), (13, 40), (14, 41)] rfl (jcons rfl rfl rfl rfl rfl (jnil)) (xnil) (ycons rfl rfl rfl (ycons rfl rfl rfl (ycons rfl rfl rfl (ynil)))) (fun vals => ?_))
      refine St.conv (E' := [(39, vals 12), (40, vals 13), (41, vals 14), (27, _), (0, _), (3, _), (4, _), (5, _)]) (l1 := [_, own (vals 14) 22 1 _ (_ ++ [vals 12]), _, _, own (vals 12) 5 1 _ _, own (vals 13) 22 1 1 [vals 12]]) rfl rfl ?_
      try dsimp only [kst]
      try generalize vals 12 = v3
      try generalize vals 13 = v4
      try generalize vals 14 = vw
      refine st_drawTail (N := 15) [0, 0, 2, 6, 14, 0, 0, 64, 0, 256, 768, 2016, 4064, 8160, 16382, 32767, 65535, 131071] (by kernel_rfl) (by kernel_rfl) ?_
      refine st_v (rv_nilCheck rfl) (by decide) ?_
      refine st_v (rv_fieldAddr Tryd.underlying48 (fs := _) rfl sz46 rfl rfl) (by decide) ?_
      refine St.know (fun w hM => And.intro (ownCells (i := 1) rfl hM) (ownOne (i := 1) rfl hM)) (fun hst80 => ?_)
      refine st_store (vs := [_]) rfl rfl (i := 2) rfl sz46 hst80.1 (Nat.le_of_ble_eq_true rfl) (one1 hst80.2) (cs' := #[_, _]) rfl (l' := [_, _, _, _, _, _]) rfl ?_
      refine st_nil ?_
      refine st_then ?_
      refine st_exit ?_
      refine st_then_exit ?_
      refine st_in_exit ?_
      refine st_then ?_
      refine st_region ?_
      refine st_v (rv_move rfl) (by decide) ?_
      first | refine st_v (rv_addN (b := 1) rfl rfl (by first | omega | (simp <;> omega))) (by decide) ?_ | refine st_v (rv_addZ rfl rfl (by first | omega | (simp <;> omega))) (by decide) ?_
      refine st_v (rv_assign rfl) (by decide) ?_
      refine st_nil ?_
      refine st_then ?_
      exact st_again (i + 1, vw, vs ++ [v3]) (⟨by omega, by simp [hvs]⟩) (by omega) (SubE.cons rfl (SubE.cons rfl (SubE.cons rfl (SubE.cons rfl (SubE.nil _))))) (by intro w hM; have hM := hM.allPush (k := 4) (i := 0) rfl (by simp <;> omega) rfl; have hM := hM.sublist (List.Sublist.cons_cons _ (List.Sublist.cons_cons _ (List.Sublist.cons_cons _ (List.Sublist.cons_cons _ (List.Sublist.cons _ (List.Sublist.slnil)))))); rw [mS, mW, if_pos (by omega)]; exact hM)
    · -- t26 False
      try simp only [decide_eq_true_eq, decide_eq_false_iff_not, Bool.and_eq_true, Bool.or_eq_true, Bool.and_eq_false_iff, Bool.or_eq_false_iff, Bool.not_eq_true, Bool.not_eq_eq_eq_not, Bool.not_true, Bool.not_false, Int.not_lt, Int.not_le, ne_eq, Decidable.not_not] at hc26
      have hT4 : ((mS key (boxR 256) nk i).getD (i - 1) []).length = 4 := mS_getD4 hkey (by omega)
      have hP4 : ((mS key (boxR 256) nk i).getD (i - nk) []).length = 4 := mS_getD4 hkey (by omega)
      refine st_skip ?_
      refine st_then ?_
      refine st_seq ?_
      refine st_region ?_
      refine st_v (rv_move rfl) (by decide) ?_
      refine st_v (rv_nilCheck rfl) (by decide) ?_
      refine st_v (rv_fieldAddr Tryd.underlying48 (fs := _) rfl sz46 rfl rfl) (by decide) ?_
      refine st_v (rv_load_blk tyS46 rfl (i := 2) rfl rfl) (by decide) ?_
      refine st_v (rv_move rfl) (by decide) ?_
      first | refine st_v (rv_subN (b := 1) rfl rfl (by first | omega | (simp <;> omega))) (by decide) ?_ | refine st_v (rv_subZ rfl rfl (by first | omega | (simp <;> omega))) (by decide) ?_
      refine st_v (rv_indexR1 (rd_own (i := 1) rfl) Tryd.underlying46 sz22 rfl rfl rfl (by first | omega | (simp [length_eachR, length_xorA, turnW] <;> omega))) (by decide) ?_
      refine st_v (rv_load_rd (rd_own (i := 1) rfl) tyS22 rfl (hV (i - 1) (by omega))) (by decide) ?_
      refine st_v (rv_assign rfl) (by decide) ?_
      refine st_nil ?_
      refine st_then ?_
      refine st_cutB (σ := Value) [(0, _), (3, _), (4, _), (5, _)] [_, _, _, _] (SubE.cons rfl (SubE.cons rfl (SubE.cons rfl (SubE.cons rfl (SubE.nil _))))) (fun w hM => hM.sublist (List.Sublist.cons_cons _ (List.Sublist.cons_cons _ (List.Sublist.cons_cons _ (List.Sublist.cons_cons _ (List.Sublist.slnil)))))) [(6, fun x => x)] [fun x => rdA x 4 1 ((mT (boxR 256) nk i ((mS key (boxR 256) nk i).getD (i - 1) [])).map U8)] (fun x => True) ?_ ?_
      · -- up to the cut
        refine st_seq ?_
        refine st_region ?_
        refine st_v (rv_move rfl) (by decide) ?_
        refine st_v (rv_move rfl) (by decide) ?_
        refine st_v (rv_remN rfl rfl (by first | omega | (simp <;> omega))) (by decide) ?_
        refine st_v (rv_eqlZ rfl rfl) (by decide) ?_
        refine st_nil ?_
        refine st_then ?_
        refine st_cond rfl (fun hc55 => ?_) (fun hc55 => ?_)
        · -- t55 True
          try simp only [decide_eq_true_eq, decide_eq_false_iff_not, Bool.and_eq_true, Bool.or_eq_true, Bool.and_eq_false_iff, Bool.or_eq_false_iff, Bool.not_eq_true, Bool.not_eq_eq_eq_not, Bool.not_true, Bool.not_false, Int.not_lt, Int.not_le, ne_eq, Decidable.not_not] at hc55
          have hm : i % nk = 0 := by exact_mod_cast hc55
          refine st_seq ?_
          refine st_drawStart mixed ?_
          refine st_drawSeg (E0 := [(0, _), (3, _), (4, _), (5, _), (6, _)]) [12] [kpeq _, kpeq _, kpeq _, kpeq _, kpeq _, kpeq _, kpeq _, kpeq _, kpeq _, kpeq _, kpeq _, kpeq _, kany, kpeq _, kpeq _, kpeq _, kpeq _] (phs [12] [[kst _, kst _, kst _, kst _], [kst _, kst _, kst _, kst _, kOwn 0 5 1 4 (([_, _, _, _] : List (BitVec 8)).map U8)]]) 0 17 [0, 1, 3, 0, 8, 24, 0, 64, 192, 0, 512, 1536, 4095, 0, 8192, 24576, 57344, 131071, 262143] [0, 3, 4, 5, 6] (by kernel_rfl) (by decide) (by decide) (by kernel_rfl) rfl rfl (phs_skip _) (SubE.cons rfl (SubE.cons rfl (SubE.cons rfl (SubE.cons rfl (SubE.cons rfl (SubE.nil _)))))) (fun _ h => h) (hall_cons (hop_valY [] [] [] rfl rfl rfl (by decide) rfl (jnil) (xnil) (ynil) (fun p h1 h2 vals => by obtain rfl : p = 0 := Nat.le_antisymm h2 h1; exact does_v (rv_move rfl))) (hall_cons (hop_valY [(0, 56, _)] [] [] rfl rfl rfl (by decide) rfl (jcons rfl rfl rfl rfl rfl (jnil)) (xnil) (ynil) (fun p h1 h2 vals => by obtain rfl : p = 0 := Nat.le_antisymm h2 h1; exact does_v (rv_indexR1 (rdAll_get' (i := 0) rfl (hV (i - 1) (by omega)) (hW (i - 1) (by omega)) (mS_getD4 hkey (by omega))) Tryd.underlying22 sz5 rfl rfl (j := 1) rfl (by first | omega | (simp [length_eachR, length_xorA, turnW] <;> omega))))) (hall_cons (hop_valY [(1, 57, _)] [] [] rfl rfl rfl (by decide) rfl (jcons rfl rfl rfl rfl rfl (jnil)) (xnil) (ynil) (fun p h1 h2 vals => by obtain rfl : p = 0 := Nat.le_antisymm h2 h1; exact does_v (rv_load_rd (rdAll_get' (i := 0) rfl (hV (i - 1) (by omega)) (hW (i - 1) (by omega)) (mS_getD4 hkey (by omega))) tyS5 rfl (get8 (by first | omega | (simp [length_eachR, length_xorA, turnW] <;> omega)))))) (hall_cons (hop_valY [] [] [] rfl rfl rfl (by decide) rfl (jnil) (xnil) (ynil) (fun p h1 h2 vals => by obtain rfl : p = 0 := Nat.le_antisymm h2 h1; exact does_v (rv_move rfl))) (hall_cons (hop_valY [(3, 59, _)] [] [] rfl rfl rfl (by decide) rfl (jcons rfl rfl rfl rfl rfl (jnil)) (xnil) (ynil) (fun p h1 h2 vals => by obtain rfl : p = 0 := Nat.le_antisymm h2 h1; exact does_v (rv_indexR1 (rdAll_get' (i := 0) rfl (hV (i - 1) (by omega)) (hW (i - 1) (by omega)) (mS_getD4 hkey (by omega))) Tryd.underlying22 sz5 rfl rfl (j := 2) rfl (by first | omega | (simp [length_eachR, length_xorA, turnW] <;> omega))))) (hall_cons (hop_valY [(4, 60, _)] [] [] rfl rfl rfl (by decide) rfl (jcons rfl rfl rfl rfl rfl (jnil)) (xnil) (ynil) (fun p h1 h2 vals => by obtain rfl : p = 0 := Nat.le_antisymm h2 h1; exact does_v (rv_load_rd (rdAll_get' (i := 0) rfl (hV (i - 1) (by omega)) (hW (i - 1) (by omega)) (mS_getD4 hkey (by omega))) tyS5 rfl (get8 (by first | omega | (simp [length_eachR, length_xorA, turnW] <;> omega)))))) (hall_cons (hop_valY [] [] [] rfl rfl rfl (by decide) rfl (jnil) (xnil) (ynil) (fun p h1 h2 vals => by obtain rfl : p = 0 := Nat.le_antisymm h2 h1; exact does_v (rv_move rfl))) (hall_cons (hop_valY [(6, 62, _)] [] [] rfl rfl rfl (by decide) rfl (jcons rfl rfl rfl rfl rfl (jnil)) (xnil) (ynil) (fun p h1 h2 vals => by obtain rfl : p = 0 := Nat.le_antisymm h2 h1; exact does_v (rv_indexR1 (rdAll_get' (i := 0) rfl (hV (i - 1) (by omega)) (hW (i - 1) (by omega)) (mS_getD4 hkey (by omega))) Tryd.underlying22 sz5 rfl rfl (j := 3) rfl (by first | omega | (simp [length_eachR, length_xorA, turnW] <;> omega))))) (hall_cons (hop_valY [(7, 63, _)] [] [] rfl rfl rfl (by decide) rfl (jcons rfl rfl rfl rfl rfl (jnil)) (xnil) (ynil) (fun p h1 h2 vals => by obtain rfl : p = 0 := Nat.le_antisymm h2 h1; exact does_v (rv_load_rd (rdAll_get' (i := 0) rfl (hV (i - 1) (by omega)) (hW (i - 1) (by omega)) (mS_getD4 hkey (by omega))) tyS5 rfl (get8 (by first | omega | (simp [length_eachR, length_xorA, turnW] <;> omega)))))) (hall_cons (hop_valY [] [] [] rfl rfl rfl (by decide) rfl (jnil) (xnil) (ynil) (fun p h1 h2 vals => by obtain rfl : p = 0 := Nat.le_antisymm h2 h1; exact does_v (rv_move rfl))) (hall_cons (hop_valY [(9, 65, _)] [] [] rfl rfl rfl (by decide) rfl (jcons rfl rfl rfl rfl rfl (jnil)) (xnil) (ynil) (fun p h1 h2 vals => by obtain rfl : p = 0 := Nat.le_antisymm h2 h1; exact does_v (rv_indexR1 (rdAll_get' (i := 0) rfl (hV (i - 1) (by omega)) (hW (i - 1) (by omega)) (mS_getD4 hkey (by omega))) Tryd.underlying22 sz5 rfl rfl (j := 0) rfl (by first | omega | (simp [length_eachR, length_xorA, turnW] <;> omega))))) (hall_cons (hop_valY [(10, 66, _)] [] [] rfl rfl rfl (by decide) rfl (jcons rfl rfl rfl rfl rfl (jnil)) (xnil) (ynil) (fun p h1 h2 vals => by obtain rfl : p = 0 := Nat.le_antisymm h2 h1; exact does_v (rv_load_rd (rdAll_get' (i := 0) rfl (hV (i - 1) (by omega)) (hW (i - 1) (by omega)) (mS_getD4 hkey (by omega))) tyS5 rfl (get8 (by first | omega | (simp [length_eachR, length_xorA, turnW] <;> omega)))))) (hall_cons (hop_mem [(2, 58, _), (5, 61, _), (8, 64, _), (11, 67, _)] [] [] rfl rfl rfl (fun d h => by cases h; decide) (⟨fun _ => rfl, ⟨fun _ => rfl, ⟨fun _ => rfl, ⟨fun _ => rfl, ⟨fun _ => rfl, ⟨fun _ => rfl, ⟨fun _ => rfl, ⟨fun _ => rfl, ⟨fun _ => rfl, ⟨fun _ => rfl, ⟨fun _ => rfl, ⟨fun _ => rfl, ⟨fun _ => rfl, ⟨fun _ => rfl, ⟨fun _ => rfl, ⟨fun _ => rfl, ⟨fun _ => rfl, trivial⟩⟩⟩⟩⟩⟩⟩⟩⟩⟩⟩⟩⟩⟩⟩⟩⟩) (jcons rfl rfl rfl rfl rfl (jcons rfl rfl rfl rfl rfl (jcons rfl rfl rfl rfl rfl (jcons rfl rfl rfl rfl rfl (jnil))))) (xnil) (ynil) (fun vals => dm_build Tryd.underlying22 tyZ5 rfl rfl (by decide) (cs := #[_, _, _, _]) rfl rfl (fun v => rfl))) (hall_cons (hop_valY [] [] [] rfl rfl rfl (by decide) rfl (jnil) (xnil) (ynil) (fun p h1 h2 vals => by
    have h1 : 0 ≤ p := h1
    have h2 : p ≤ 1 := h2
    obtain rfl | rfl : p = 0 ∨ p = 1 := by omega
    all_goals exact does_v (rv_move rfl))) (hall_cons (hop_valY [(13, 69, _)] [] [] rfl rfl rfl (by decide) rfl (jcons rfl rfl rfl rfl rfl (jnil)) (xnil) (ynil) (fun p h1 h2 vals => by
    have h1 : 0 ≤ p := h1
    have h2 : p ≤ 1 := h2
    obtain rfl | rfl : p = 0 ∨ p = 1 := by omega
    all_goals exact does_v (rv_nilCheck rfl))) (hall_cons (hop_valY [(14, 70, _)] [] [] rfl rfl rfl (by decide) rfl (jcons rfl rfl rfl rfl rfl (jnil)) (xnil) (ynil) (fun p h1 h2 vals => by
    have h1 : 0 ≤ p := h1
    have h2 : p ≤ 1 := h2
    obtain rfl | rfl : p = 0 ∨ p = 1 := by omega
    all_goals exact does_v (rv_fieldAddr Tryd.underlying48 (fs := _) rfl sz22 rfl rfl))) (hall_cons (hop_valY [(15, 71, _)] [] [] rfl rfl rfl (by decide) rfl (jcons rfl rfl rfl rfl rfl (jnil)) (xnil) (ynil) (fun p h1 h2 vals => by
    have h1 : 0 ≤ p := h1
    have h2 : p ≤ 1 := h2
    obtain rfl | rfl : p = 0 ∨ p = 1 := by omega
    all_goals exact does_v (rv_load_blk tyS22 rfl (i := 2) rfl rfl))) (hall_nil)))))))))))))))))) (draw_endY [(16, 72, _)] [] [(12, 68)] rfl (jcons rfl rfl rfl rfl rfl (jnil)) (xnil) (ycons rfl rfl rfl (ynil)) (fun vals => ?_))
          refine St.conv (E' := [(68, vals 12), (72, _), (0, _), (3, _), (4, _), (5, _), (6, _)]) (l1 := [_, _, _, _, own (vals 12) 5 1 4 (([_, _, _, _] : List (BitVec 8)).map U8)]) rfl rfl ?_
          try dsimp only [kst]
          try generalize vals 12 = v7
          refine st_drawTail (N := 17) [0, 1, 3, 0, 8, 24, 0, 64, 192, 0, 512, 1536, 4095, 0, 8192, 24576, 57344, 131071, 262143] (by kernel_rfl) (by kernel_rfl) ?_
          refine st_callV cal19 rfl (fun w hM => each4_calls _ _ (turnW ((mS key (boxR 256) nk i).getD (i - 1) [])) (boxR 256) rfl (length_boxR 256) w ((rd_own (i := 4) rfl) w hM) ((rd_rd (i := 3) rfl) w hM)) (by decide) (fun v8 => ?_)
          refine st_v (rv_assign rfl) (by decide) ?_
          refine st_nil ?_
          refine st_then ?_
          refine st_seq ?_
          refine st_region ?_
          refine st_v (rv_assign rfl) (by decide) ?_
          refine st_nil ?_
          refine st_then ?_
          refine st_seq ?_
          refine st_seq ?_
          refine st_region ?_
          refine st_v (rv_assign rfl) (by decide) ?_
          refine st_nil ?_
          refine st_then ?_
          refine st_block ?_
          refine st_loopA (σ := Nat) [(0, kst _), (3, kst _), (4, kst _), (5, kst _), (6, kst _), (7, fun k => U8 (rconR k)), (8, fun k => vI (k + 1 : Nat))] [kst _, kst _, kst _, kst _, kst _, kst _] (fun k => k ≤ i / nk - 1) (fun k => i / nk - 1 - k) 0 (by omega) (SubE.cons rfl (SubE.cons rfl (SubE.cons rfl (SubE.cons rfl (SubE.cons rfl (SubE.cons rfl (SubE.cons rfl (SubE.nil _)))))))) (fun _ hM => hM) ?_
          intro k hI
          try dsimp only at hI
          dsimp only [List.map, kst]
          have hq : i / nk ≤ i := Nat.div_le_self i nk
          refine st_seq ?_
          refine st_seq ?_
          refine st_region ?_
          refine st_v (rv_move rfl) (by decide) ?_
          refine st_v (rv_move rfl) (by decide) ?_
          refine st_v (rv_move rfl) (by decide) ?_
          refine st_v (rv_quoN rfl rfl (by first | omega | (simp <;> omega))) (by decide) ?_
          refine st_v (rv_lssZ rfl rfl) (by decide) ?_
          refine st_nil ?_
          refine st_then ?_
          refine st_cond rfl (fun hc78 => ?_) (fun hc78 => ?_)
          · -- t78 True
            try simp only [decide_eq_true_eq, decide_eq_false_iff_not, Bool.and_eq_true, Bool.or_eq_true, Bool.and_eq_false_iff, Bool.or_eq_false_iff, Bool.not_eq_true, Bool.not_eq_eq_eq_not, Bool.not_true, Bool.not_false, Int.not_lt, Int.not_le, ne_eq, Decidable.not_not] at hc78
            refine st_skip ?_
            refine st_then ?_
            refine st_seq ?_
            refine st_block ?_
            refine st_region ?_
            refine st_v (rv_move rfl) (by decide) ?_
            refine st_call0 cal20 rfl (fun w hM => prod_calls _ 2#8 w) (by decide) ?_
            refine st_v (rv_assign rfl) (by decide) ?_
            refine st_nil ?_
            refine st_in_normal ?_
            refine st_then ?_
            refine st_region ?_
            refine st_v (rv_move rfl) (by decide) ?_
            first | refine st_v (rv_addN (b := 1) rfl rfl (by first | omega | (simp <;> omega))) (by decide) ?_ | refine st_v (rv_addZ rfl rfl (by first | omega | (simp <;> omega))) (by decide) ?_
            refine st_v (rv_assign rfl) (by decide) ?_
            refine st_nil ?_
            refine st_then ?_
            exact st_again (k + 1) (by omega) (by omega) (SubE.cons rfl (SubE.cons rfl (SubE.cons rfl (SubE.cons rfl (SubE.cons rfl (SubE.cons rfl (SubE.cons rfl (SubE.nil _)))))))) (fun _ hM => hM)
          · -- t78 False
            try simp only [decide_eq_true_eq, decide_eq_false_iff_not, Bool.and_eq_true, Bool.or_eq_true, Bool.and_eq_false_iff, Bool.or_eq_false_iff, Bool.not_eq_true, Bool.not_eq_eq_eq_not, Bool.not_true, Bool.not_false, Int.not_lt, Int.not_le, ne_eq, Decidable.not_not] at hc78
            obtain rfl : k = i / nk - 1 := by omega
            refine st_exit ?_
            refine st_then_exit ?_
            refine st_then_exit ?_
            refine st_in_exit ?_
            refine st_then ?_
            refine st_region ?_
            refine st_v (rv_move rfl) (by decide) ?_
            refine st_v (rv_move rfl) (by decide) ?_
            refine st_v (rv_indexR1 (rd_own (i := 0) rfl) Tryd.underlying22 sz5 rfl rfl (j := 0) rfl (by first | omega | (simp [length_eachR, length_xorA, turnW] <;> omega))) (by decide) ?_
            refine st_v (rv_load_rd (rd_own (i := 0) rfl) tyS5 rfl (get8 (by first | omega | (simp [length_eachR, length_xorA, turnW] <;> omega)))) (by decide) ?_
            refine st_v (rv_move rfl) (by decide) ?_
            refine st_v (rv_xor8 rfl rfl) (by decide) ?_
            refine st_v (rv_indexR1 (rd_own (i := 0) rfl) Tryd.underlying22 sz5 rfl rfl (j := 0) rfl (by first | omega | (simp [length_eachR, length_xorA, turnW] <;> omega))) (by decide) ?_
            refine st_storeOwn8 rfl rfl (i := 0) rfl sz5 (by first | omega | (simp [length_eachR, length_xorA, turnW] <;> omega)) rfl ?_
            refine st_nil ?_
            refine st_then ?_
            exact st_meet _ (trivial) (SubE.cons rfl (SubE.cons rfl (SubE.cons rfl (SubE.cons rfl (SubE.cons rfl (SubE.nil _)))))) (by intro w hM; have hM := hM.toRd (i := 0) rfl; have hM := hM.front (i := 0) rfl; have hM := hM.sublist (List.Sublist.cons_cons _ (List.Sublist.cons_cons _ (List.Sublist.cons_cons _ (List.Sublist.cons_cons _ (List.Sublist.cons_cons _ (List.Sublist.cons _ (List.Sublist.slnil))))))); first | (rw [mT, if_pos hm]; exact hM) | (rw [mT, if_neg hm, if_pos h8]; exact hM))
        · -- t55 False
          try simp only [decide_eq_true_eq, decide_eq_false_iff_not, Bool.and_eq_true, Bool.or_eq_true, Bool.and_eq_false_iff, Bool.or_eq_false_iff, Bool.not_eq_true, Bool.not_eq_eq_eq_not, Bool.not_true, Bool.not_false, Int.not_lt, Int.not_le, ne_eq, Decidable.not_not] at hc55
          have hm : ¬ i % nk = 0 := by exact_mod_cast hc55
          refine st_seq ?_
          refine st_region ?_
          refine st_v (rv_move rfl) (by decide) ?_
          refine st_v (rv_eqlZ rfl rfl) (by decide) ?_
          refine st_v (rv_move rfl) (by decide) ?_
          refine' st_and 4 (L := _) (s := 92) (d := 96) [0, 3, 4, 5, 6] rfl (fun hg3 => ?_) (fun _ => ?_) ?_; rotate_left
          · -- true
            try simp only [decide_eq_true_eq, decide_eq_false_iff_not, Bool.and_eq_true, Bool.not_eq_true] at hg3
            refine st_gon rfl rfl ?_
            refine st_v (rv_move rfl) (by decide) ?_
            refine st_gon rfl rfl ?_
            refine st_v (rv_remN (b := 8) rfl rfl (by first | omega | (simp <;> omega))) (by decide) ?_
            refine st_gon rfl rfl ?_
            refine st_v (rv_eqlZ rfl rfl) (by decide) ?_
            first | refine st_v (rv_pick_true rfl rfl) (by decide) ?_ | refine st_v (rv_pick_false rfl rfl) (by decide) ?_ | refine st_v (rv_pick rfl rfl rfl) (by decide) ?_
            refine st_nil ?_
            exact st_meet_b (SubE.cons rfl (SubE.cons rfl (SubE.cons rfl (SubE.cons rfl (SubE.cons rfl (SubE.cons rfl (SubE.nil _)))))))
          · -- false
            refine st_gskip rfl rfl rfl (by decide) ?_
            refine st_gskip rfl rfl rfl (by decide) ?_
            refine st_gskip rfl rfl rfl (by decide) ?_
            first | refine st_v (rv_pick_true rfl rfl) (by decide) ?_ | refine st_v (rv_pick_false rfl rfl) (by decide) ?_ | refine st_v (rv_pick rfl rfl rfl) (by decide) ?_
            refine st_nil ?_
            exact st_meet_b (SubE.cons rfl (SubE.cons rfl (SubE.cons rfl (SubE.cons rfl (SubE.cons rfl (SubE.cons rfl (SubE.nil _)))))))
          refine st_nil ?_
          refine st_then ?_
          refine st_cond rfl (fun hc96 => ?_) (fun hc96 => ?_)
          · -- t96 True
            try simp only [decide_eq_true_eq, decide_eq_false_iff_not, Bool.and_eq_true, Bool.or_eq_true, Bool.and_eq_false_iff, Bool.or_eq_false_iff, Bool.not_eq_true, Bool.not_eq_eq_eq_not, Bool.not_true, Bool.not_false, Int.not_lt, Int.not_le, ne_eq, Decidable.not_not] at hc96
            have h8 : nk = 8 ∧ i % 8 = 4 := by omega
            refine st_region ?_
            refine st_v (rv_move rfl) (by decide) ?_
            refine st_v (rv_move rfl) (by decide) ?_
            refine st_v (rv_nilCheck rfl) (by decide) ?_
            refine st_v (rv_fieldAddr Tryd.underlying48 (fs := _) rfl sz22 rfl rfl) (by decide) ?_
            refine st_v (rv_load_blk tyS22 rfl (i := 2) rfl rfl) (by decide) ?_
            refine st_callV cal19 rfl (fun w hM => each4_calls _ _ ((mS key (boxR 256) nk i).getD (i - 1) []) (boxR 256) hT4 (length_boxR 256) w ((rdAll_get' (i := 0) rfl (hV (i - 1) (by omega)) (hW (i - 1) (by omega)) (mS_getD4 hkey (by omega))) w hM) ((rd_rd (i := 3) rfl) w hM)) (by decide) (fun v9 => ?_)
            refine st_v (rv_assign rfl) (by decide) ?_
            refine st_nil ?_
            refine st_then ?_
            exact st_meet _ (trivial) (SubE.cons rfl (SubE.cons rfl (SubE.cons rfl (SubE.cons rfl (SubE.cons rfl (SubE.nil _)))))) (by intro w hM; have hM := hM.toRd (i := 0) rfl; have hM := hM.front (i := 0) rfl; have hM := hM.sublist (List.Sublist.cons_cons _ (List.Sublist.cons_cons _ (List.Sublist.cons_cons _ (List.Sublist.cons_cons _ (List.Sublist.cons_cons _ (List.Sublist.slnil)))))); first | (rw [mT, if_pos hm]; exact hM) | (rw [mT, if_neg hm, if_pos h8]; exact hM))
          · -- t96 False
            try simp only [decide_eq_true_eq, decide_eq_false_iff_not, Bool.and_eq_true, Bool.or_eq_true, Bool.and_eq_false_iff, Bool.or_eq_false_iff, Bool.not_eq_true, Bool.not_eq_eq_eq_not, Bool.not_true, Bool.not_false, Int.not_lt, Int.not_le, ne_eq, Decidable.not_not] at hc96
            have h8 : ¬ (nk = 8 ∧ i % 8 = 4) := by omega
            refine st_skip ?_
            refine st_then ?_
            exact st_meet (vs.getD (i - 1) nilS) (trivial) (SubE.cons rfl (SubE.cons rfl (SubE.cons rfl (SubE.cons rfl (SubE.cons rfl (SubE.nil _)))))) (by intro w hM; have hM := hM.dupAll (i := 0) rfl (hV (i - 1) (by omega)) (hW (i - 1) (by omega)) (mS_getD4 hkey (by omega)); rw [mT, if_neg hm, if_neg h8]; exact hM)
      · -- behind the cut
        intro x hI
        try dsimp only at hI
        dsimp only [List.map, List.cons_append, List.nil_append]
        have hM4 : (mT (boxR 256) nk i ((mS key (boxR 256) nk i).getD (i - 1) [])).length = 4 := length_mT hT4
        refine st_seq ?_
        refine st_region ?_
        refine st_v (rv_assign rfl) (by decide) ?_
        refine st_nil ?_
        refine st_then ?_
        refine st_seq ?_
        refine st_seq ?_
        refine st_region ?_
        refine st_v (rv_assign rfl) (by decide) ?_
        refine st_nil ?_
        refine st_then ?_
        refine st_block ?_
        refine st_ownNil8 5 1 ?_
        refine st_loopA (σ := Nat × Value) [(0, kst _), (3, kst _), (4, kst _), (5, kst _), (6, kst _), (9, fun (k, y) => y), (10, fun (k, y) => vI k)] [fun (k, y) => own y 5 1 k ((xorA ((mS key (boxR 256) nk i).getD (i - nk) []) (mT (boxR 256) nk i ((mS key (boxR 256) nk i).getD (i - 1) [])) k).map U8), kst _, kst _, kst _, kst _, kst _] (fun (k, y) => k ≤ 4) (fun (k, y) => 4 - k) (0, nilS) (by omega) (SubE.cons rfl (SubE.cons rfl (SubE.cons rfl (SubE.cons rfl (SubE.cons rfl (SubE.cons rfl (SubE.cons rfl (SubE.nil _)))))))) (fun _ hM => hM) ?_
        intro ⟨k, y⟩ hI
        try dsimp only at hI
        dsimp only [List.map, kst]
        refine st_seq ?_
        refine st_seq ?_
        refine st_region ?_
        refine st_v (rv_move rfl) (by decide) ?_
        refine st_v (rv_lssZ rfl rfl) (by decide) ?_
        refine st_nil ?_
        refine st_then ?_
        refine st_cond rfl (fun hc104 => ?_) (fun hc104 => ?_)
        · -- t104 True
          try simp only [decide_eq_true_eq, decide_eq_false_iff_not, Bool.and_eq_true, Bool.or_eq_true, Bool.and_eq_false_iff, Bool.or_eq_false_iff, Bool.not_eq_true, Bool.not_eq_eq_eq_not, Bool.not_true, Bool.not_false, Int.not_lt, Int.not_le, ne_eq, Decidable.not_not] at hc104
          refine st_skip ?_
          refine st_then ?_
          refine st_seq ?_
          refine st_block ?_
          refine st_drawStart mixed ?_
          refine st_drawSeg (E0 := [(0, _), (3, _), (4, _), (5, _), (6, _), (9, _), (10, _)]) [18] [kpeq _, kpeq _, kpeq _, kpeq _, kpeq _, kpeq _, kpeq _, kpeq _, kpeq _, kpeq _, kpeq _, kpeq _, kpeq _, kpeq _, kpeq _, kpeq _, kpeq _, kpeq _, kany] (phs [18] [[kst _, kst _, kst _, kst _, kst _, kst _], [kst _, kst _, kst _, kst _, kst _, kst _, kOwn 0 5 1 1 (([_] : List (BitVec 8)).map U8)]]) 0 19 [0, 0, 2, 6, 14, 0, 0, 96, 254, 510, 0, 2046, 4094, 0, 0, 24576, 57344, 131070, 262142, 524287, 1048575] [0, 3, 4, 5, 6, 9, 10] (by kernel_rfl) (by decide) (by decide) (by kernel_rfl) rfl rfl (phs_skip _) (SubE.cons rfl (SubE.cons rfl (SubE.cons rfl (SubE.cons rfl (SubE.cons rfl (SubE.cons rfl (SubE.cons rfl (SubE.nil _)))))))) (fun _ h => h) (hall_cons (hop_valY [] [] [] rfl rfl rfl (by decide) rfl (jnil) (xnil) (ynil) (fun p h1 h2 vals => by
    have h1 : 0 ≤ p := h1
    have h2 : p ≤ 1 := h2
    obtain rfl | rfl : p = 0 ∨ p = 1 := by omega
    all_goals exact does_v (rv_move rfl))) (hall_cons (hop_valY [] [] [] rfl rfl rfl (by decide) rfl (jnil) (xnil) (ynil) (fun p h1 h2 vals => by obtain rfl : p = 0 := Nat.le_antisymm h2 h1; exact does_v (rv_move rfl))) (hall_cons (hop_valY [(1, 108, _)] [] [] rfl rfl rfl (by decide) rfl (jcons rfl rfl rfl rfl rfl (jnil)) (xnil) (ynil) (fun p h1 h2 vals => by obtain rfl : p = 0 := Nat.le_antisymm h2 h1; exact does_v (rv_nilCheck rfl))) (hall_cons (hop_valY [(2, 109, _)] [] [] rfl rfl rfl (by decide) rfl (jcons rfl rfl rfl rfl rfl (jnil)) (xnil) (ynil) (fun p h1 h2 vals => by obtain rfl : p = 0 := Nat.le_antisymm h2 h1; exact does_v (rv_fieldAddr Tryd.underlying48 (fs := _) rfl sz46 rfl rfl))) (hall_cons (hop_valY [(3, 110, _)] [] [] rfl rfl rfl (by decide) rfl (jcons rfl rfl rfl rfl rfl (jnil)) (xnil) (ynil) (fun p h1 h2 vals => by obtain rfl : p = 0 := Nat.le_antisymm h2 h1; exact does_v (rv_load_blk tyS46 rfl (i := 4) rfl rfl))) (hall_cons (hop_valY [] [] [] rfl rfl rfl (by decide) rfl (jnil) (xnil) (ynil) (fun p h1 h2 vals => by obtain rfl : p = 0 := Nat.le_antisymm h2 h1; exact does_v (rv_move rfl))) (hall_cons (hop_valY [] [] [] rfl rfl rfl (by decide) rfl (jnil) (xnil) (ynil) (fun p h1 h2 vals => by obtain rfl : p = 0 := Nat.le_antisymm h2 h1; exact does_v (rv_move rfl))) (hall_cons (hop_valY [(5, 112, _), (6, 113, _)] [] [] rfl rfl rfl (by decide) rfl (jcons rfl rfl rfl rfl rfl (jcons rfl rfl rfl rfl rfl (jnil))) (xnil) (ynil) (fun p h1 h2 vals => by obtain rfl : p = 0 := Nat.le_antisymm h2 h1; exact does_v (rv_subN rfl rfl (by first | omega | (simp <;> omega))))) (hall_cons (hop_valY [(4, 111, _), (7, 114, _)] [] [] rfl rfl rfl (by decide) rfl (jcons rfl rfl rfl rfl rfl (jcons rfl rfl rfl rfl rfl (jnil))) (xnil) (ynil) (fun p h1 h2 vals => by obtain rfl : p = 0 := Nat.le_antisymm h2 h1; exact does_v (rv_indexR1 (rd_own (i := 3) rfl) Tryd.underlying46 sz22 rfl rfl rfl (by first | omega | (simp [length_eachR, length_xorA, turnW] <;> omega))))) (hall_cons (hop_valY [(8, 115, _)] [] [] rfl rfl rfl (by decide) rfl (jcons rfl rfl rfl rfl rfl (jnil)) (xnil) (ynil) (fun p h1 h2 vals => by obtain rfl : p = 0 := Nat.le_antisymm h2 h1; exact does_v (rv_load_rd (rd_own (i := 3) rfl) tyS22 rfl (hV (i - nk) (by omega))))) (hall_cons (hop_valY [] [] [] rfl rfl rfl (by decide) rfl (jnil) (xnil) (ynil) (fun p h1 h2 vals => by obtain rfl : p = 0 := Nat.le_antisymm h2 h1; exact does_v (rv_move rfl))) (hall_cons (hop_valY [(9, 116, _), (10, 117, _)] [] [] rfl rfl rfl (by decide) rfl (jcons rfl rfl rfl rfl rfl (jcons rfl rfl rfl rfl rfl (jnil))) (xnil) (ynil) (fun p h1 h2 vals => by obtain rfl : p = 0 := Nat.le_antisymm h2 h1; exact does_v (rv_indexR1 (rdAll_get' (i := 2) rfl (hV (i - nk) (by omega)) (hW (i - nk) (by omega)) (mS_getD4 hkey (by omega))) Tryd.underlying22 sz5 rfl rfl rfl (by first | omega | (simp [length_eachR, length_xorA, turnW] <;> omega))))) (hall_cons (hop_valY [(11, 118, _)] [] [] rfl rfl rfl (by decide) rfl (jcons rfl rfl rfl rfl rfl (jnil)) (xnil) (ynil) (fun p h1 h2 vals => by obtain rfl : p = 0 := Nat.le_antisymm h2 h1; exact does_v (rv_load_rd (rdAll_get' (i := 2) rfl (hV (i - nk) (by omega)) (hW (i - nk) (by omega)) (mS_getD4 hkey (by omega))) tyS5 rfl (get8 (by first | omega | (simp [length_eachR, length_xorA, turnW] <;> omega)))))) (hall_cons (hop_valY [] [] [] rfl rfl rfl (by decide) rfl (jnil) (xnil) (ynil) (fun p h1 h2 vals => by obtain rfl : p = 0 := Nat.le_antisymm h2 h1; exact does_v (rv_move rfl))) (hall_cons (hop_valY [] [] [] rfl rfl rfl (by decide) rfl (jnil) (xnil) (ynil) (fun p h1 h2 vals => by obtain rfl : p = 0 := Nat.le_antisymm h2 h1; exact does_v (rv_move rfl))) (hall_cons (hop_valY [(13, 120, _), (14, 121, _)] [] [] rfl rfl rfl (by decide) rfl (jcons rfl rfl rfl rfl rfl (jcons rfl rfl rfl rfl rfl (jnil))) (xnil) (ynil) (fun p h1 h2 vals => by obtain rfl : p = 0 := Nat.le_antisymm h2 h1; exact does_v (rv_indexR1 (rd_rd (i := 1) rfl) Tryd.underlying22 sz5 rfl rfl rfl (by first | omega | (simp [length_eachR, length_xorA, turnW] <;> omega))))) (hall_cons (hop_valY [(15, 122, _)] [] [] rfl rfl rfl (by decide) rfl (jcons rfl rfl rfl rfl rfl (jnil)) (xnil) (ynil) (fun p h1 h2 vals => by obtain rfl : p = 0 := Nat.le_antisymm h2 h1; exact does_v (rv_load_rd (rd_rd (i := 1) rfl) tyS5 rfl (get8 (by first | omega | (simp [length_eachR, length_xorA, turnW] <;> omega)))))) (hall_cons (hop_valY [(12, 119, _), (16, 123, _)] [] [] rfl rfl rfl (by decide) rfl (jcons rfl rfl rfl rfl rfl (jcons rfl rfl rfl rfl rfl (jnil))) (xnil) (ynil) (fun p h1 h2 vals => by obtain rfl : p = 0 := Nat.le_antisymm h2 h1; exact does_v (rv_xor8 rfl rfl))) (hall_cons (hop_mem [(17, 124, _)] [] [] rfl rfl rfl (fun d h => by cases h; decide) (⟨fun _ => rfl, ⟨fun _ => rfl, ⟨fun _ => rfl, ⟨fun _ => rfl, ⟨fun _ => rfl, ⟨fun _ => rfl, ⟨fun _ => rfl, ⟨fun _ => rfl, ⟨fun _ => rfl, ⟨fun _ => rfl, ⟨fun _ => rfl, ⟨fun _ => rfl, ⟨fun _ => rfl, ⟨fun _ => rfl, ⟨fun _ => rfl, ⟨fun _ => rfl, ⟨fun _ => rfl, ⟨fun _ => rfl, ⟨fun _ => rfl, trivial⟩⟩⟩⟩⟩⟩⟩⟩⟩⟩⟩⟩⟩⟩⟩⟩⟩⟩⟩) (jcons rfl rfl rfl rfl rfl (jnil)) (xnil) (ynil) (fun vals => dm_build Tryd.underlying22 tyZ5 rfl rfl (by decide) (cs := #[_]) rfl rfl (fun v => rfl))) (hall_nil)))))))))))))))))))) (draw_endY [(0, 107, _)] [] [(18, 125)] rfl (jcons rfl rfl rfl rfl rfl (jnil)) (xnil) (ycons rfl rfl rfl (ynil)) (fun vals => ?_))
          refine St.conv (E' := [(125, vals 18), (107, _), (0, _), (3, _), (4, _), (5, _), (6, _), (9, _), (10, _)]) (l1 := [_, _, _, _, _, _, own (vals 18) 5 1 1 (([_] : List (BitVec 8)).map U8)]) rfl rfl ?_
          try dsimp only [kst]
          try generalize vals 18 = v10
          refine st_drawTail (N := 19) [0, 0, 2, 6, 14, 0, 0, 96, 254, 510, 0, 2046, 4094, 0, 0, 24576, 57344, 131070, 262142, 524287, 1048575] (by kernel_rfl) (by kernel_rfl) ?_
          refine st_append8 Tryd.underlying22 Tryd.underlying22 (.inr ⟨_, rfl⟩) tyZ5 rfl rfl rfl (i := 0) rfl (fun w hM => src_rd ((rd_own (i := 6) rfl) w hM) (one8 _)) (by first | omega | (simp [length_xorA] <;> omega)) (by first | omega | (simp [length_xorA] <;> omega)) (by decide) (fun vn => ?_)
          refine st_v (rv_assign rfl) (by decide) ?_
          refine st_nil ?_
          refine st_in_normal ?_
          refine st_then ?_
          refine st_region ?_
          refine st_v (rv_move rfl) (by decide) ?_
          first | refine st_v (rv_addN (b := 1) rfl rfl (by first | omega | (simp <;> omega))) (by decide) ?_ | refine st_v (rv_addZ rfl rfl (by first | omega | (simp <;> omega))) (by decide) ?_
          refine st_v (rv_assign rfl) (by decide) ?_
          refine st_nil ?_
          refine st_then ?_
          exact st_again (k + 1, _) (by omega) (by omega) (SubE.cons rfl (SubE.cons rfl (SubE.cons rfl (SubE.cons rfl (SubE.cons rfl (SubE.cons rfl (SubE.cons rfl (SubE.nil _)))))))) (fun _ hM => hM.sublist (List.Sublist.cons_cons _ (List.Sublist.cons_cons _ (List.Sublist.cons_cons _ (List.Sublist.cons_cons _ (List.Sublist.cons_cons _ (List.Sublist.cons_cons _ (List.Sublist.cons _ (List.Sublist.slnil)))))))))
        · -- t104 False
          try simp only [decide_eq_true_eq, decide_eq_false_iff_not, Bool.and_eq_true, Bool.or_eq_true, Bool.and_eq_false_iff, Bool.or_eq_false_iff, Bool.not_eq_true, Bool.not_eq_eq_eq_not, Bool.not_true, Bool.not_false, Int.not_lt, Int.not_le, ne_eq, Decidable.not_not] at hc104
          obtain rfl : k = 4 := by omega
          refine st_exit ?_
          refine st_then_exit ?_
          refine st_then_exit ?_
          refine st_in_exit ?_
          refine st_then ?_
          refine st_region ?_
          refine st_v (rv_move rfl) (by decide) ?_
          refine st_v (rv_move rfl) (by decide) ?_
          refine st_v (rv_nilCheck rfl) (by decide) ?_
          refine st_v (rv_fieldAddr Tryd.underlying48 (fs := _) rfl sz46 rfl rfl) (by decide) ?_
          refine st_v (rv_load_blk tyS46 rfl (i := 4) rfl rfl) (by decide) ?_
          refine st_v (rv_move rfl) (by decide) ?_
          refine st_buildO1 Tryd.underlying46 tyZ22 rfl rfl (fun w hM => ownCells (i := 0) rfl hM) (by decide) (fun v11 => ?_)
          refine st_append Tryd.underlying46 Tryd.underlying46 (.inr ⟨_, rfl⟩) tyZ22 rfl rfl rfl (i := 4) rfl (hone) (fun w hM => src_rd ((rd_own (i := 0) rfl) w hM) (one1 (ownOne (i := 1) rfl hM))) (by first | omega | (simp [length_xorA] <;> omega)) (by first | omega | (simp [length_xorA] <;> omega)) (by decide) (fun vw => ?_)
          refine st_v (rv_nilCheck rfl) (by decide) ?_
          refine st_v (rv_fieldAddr Tryd.underlying48 (fs := _) rfl sz46 rfl rfl) (by decide) ?_
          refine St.know (fun w hM => And.intro (ownCells (i := 4) rfl hM) (ownOne (i := 4) rfl hM)) (fun hst330 => ?_)
          refine st_store (vs := [_]) rfl rfl (i := 5) rfl sz46 hst330.1 (Nat.le_of_ble_eq_true rfl) (one1 hst330.2) (cs' := #[_, _]) rfl (l' := [_, _, _, _, _, _, _]) rfl ?_
          refine st_nil ?_
          refine st_in_normal ?_
          refine st_then ?_
          refine st_region ?_
          refine st_v (rv_move rfl) (by decide) ?_
          first | refine st_v (rv_addN (b := 1) rfl rfl (by first | omega | (simp <;> omega))) (by decide) ?_ | refine st_v (rv_addZ rfl rfl (by first | omega | (simp <;> omega))) (by decide) ?_
          refine st_v (rv_assign rfl) (by decide) ?_
          refine st_nil ?_
          refine st_then ?_
          exact st_again (i + 1, vw, vs ++ [y]) (⟨by omega, by simp [hvs]⟩) (by omega) (SubE.cons rfl (SubE.cons rfl (SubE.cons rfl (SubE.cons rfl (SubE.nil _))))) (by intro w hM; have hM := hM.allPush (k := 1) (i := 2) rfl (length_xorA _ _ _) rfl; have hM := hM.sublist (List.Sublist.cons _ (List.Sublist.cons _ (List.Sublist.cons_cons _ (List.Sublist.cons_cons _ (List.Sublist.cons_cons _ (List.Sublist.cons_cons _ (List.Sublist.slnil))))))); rw [mS, mW, if_neg (by omega)]; exact hM)
  · -- t21 False
    try simp only [decide_eq_true_eq, decide_eq_false_iff_not, Bool.and_eq_true, Bool.or_eq_true, Bool.and_eq_false_iff, Bool.or_eq_false_iff, Bool.not_eq_true, Bool.not_eq_eq_eq_not, Bool.not_true, Bool.not_false, Int.not_lt, Int.not_le, ne_eq, Decidable.not_not] at hc21
    obtain rfl : i = 4 * (nk + 7) := by omega
    refine st_exit ?_
    refine st_then_exit ?_
    refine st_then_exit ?_
    refine st_in_exit ?_
    refine st_then ?_
    refine st_seq ?_
    refine st_region ?_
    refine st_v (rv_move rfl) (by decide) ?_
    refine st_v (rv_assign rfl) (by decide) ?_
    refine st_nil ?_
    refine st_then ?_
    refine st_ret ?_
    exact st_done rfl rfl (fun w hM => ⟨_, _, _, _, rfl, hvs, hM.toCip (length_boxR 256)⟩)
end Go.Proofs.YtpihffpdkfkkhaaDoor
