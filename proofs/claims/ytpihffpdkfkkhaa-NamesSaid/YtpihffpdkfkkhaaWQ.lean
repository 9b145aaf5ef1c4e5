/- Walks: what functions of the given program do, operation by operation. Written by wip/gen. -/
import Derived.Test.YtpihffpdkfkkhaaWP
namespace Go.Proofs.Ytpihffpdkfkkhaa
set_option linter.all false
open Go
theorem aesTimes_calls (v u : Value) (a b : List (BitVec 8)) (w : World) (hA : Rd w v a.length 1 (a.map U8)) (hB : Rd w u b.length 1 (b.map U8)) : Calls Try.prog 7 #[v, u] w (fun e w' => ∃ v, e = .returned (.tuple #[v, vI (tErr a b)]) ∧ True ∧ Mem (All w) w w' [rdA v (tOut a b).length 1 ((tOut a b).map U8)]) := by
  refine calls_of_st (n := 22) (args := [v, u]) Try.func7 rfl Try.ntmps7 (Nat.le_of_ble_eq_true rfl) (Mem.all w) ?_
  refine st_seq ?_
  refine st_region ?_
  refine st_v (rv_assign rfl) (by decide) ?_
  refine st_v (rv_assign rfl) (by decide) ?_
  refine st_nil ?_
  refine st_then ?_
  refine st_seq ?_
  refine st_seq ?_
  refine st_region ?_
  refine st_v (rv_move rfl) (by decide) ?_
  refine st_v (rv_lenR (rd_old hA hA.all) Try.underlying22 rfl) (by decide) ?_
  refine st_v (rv_neqZ rfl rfl) (by decide) ?_
  refine st_v (rv_move rfl) (by decide) ?_
  refine' st_or 4 (L := _) (s := 10) (d := 14) [0, 1, 4, 5] rfl (fun hg4 => ?_) (fun _ => ?_) ?_; rotate_left
  · -- true
    refine st_gskip rfl rfl rfl (by decide) ?_
    refine st_gskip rfl rfl rfl (by decide) ?_
    refine st_gskip rfl rfl rfl (by decide) ?_
    first | refine st_v (rv_pick_true rfl rfl) (by decide) ?_ | refine st_v (rv_pick_false rfl rfl) (by decide) ?_ | refine st_v (rv_pick rfl rfl rfl) (by decide) ?_
    refine st_nil ?_
    exact st_meet_b (SubE.cons rfl (SubE.cons rfl (SubE.cons rfl (SubE.cons rfl (SubE.cons rfl (SubE.nil _))))))
  · -- false
    refine st_gon rfl rfl ?_
    refine st_v (rv_move rfl) (by decide) ?_
    refine st_gon rfl rfl ?_
    refine st_v (rv_lenR (rd_old hB hB.all) Try.underlying22 rfl) (by decide) ?_
    refine st_gon rfl rfl ?_
    refine st_v (rv_neqZ rfl rfl) (by decide) ?_
    first | refine st_v (rv_pick_true rfl rfl) (by decide) ?_ | refine st_v (rv_pick_false rfl rfl) (by decide) ?_ | refine st_v (rv_pick rfl rfl rfl) (by decide) ?_
    refine st_nil ?_
    exact st_meet_b (SubE.cons rfl (SubE.cons rfl (SubE.cons rfl (SubE.cons rfl (SubE.cons rfl (SubE.nil _))))))
  refine st_nil ?_
  refine st_then ?_
  refine st_cond rfl (fun hc14 => ?_) (fun hc14 => ?_)
  · -- t14 True
    try simp only [decide_eq_true_eq, decide_eq_false_iff_not, Bool.and_eq_true, Bool.or_eq_true, Bool.and_eq_false_iff, Bool.or_eq_false_iff, Bool.not_eq_true, Bool.not_eq_eq_eq_not, Bool.not_true, Bool.not_false, Int.not_lt, Int.not_le, ne_eq, Decidable.not_not] at hc14
    have hk : tOk a b = false := by simp [tOk]; omega
    refine st_seq ?_
    refine st_region ?_
    refine st_v (rv_assign rfl) (by decide) ?_
    refine st_v (rv_assign rfl) (by decide) ?_
    refine st_nil ?_
    refine st_then ?_
    refine st_ret ?_
    refine st_then_ret ?_
    exact st_done2 rfl rfl rfl (fun w hM => ⟨nilS, by rw [tErr, hk]; rfl, trivial, by rw [tOut, hk]; exact hM.rdNil⟩)
  · -- t14 False
    try simp only [decide_eq_true_eq, decide_eq_false_iff_not, Bool.and_eq_true, Bool.or_eq_true, Bool.and_eq_false_iff, Bool.or_eq_false_iff, Bool.not_eq_true, Bool.not_eq_eq_eq_not, Bool.not_true, Bool.not_false, Int.not_lt, Int.not_le, ne_eq, Decidable.not_not] at hc14
    have hk : tOk a b = true := by simp [tOk]; omega
    refine st_skip ?_
    refine st_then ?_
    refine st_seq ?_
    refine st_region ?_
    refine st_v (rv_move rfl) (by decide) ?_
    refine st_call0 cal16 rfl (fun w hM => read_calls _ _ _ (by first | omega | simp) w ((rd_old hA hA.all) w hM)) (by decide) ?_
    refine st_v (rv_move rfl) (by decide) ?_
    refine st_call0 cal16 rfl (fun w hM => read_calls _ _ _ (by first | omega | simp) w ((rd_old hB hB.all) w hM)) (by decide) ?_
    refine st_call0 cal17 rfl (fun w hM => times_calls _ _ w) (by decide) ?_
    refine st_call0 cal18 rfl (fun w hM => bytes_calls _ w) (by decide) ?_
    refine st_alloc tyZ39 (by decide) (cs := c8 (List.replicate 16 0#8)) (rfl) (fun b1 hb1 => ?_)
    refine st_storeW8 rfl rfl (i := 0) rfl sz39 (by first | omega | (simp [length_elBytes]; done) | (simp [length_elBytes] <;> omega)) (by first | omega | (simp [length_elBytes]; done) | (simp [length_elBytes] <;> omega)) (l' := [_]) rfl ?_
    refine st_nil ?_
    refine st_then ?_
    refine st_seq ?_
    refine st_region ?_
    refine st_v (rv_sliceA Try.underlying39 sz5 rfl evB_none evB_none (by omega) (by omega) (by decide) rfl) (by decide) ?_
    refine st_v (rv_assign rfl) (by decide) ?_
    refine st_v (rv_assign rfl) (by decide) ?_
    refine st_nil ?_
    refine st_then ?_
    refine st_ret ?_
    exact st_done2 rfl rfl rfl (fun w hM => ⟨_, by rw [tErr, hk]; rfl, trivial, by rw [tOut, hk]; show Mem _ _ _ [rdA _ (tMul a b).length 1 _]; rw [show (tMul a b).length = 16 from length_elBytes _ _]; exact hM.blkRd8 (i := 0) rfl (length_elBytes _ _) (Nat.le_refl _)⟩)
theorem aesGHash_calls (v u x : Value) (h a c : List (BitVec 8)) (w : World) (hA : Rd w v h.length 1 (h.map U8)) (hB : Rd w u a.length 1 (a.map U8)) (hC : Rd w x c.length 1 (c.map U8)) (ha : a.length ≤ 100000) (hc : c.length ≤ 100000) : Calls Try.prog 10 #[v, u, x] w (fun e w' => ∃ v, e = .returned (.tuple #[v, vI (gErr h)]) ∧ True ∧ Mem (All w) w w' [rdA v (gOut h a c).length 1 ((gOut h a c).map U8)]) := by
  refine calls_of_st (n := 20) (args := [v, u, x]) Try.func10 rfl Try.ntmps10 (Nat.le_of_ble_eq_true rfl) (Mem.all w) ?_
  refine st_seq ?_
  refine st_region ?_
  refine st_v (rv_assign rfl) (by decide) ?_
  refine st_v (rv_assign rfl) (by decide) ?_
  refine st_nil ?_
  refine st_then ?_
  refine st_seq ?_
  refine st_seq ?_
  refine st_region ?_
  refine st_v (rv_move rfl) (by decide) ?_
  refine st_v (rv_lenR (rd_old hA hA.all) Try.underlying22 rfl) (by decide) ?_
  refine st_v (rv_neqZ rfl rfl) (by decide) ?_
  refine st_nil ?_
  refine st_then ?_
  refine st_cond rfl (fun hc11 => ?_) (fun hc11 => ?_)
  · -- t11 True
    try simp only [decide_eq_true_eq, decide_eq_false_iff_not, Bool.and_eq_true, Bool.or_eq_true, Bool.and_eq_false_iff, Bool.or_eq_false_iff, Bool.not_eq_true, Bool.not_eq_eq_eq_not, Bool.not_true, Bool.not_false, Int.not_lt, Int.not_le, ne_eq, Decidable.not_not] at hc11
    have hk : ¬ h.length = 16 := by omega
    refine st_seq ?_
    refine st_region ?_
    refine st_v (rv_assign rfl) (by decide) ?_
    refine st_v (rv_assign rfl) (by decide) ?_
    refine st_nil ?_
    refine st_then ?_
    refine st_ret ?_
    refine st_then_ret ?_
    exact st_done2 rfl rfl rfl (fun w hM => ⟨nilS, by rw [gErr, if_neg hk]; rfl, trivial, by rw [gOut, if_neg hk]; exact hM.rdNil⟩)
  · -- t11 False
    try simp only [decide_eq_true_eq, decide_eq_false_iff_not, Bool.and_eq_true, Bool.or_eq_true, Bool.and_eq_false_iff, Bool.or_eq_false_iff, Bool.not_eq_true, Bool.not_eq_eq_eq_not, Bool.not_true, Bool.not_false, Int.not_lt, Int.not_le, ne_eq, Decidable.not_not] at hc11
    have hk : h.length = 16 := by omega
    refine st_skip ?_
    refine st_then ?_
    refine st_seq ?_
    refine st_region ?_
    refine st_v (rv_move rfl) (by decide) ?_
    refine st_call0 cal16 rfl (fun w hM => read_calls _ _ _ (by first | omega | simp) w ((rd_old hA hA.all) w hM)) (by decide) ?_
    refine st_v (rv_move rfl) (by decide) ?_
    refine st_v (rv_move rfl) (by decide) ?_
    refine st_buildSlice Try.underlying53 tyZ22 rfl rfl (by decide) (cs := #[u, x]) (by simp [fillL, cells_rd hB, cells_rd hC, spl]) (by decide) (fun b1 hb1 => ?_)
    refine st_call0 cal19 rfl (fun w hM => ghash_calls _ _ [(_, a), (_, c)] rfl w (rd_blk (i := 0) rfl rfl (Nat.le_refl _) (fun j u h => by simpa using h) w hM) (fun k hk => by
      match k, hk with
      | 0, _ => exact rd_old hB hB.all w hM
      | 1, _ => exact rd_old hC hC.all w hM) (fun k hk => by
      match k, hk with
      | 0, _ => show a.length ≤ _; omega
      | 1, _ => show c.length ≤ _; omega)) (by decide) ?_
    refine st_call0 cal18 rfl (fun w hM => bytes_calls _ w) (by decide) ?_
    refine st_alloc tyZ39 (by decide) (cs := c8 (List.replicate 16 0#8)) (rfl) (fun b2 hb2 => ?_)
    refine st_storeW8 rfl rfl (i := 0) rfl sz39 (by first | omega | (simp [length_elBytes]; done) | (simp [length_elBytes] <;> omega)) (by first | omega | (simp [length_elBytes]; done) | (simp [length_elBytes] <;> omega)) (l' := [_, _]) rfl ?_
    refine st_nil ?_
    refine st_then ?_
    refine st_seq ?_
    refine st_region ?_
    refine st_v (rv_sliceA Try.underlying39 sz5 rfl evB_none evB_none (by omega) (by omega) (by decide) rfl) (by decide) ?_
    refine st_v (rv_assign rfl) (by decide) ?_
    refine st_v (rv_assign rfl) (by decide) ?_
    refine st_nil ?_
    refine st_then ?_
    refine st_ret ?_
    exact st_done2 rfl rfl rfl (fun w hM => ⟨_, by rw [gErr, if_pos hk]; rfl, trivial, by rw [gOut, if_pos hk, show (elBytes (gSum (elRead h 16) [a, c]) 8).length = 16 from length_elBytes _ _]; exact (hM.blkRd8 (i := 0) rfl (length_elBytes _ _) (Nat.le_refl _)).sublist (List.cons_sublist_cons.2 (List.nil_sublist _))⟩)
theorem lent_calls (s : List (BitVec 8)) (hs : s.length ≤ 1000000) (w : World) : Calls Try.prog 9 #[vS s] w (fun e w' => ∃ v, e = .returned v ∧ Mem (All w) w w' [rdA v (lentL s).length 1 ((lentL s).map U8)]) := by
  refine calls_of_st (n := 28) (args := [vS s]) Try.func9 rfl Try.ntmps9 (Nat.le_of_ble_eq_true rfl) (Mem.all w) ?_
  refine st_seq ?_
  refine st_region ?_
  refine st_v (rv_assign rfl) (by decide) ?_
  refine st_nil ?_
  refine st_then ?_
  refine st_seq ?_
  refine st_region ?_
  refine st_v (rv_move rfl) (by decide) ?_
  refine st_v (rv_lenB Try.underlying9 rfl) (by decide) ?_
  first | refine st_v (rv_addN (b := 160) rfl rfl (by first | omega | (simp <;> omega))) (by decide) ?_ | refine st_v (rv_addZ rfl rfl (by first | omega | (simp <;> omega))) (by decide) ?_
  refine st_make8 Try.underlying22 tyZ5 rfl rfl (by omega) (by omega) (by omega) (by decide) (fun b1 hb1 => ?_)
  refine st_v (rv_assign rfl) (by decide) ?_
  refine st_nil ?_
  refine st_then ?_
  refine st_seq ?_
  refine st_region ?_
  refine st_v (rv_move rfl) (by decide) ?_
  refine st_v (rv_move rfl) (by decide) ?_
  refine st_copy8 Try.underlying22 sz5 rfl rfl (i := 0) rfl (by first | omega | (simp [length_lentF]; done) | (simp [length_lentF] <;> omega)) (fun w _ => src_str _) (l' := [_]) rfl (by decide) ?_
  refine st_nil ?_
  refine st_then ?_
  refine st_seq ?_
  refine st_seq ?_
  refine st_region ?_
  refine st_v (rv_move rfl) (by decide) ?_
  refine st_v (rv_lenB Try.underlying9 rfl) (by decide) ?_
  refine st_v (rv_assign rfl) (by decide) ?_
  refine st_nil ?_
  refine st_then ?_
  refine st_block ?_
  refine st_loop (σ := Nat) (fun k => [(3, sl b1 0 (s.length + 160) (s.length + 160)), (4, vI (s.length + k : Nat))]) (fun k => [blk b1 (c8 (lentF s k)) 5]) (fun k => k ≤ 160) (fun k => 160 - k) 0 (by omega) (SubE.cons rfl (SubE.cons rfl (SubE.nil _))) (fun _ hM => hM) ?_
  intro k hI
  refine st_seq ?_
  refine st_seq ?_
  refine st_region ?_
  refine st_v (rv_move rfl) (by decide) ?_
  refine st_v (rv_move rfl) (by decide) ?_
  refine st_v (rv_lenS Try.underlying22 rfl) (by decide) ?_
  refine st_v (rv_lssZ rfl rfl) (by decide) ?_
  refine st_nil ?_
  refine st_then ?_
  refine st_cond rfl (fun hc17 => ?_) (fun hc17 => ?_)
  · -- t17 True
    try simp only [decide_eq_true_eq, decide_eq_false_iff_not, Bool.and_eq_true, Bool.or_eq_true, Bool.and_eq_false_iff, Bool.or_eq_false_iff, Bool.not_eq_true, Bool.not_eq_eq_eq_not, Bool.not_true, Bool.not_false, Int.not_lt, Int.not_le, ne_eq, Decidable.not_not] at hc17
    refine st_skip ?_
    refine st_then ?_
    refine st_seq ?_
    refine st_block ?_
    refine st_region ?_
    refine st_v (rv_move rfl) (by decide) ?_
    refine st_v (rv_move rfl) (by decide) ?_
    refine st_v (rv_move rfl) (by decide) ?_
    refine st_v (rv_remN (b := 251) rfl rfl (by first | omega | (simp <;> omega))) (by decide) ?_
    refine st_v (rv_convIto8 Try.underlying3 Try.underlying5 rfl) (by decide) ?_
    refine st_v (rv_xor8 (b := 165#8) rfl rfl) (by decide) ?_
    refine st_v (rv_indexS Try.underlying22 sz5 rfl rfl rfl (by omega) (by first | exact (Nat.zero_add _).trans (Nat.mul_one _) | exact congrArg _ (Nat.mul_one _) | rfl)) (by decide) ?_
    refine st_store8 rfl rfl (i := 0) rfl sz5 (by first | omega | (simp [length_lentF] <;> omega)) (l' := [_]) rfl ?_
    refine st_nil ?_
    refine st_in_normal ?_
    refine st_then ?_
    refine st_region ?_
    refine st_v (rv_move rfl) (by decide) ?_
    first | refine st_v (rv_addN (b := 1) rfl rfl (by first | omega | (simp <;> omega))) (by decide) ?_ | refine st_v (rv_addZ rfl rfl (by first | omega | (simp <;> omega))) (by decide) ?_
    refine st_v (rv_assign rfl) (by decide) ?_
    refine st_nil ?_
    refine st_then ?_
    exact st_again (k + 1) (by omega) (by omega) (SubE.cons rfl (SubE.cons rfl (SubE.nil _))) (fun _ hM => hM)
  · -- t17 False
    try simp only [decide_eq_true_eq, decide_eq_false_iff_not, Bool.and_eq_true, Bool.or_eq_true, Bool.and_eq_false_iff, Bool.or_eq_false_iff, Bool.not_eq_true, Bool.not_eq_eq_eq_not, Bool.not_true, Bool.not_false, Int.not_lt, Int.not_le, ne_eq, Decidable.not_not] at hc17
    obtain rfl : k = 160 := by omega
    refine st_exit ?_
    refine st_then_exit ?_
    refine st_then_exit ?_
    refine st_in_exit ?_
    refine st_then ?_
    refine st_seq ?_
    refine st_region ?_
    refine st_v (rv_move rfl) (by decide) ?_
    refine st_v (rv_assign rfl) (by decide) ?_
    refine st_nil ?_
    refine st_then ?_
    refine st_ret ?_
    exact st_done rfl rfl (fun w hM => ⟨_, rfl, by rw [length_lentL]; exact hM.blkRd8 (i := 0) rfl (length_lentL s) (Nat.le_refl _)⟩)
theorem still_calls (v : Value) (s : List (BitVec 8)) (hs : s.length ≤ 1000000) (w : World) (hA : Rd w v (lentL s).length 1 ((lentL s).map U8)) : Calls Try.prog 11 #[v, vS s] w (fun r w' => r = .returned (.bool true) ∧ Mem (All w) w w' []) := by
  refine calls_of_st (n := 13) (args := [v, vS s]) Try.func11 rfl Try.ntmps11 (Nat.le_of_ble_eq_true rfl) (Mem.all w) ?_
  refine st_seq ?_
  refine st_region ?_
  refine st_v (rv_assign rfl) (by decide) ?_
  refine st_nil ?_
  refine st_then ?_
  refine st_seq ?_
  refine st_region ?_
  refine st_v (rv_move rfl) (by decide) ?_
  refine st_callV cal9 rfl (fun w hM => lent_calls _ (by omega) w) (by decide) (fun v1 => ?_)
  refine st_v (rv_assign rfl) (by decide) ?_
  refine st_nil ?_
  refine st_then ?_
  refine st_seq ?_
  refine st_region ?_
  refine st_v (rv_move rfl) (by decide) ?_
  refine st_v (rv_string (rd_old hA hA.all) Try.underlying22 Try.underlying9 Try.underlying5 rfl) (by decide) ?_
  refine st_v (rv_move rfl) (by decide) ?_
  refine st_v (rv_string (rd_rd (i := 0) rfl) Try.underlying22 Try.underlying9 Try.underlying5 rfl) (by decide) ?_
  refine st_v (rv_to (rv_eqlB rfl rfl) (v := .bool (decide (lentL s = lentL s))) (u := .bool true) (by simp)) (by decide) ?_
  refine st_v (rv_assign rfl) (by decide) ?_
  refine st_nil ?_
  refine st_then ?_
  refine st_ret ?_
  exact st_done rfl rfl (fun w hM => ⟨rfl, hM.sublist (List.nil_sublist _)⟩)
theorem block_calls (a : List (BitVec 8)) (w : World) : Calls Try.prog 6 #[vS a] w (fun e w' => ∃ v, e = .returned v ∧ Mem (All w) w w' [rdA v (blockL a).length 1 ((blockL a).map U8)]) := by
  refine calls_of_st (n := 9) (args := [vS a]) Try.func6 rfl Try.ntmps6 (Nat.le_of_ble_eq_true rfl) (Mem.all w) ?_
  refine st_seq ?_
  refine st_region ?_
  refine st_v (rv_assign rfl) (by decide) ?_
  refine st_nil ?_
  refine st_then ?_
  refine st_seq ?_
  refine st_region ?_
  refine st_make8 Try.underlying22 tyZ5 (len := 16) (cap := 16) rfl rfl (by omega) (by omega) (by omega) (by decide) (fun b1 hb1 => ?_)
  refine st_v (rv_assign rfl) (by decide) ?_
  refine st_nil ?_
  refine st_then ?_
  refine st_seq ?_
  refine st_region ?_
  refine st_v (rv_move rfl) (by decide) ?_
  refine st_v (rv_move rfl) (by decide) ?_
  refine st_copy8 Try.underlying22 sz5 rfl rfl (i := 0) rfl (by first | omega | (simp [length_blockL]; done) | (simp [length_blockL] <;> omega)) (fun w _ => src_str _) (l' := [_]) rfl (by decide) ?_
  refine st_nil ?_
  refine st_then ?_
  refine st_seq ?_
  refine st_region ?_
  refine st_v (rv_move rfl) (by decide) ?_
  refine st_v (rv_assign rfl) (by decide) ?_
  refine st_nil ?_
  refine st_then ?_
  refine st_ret ?_
  exact st_done rfl rfl (fun w hM => ⟨_, rfl, by rw [length_blockL]; exact hM.blkRd8 (i := 0) rfl (length_blockL a) (Nat.le_refl _)⟩)
theorem lplus_calls (v u : Value) (a b : List (BitVec 8)) (ha : a.length = 16) (hb : b.length = 16) (w : World) (hA : Rd w v a.length 1 (a.map U8)) (hB : Rd w u b.length 1 (b.map U8)) : Calls Try.prog 8 #[v, u] w (fun e w' => ∃ v, e = .returned v ∧ Mem (All w) w w' [rdA v (plusL a b 16).length 1 ((plusL a b 16).map U8)]) := by
  refine calls_of_st (n := 37) (args := [v, u]) Try.func8 rfl Try.ntmps8 (Nat.le_of_ble_eq_true rfl) (Mem.all w) ?_
  refine st_seq ?_
  refine st_region ?_
  refine st_v (rv_assign rfl) (by decide) ?_
  refine st_nil ?_
  refine st_then ?_
  refine st_seq ?_
  refine st_region ?_
  refine st_make8 Try.underlying22 tyZ5 (len := 16) (cap := 16) rfl rfl (by omega) (by omega) (by omega) (by decide) (fun b1 hb1 => ?_)
  refine st_v (rv_assign rfl) (by decide) ?_
  refine st_nil ?_
  refine st_then ?_
  refine st_seq ?_
  refine st_seq ?_
  refine st_region ?_
  refine st_v (rv_assign rfl) (by decide) ?_
  refine st_nil ?_
  refine st_then ?_
  refine st_block ?_
  refine st_loop (σ := Nat) (fun k => [(0, v), (1, u), (5, sl b1 0 16 16), (6, vI k)]) (fun k => [blk b1 (c8 (plusL a b k)) 5]) (fun k => k ≤ 16) (fun k => 16 - k) 0 (by omega) (SubE.cons rfl (SubE.cons rfl (SubE.cons rfl (SubE.cons rfl (SubE.nil _))))) (fun _ hM => hM) ?_
  intro k hI
  refine st_seq ?_
  refine st_seq ?_
  refine st_region ?_
  refine st_v (rv_move rfl) (by decide) ?_
  refine st_v (rv_lssZ rfl rfl) (by decide) ?_
  refine st_v (rv_move rfl) (by decide) ?_
  refine' st_and 5 (L := _) (s := 10) (d := 15) [0, 1, 5, 6, 8, 9] rfl (fun hg3 => ?_) (fun _ => ?_) ?_; rotate_left
  · -- true
    try simp only [decide_eq_true_eq, decide_eq_false_iff_not, Bool.and_eq_true, Bool.not_eq_true] at hg3
    refine st_gon rfl rfl ?_
    refine st_v (rv_move rfl) (by decide) ?_
    refine st_gon rfl rfl ?_
    refine st_v (rv_move rfl) (by decide) ?_
    refine st_gon rfl rfl ?_
    refine st_v (rv_lenR (rd_old hA hA.all) Try.underlying22 rfl) (by decide) ?_
    refine st_gon rfl rfl ?_
    refine st_v (rv_lssZ rfl rfl) (by decide) ?_
    first | refine st_v (rv_pick_true rfl rfl) (by decide) ?_ | refine st_v (rv_pick_false rfl rfl) (by decide) ?_ | refine st_v (rv_pick rfl rfl rfl) (by decide) ?_
    refine st_nil ?_
    exact st_meet_b (SubE.cons rfl (SubE.cons rfl (SubE.cons rfl (SubE.cons rfl (SubE.cons rfl (SubE.cons rfl (SubE.cons rfl (SubE.nil _))))))))
  · -- false
    refine st_gskip rfl rfl rfl (by decide) ?_
    refine st_gskip rfl rfl rfl (by decide) ?_
    refine st_gskip rfl rfl rfl (by decide) ?_
    refine st_gskip rfl rfl rfl (by decide) ?_
    first | refine st_v (rv_pick_true rfl rfl) (by decide) ?_ | refine st_v (rv_pick_false rfl rfl) (by decide) ?_ | refine st_v (rv_pick rfl rfl rfl) (by decide) ?_
    refine st_nil ?_
    exact st_meet_b (SubE.cons rfl (SubE.cons rfl (SubE.cons rfl (SubE.cons rfl (SubE.cons rfl (SubE.cons rfl (SubE.cons rfl (SubE.nil _))))))))
  refine st_v (rv_move rfl) (by decide) ?_
  refine' st_and 5 (L := _) (s := 16) (d := 21) [0, 1, 5, 6, 8, 9, 15] rfl (fun hg9 => ?_) (fun _ => ?_) ?_; rotate_left
  · -- true
    try simp only [decide_eq_true_eq, decide_eq_false_iff_not, Bool.and_eq_true, Bool.not_eq_true] at hg9
    refine st_gon rfl rfl ?_
    refine st_v (rv_move rfl) (by decide) ?_
    refine st_gon rfl rfl ?_
    refine st_v (rv_move rfl) (by decide) ?_
    refine st_gon rfl rfl ?_
    refine st_v (rv_lenR (rd_old hB hB.all) Try.underlying22 rfl) (by decide) ?_
    refine st_gon rfl rfl ?_
    refine st_v (rv_lssZ rfl rfl) (by decide) ?_
    first | refine st_v (rv_pick_true rfl rfl) (by decide) ?_ | refine st_v (rv_pick_false rfl rfl) (by decide) ?_ | refine st_v (rv_pick rfl rfl rfl) (by decide) ?_
    refine st_nil ?_
    exact st_meet_b (SubE.cons rfl (SubE.cons rfl (SubE.cons rfl (SubE.cons rfl (SubE.cons rfl (SubE.cons rfl (SubE.cons rfl (SubE.cons rfl (SubE.nil _)))))))))
  · -- false
    refine st_gskip rfl rfl rfl (by decide) ?_
    refine st_gskip rfl rfl rfl (by decide) ?_
    refine st_gskip rfl rfl rfl (by decide) ?_
    refine st_gskip rfl rfl rfl (by decide) ?_
    first | refine st_v (rv_pick_true rfl rfl) (by decide) ?_ | refine st_v (rv_pick_false rfl rfl) (by decide) ?_ | refine st_v (rv_pick rfl rfl rfl) (by decide) ?_
    refine st_nil ?_
    exact st_meet_b (SubE.cons rfl (SubE.cons rfl (SubE.cons rfl (SubE.cons rfl (SubE.cons rfl (SubE.cons rfl (SubE.cons rfl (SubE.cons rfl (SubE.nil _)))))))))
  refine st_nil ?_
  refine st_then ?_
  refine st_cond rfl (fun hc21 => ?_) (fun hc21 => ?_)
  · -- t21 True
    try simp only [decide_eq_true_eq, decide_eq_false_iff_not, Bool.and_eq_true, Bool.or_eq_true, Bool.and_eq_false_iff, Bool.or_eq_false_iff, Bool.not_eq_true, Bool.not_eq_eq_eq_not, Bool.not_true, Bool.not_false, Int.not_lt, Int.not_le, ne_eq, Decidable.not_not] at hc21
    refine st_skip ?_
    refine st_then ?_
    refine st_seq ?_
    refine st_block ?_
    refine st_drawStart mixed ?_
    refine st_drawSeg1 (E0 := [(0, _), (1, _), (5, _), (6, _), (8, _), (9, _), (15, _), (21, _)]) [kpeq _, kpeq _, kpeq _, kpeq _, kpeq _, kpeq _, kpeq _, kpeq _, kpeq _, kpeq _, kpeq _] 0 11 [0, 0, 0, 0, 12, 28, 0, 0, 192, 448, 1020, 2047, 4095] [0, 1, 5, 6, 8, 9, 15, 21] (by kernel_rfl) (by decide) (by kernel_rfl) (SubE.cons rfl (SubE.cons rfl (SubE.cons rfl (SubE.cons rfl (SubE.cons rfl (SubE.cons rfl (SubE.cons rfl (SubE.cons rfl (SubE.nil _))))))))) rfl rfl (hall_cons (hop_val [] [] rfl rfl rfl (by decide) rfl (jnil) (xnil) (fun _ _ _ _ => does_v (rv_move rfl))) (hall_cons (hop_val [] [] rfl rfl rfl (by decide) rfl (jnil) (xnil) (fun _ _ _ _ => does_v (rv_move rfl))) (hall_cons (hop_val [] [] rfl rfl rfl (by decide) rfl (jnil) (xnil) (fun _ _ _ _ => does_v (rv_move rfl))) (hall_cons (hop_val [] [] rfl rfl rfl (by decide) rfl (jnil) (xnil) (fun _ _ _ _ => does_v (rv_move rfl))) (hall_cons (hop_val [(2, 26, _), (3, 27, _)] [] rfl rfl rfl (by decide) rfl (jcons rfl rfl rfl rfl rfl (jcons rfl rfl rfl rfl rfl (jnil))) (xnil) (fun _ _ _ _ => does_v (rv_indexR1 (rd_old hA hA.all) Try.underlying22 sz5 rfl rfl rfl (by omega)))) (hall_cons (hop_val [(4, 28, _)] [] rfl rfl rfl (by decide) rfl (jcons rfl rfl rfl rfl rfl (jnil)) (xnil) (fun _ _ _ _ => does_v (rv_load_rd (rd_old hA hA.all) tyS5 rfl (get8 (by first | omega | (simp [length_plusL] <;> omega)))))) (hall_cons (hop_val [] [] rfl rfl rfl (by decide) rfl (jnil) (xnil) (fun _ _ _ _ => does_v (rv_move rfl))) (hall_cons (hop_val [] [] rfl rfl rfl (by decide) rfl (jnil) (xnil) (fun _ _ _ _ => does_v (rv_move rfl))) (hall_cons (hop_val [(6, 30, _), (7, 31, _)] [] rfl rfl rfl (by decide) rfl (jcons rfl rfl rfl rfl rfl (jcons rfl rfl rfl rfl rfl (jnil))) (xnil) (fun _ _ _ _ => does_v (rv_indexR1 (rd_old hB hB.all) Try.underlying22 sz5 rfl rfl rfl (by omega)))) (hall_cons (hop_val [(8, 32, _)] [] rfl rfl rfl (by decide) rfl (jcons rfl rfl rfl rfl rfl (jnil)) (xnil) (fun _ _ _ _ => does_v (rv_load_rd (rd_old hB hB.all) tyS5 rfl (get8 (by first | omega | (simp [length_plusL] <;> omega)))))) (hall_cons (hop_val [(5, 29, _), (9, 33, _)] [] rfl rfl rfl (by decide) rfl (jcons rfl rfl rfl rfl rfl (jcons rfl rfl rfl rfl rfl (jnil))) (xnil) (fun _ _ _ _ => does_v (rv_xor8 rfl rfl))) (hall_nil)))))))))))) (draw_end1 [(0, 24, _), (1, 25, _), (2, 26, _), (3, 27, _), (4, 28, _), (5, 29, _), (6, 30, _), (7, 31, _), (8, 32, _), (9, 33, _), (10, 34, _)] (jcons rfl rfl rfl rfl rfl (jcons rfl rfl rfl rfl rfl (jcons rfl rfl rfl rfl rfl (jcons rfl rfl rfl rfl rfl (jcons rfl rfl rfl rfl rfl (jcons rfl rfl rfl rfl rfl (jcons rfl rfl rfl rfl rfl (jcons rfl rfl rfl rfl rfl (jcons rfl rfl rfl rfl rfl (jcons rfl rfl rfl rfl rfl (jcons rfl rfl rfl rfl rfl (jnil)))))))))))) ?_)
    refine st_drawTail (N := 11) [0, 0, 0, 0, 12, 28, 0, 0, 192, 448, 1020, 2047, 4095] (by kernel_rfl) (by kernel_rfl) ?_
    refine st_v (rv_indexS Try.underlying22 sz5 rfl rfl rfl (by omega) (by first | exact (Nat.zero_add _).trans (Nat.mul_one _) | exact congrArg _ (Nat.mul_one _) | rfl)) (by decide) ?_
    refine st_store8 rfl rfl (i := 0) rfl sz5 (by first | omega | (simp [length_plusL] <;> omega)) (l' := [_]) rfl ?_
    refine st_nil ?_
    refine st_in_normal ?_
    refine st_then ?_
    refine st_region ?_
    refine st_v (rv_move rfl) (by decide) ?_
    first | refine st_v (rv_addN (b := 1) rfl rfl (by first | omega | (simp <;> omega))) (by decide) ?_ | refine st_v (rv_addZ rfl rfl (by first | omega | (simp <;> omega))) (by decide) ?_
    refine st_v (rv_assign rfl) (by decide) ?_
    refine st_nil ?_
    refine st_then ?_
    exact st_again (k + 1) (by omega) (by omega) (SubE.cons rfl (SubE.cons rfl (SubE.cons rfl (SubE.cons rfl (SubE.nil _))))) (fun _ hM => hM)
  · -- t21 False
    try simp only [decide_eq_true_eq, decide_eq_false_iff_not, Bool.and_eq_true, Bool.or_eq_true, Bool.and_eq_false_iff, Bool.or_eq_false_iff, Bool.not_eq_true, Bool.not_eq_eq_eq_not, Bool.not_true, Bool.not_false, Int.not_lt, Int.not_le, ne_eq, Decidable.not_not] at hc21
    obtain rfl : k = 16 := by omega
    refine st_exit ?_
    refine st_then_exit ?_
    refine st_then_exit ?_
    refine st_in_exit ?_
    refine st_then ?_
    refine st_seq ?_
    refine st_region ?_
    refine st_v (rv_move rfl) (by decide) ?_
    refine st_v (rv_assign rfl) (by decide) ?_
    refine st_nil ?_
    refine st_then ?_
    refine st_ret ?_
    exact st_done rfl rfl (fun w hM => ⟨_, rfl, by rw [length_plusL]; exact hM.blkRd8 (i := 0) rfl (length_plusL _ _ _) (Nat.le_refl _)⟩)
end Go.Proofs.Ytpihffpdkfkkhaa
