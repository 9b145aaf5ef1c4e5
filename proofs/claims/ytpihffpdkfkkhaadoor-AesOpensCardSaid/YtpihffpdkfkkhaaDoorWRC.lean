/- Walks: what functions of the given program do, operation by operation. Written by wip/gen. -/
import Derived.Test.YtpihffpdkfkkhaaDoorWT
namespace Go.Proofs.YtpihffpdkfkkhaaDoor
set_option linter.all false
open Go
set_option maxHeartbeats 1000000 in
theorem subst_calls (x : BitVec 8) (w : World) : Calls Tryd.prog 33 #[U8 x] w (fun r w' => r = .returned (U8 (subst1 x)) ∧ Mem (All w) w w' []) := by
  refine calls_of_st (n := 38) (args := [U8 x]) Tryd.func33 rfl Tryd.ntmps33 (Nat.le_of_ble_eq_true rfl) (Mem.all w) ?_
  refine st_seq ?_
  refine st_region ?_
  refine st_v (rv_assign rfl) (by decide) ?_
  refine st_nil ?_
  refine st_then ?_
  refine st_seq ?_
  refine st_region ?_
  refine st_v (rv_assign rfl) (by decide) ?_
  refine st_nil ?_
  refine st_then ?_
  refine st_seq ?_
  refine st_seq ?_
  refine st_region ?_
  refine st_v (rv_assign rfl) (by decide) ?_
  refine st_nil ?_
  refine st_then ?_
  refine st_block ?_
  refine st_loop (σ := Nat) (fun k => [(0, U8 x), (3, U8 (pw x k)), (4, vI k)]) (fun k => []) (fun k => k ≤ 254) (fun k => 254 - k) 0 (by omega) (SubE.cons rfl (SubE.cons rfl (SubE.cons rfl (SubE.nil _)))) (fun _ hM => hM) ?_
  intro k hI
  refine st_seq ?_
  refine st_seq ?_
  refine st_region ?_
  refine st_v (rv_move rfl) (by decide) ?_
  refine st_v (rv_lssZ rfl rfl) (by decide) ?_
  refine st_nil ?_
  refine st_then ?_
  refine st_cond rfl (fun hc6 => ?_) (fun hc6 => ?_)
  · -- t6 True
    try simp only [decide_eq_true_eq, decide_eq_false_iff_not, Bool.and_eq_true, Bool.or_eq_true, Bool.and_eq_false_iff, Bool.or_eq_false_iff, Bool.not_eq_true, Bool.not_eq_eq_eq_not, Bool.not_true, Bool.not_false, Int.not_lt, Int.not_le, ne_eq, Decidable.not_not] at hc6
    refine st_skip ?_
    refine st_then ?_
    refine st_seq ?_
    refine st_block ?_
    refine st_region ?_
    refine st_v (rv_move rfl) (by decide) ?_
    refine st_v (rv_move rfl) (by decide) ?_
    refine st_call0 cal20 rfl (fun w hM => prod_calls _ _ w) (by decide) ?_
    refine st_v (rv_assign rfl) (by decide) ?_
    refine st_nil ?_
    refine st_in_normal ?_
    refine st_then ?_
    refine st_region ?_
    refine st_v (rv_move rfl) (by decide) ?_
    first | refine st_v (rv_addN (b := 1) rfl rfl (by first | omega | (simp <;> omega))) (by decide) ?_ | refine st_v (rv_addZ rfl rfl (by first | omega | (simp <;> omega))) (by decide) ?_
    refine st_v (rv_assign rfl) (by decide) ?_
    refine st_nil ?_
    refine st_then ?_
    exact st_again (k + 1) (by omega) (by omega) (SubE.cons rfl (SubE.cons rfl (SubE.cons rfl (SubE.nil _)))) (fun _ hM => hM)
  · -- t6 False
    try simp only [decide_eq_true_eq, decide_eq_false_iff_not, Bool.and_eq_true, Bool.or_eq_true, Bool.and_eq_false_iff, Bool.or_eq_false_iff, Bool.not_eq_true, Bool.not_eq_eq_eq_not, Bool.not_true, Bool.not_false, Int.not_lt, Int.not_le, ne_eq, Decidable.not_not] at hc6
    obtain rfl : k = 254 := by omega
    refine st_exit ?_
    refine st_then_exit ?_
    refine st_then_exit ?_
    refine st_in_exit ?_
    refine st_then ?_
    refine st_seq ?_
    refine st_region ?_
    refine st_v (rv_move rfl) (by decide) ?_
    refine st_v (rv_move rfl) (by decide) ?_
    refine st_v (rv_shl8 (s := 1) rfl rfl rfl) (by decide) ?_
    refine st_v (rv_move rfl) (by decide) ?_
    refine st_v (rv_shr8 (s := 7) rfl rfl rfl) (by decide) ?_
    refine st_v (rv_or8 rfl rfl) (by decide) ?_
    refine st_v (rv_xor8 rfl rfl) (by decide) ?_
    refine st_v (rv_move rfl) (by decide) ?_
    refine st_v (rv_shl8 (s := 2) rfl rfl rfl) (by decide) ?_
    refine st_v (rv_move rfl) (by decide) ?_
    refine st_v (rv_shr8 (s := 6) rfl rfl rfl) (by decide) ?_
    refine st_v (rv_or8 rfl rfl) (by decide) ?_
    refine st_v (rv_xor8 rfl rfl) (by decide) ?_
    refine st_v (rv_move rfl) (by decide) ?_
    refine st_v (rv_shl8 (s := 3) rfl rfl rfl) (by decide) ?_
    refine st_v (rv_move rfl) (by decide) ?_
    refine st_v (rv_shr8 (s := 5) rfl rfl rfl) (by decide) ?_
    refine st_v (rv_or8 rfl rfl) (by decide) ?_
    refine st_v (rv_xor8 rfl rfl) (by decide) ?_
    refine st_v (rv_move rfl) (by decide) ?_
    refine st_v (rv_shl8 (s := 4) rfl rfl rfl) (by decide) ?_
    refine st_v (rv_move rfl) (by decide) ?_
    refine st_v (rv_shr8 (s := 4) rfl rfl rfl) (by decide) ?_
    refine st_v (rv_or8 rfl rfl) (by decide) ?_
    refine st_v (rv_xor8 rfl rfl) (by decide) ?_
    refine st_v (rv_xor8 (b := 99#8) rfl rfl) (by decide) ?_
    refine st_v (rv_assign rfl) (by decide) ?_
    refine st_nil ?_
    refine st_then ?_
    refine st_ret ?_
    exact st_done rfl rfl (fun w hM => ⟨rfl, hM.sublist (List.nil_sublist _)⟩)
theorem rbox_calls (w : World) : Calls Tryd.prog 18 #[] w (fun e w' => ∃ v, e = .returned v ∧ Mem (All w) w w' [rdA v 256 1 ((boxR 256).map U8)]) := by
  refine calls_of_st (n := 16) (args := []) Tryd.func18 rfl Tryd.ntmps18 (Nat.le_of_ble_eq_true rfl) (Mem.all w) ?_
  refine st_seq ?_
  refine st_region ?_
  refine st_v (rv_assign rfl) (by decide) ?_
  refine st_nil ?_
  refine st_then ?_
  refine st_seq ?_
  refine st_region ?_
  refine st_v (rv_assign rfl) (by decide) ?_
  refine st_nil ?_
  refine st_then ?_
  refine st_seq ?_
  refine st_seq ?_
  refine st_region ?_
  refine st_v (rv_assign rfl) (by decide) ?_
  refine st_nil ?_
  refine st_then ?_
  refine st_block ?_
  refine st_loop (σ := Nat × Value) (fun (k, u) => [(1, u), (2, vI k)]) (fun (k, u) => [own u 5 1 k ((boxR k).map U8)]) (fun (k, u) => k ≤ 256) (fun (k, u) => 256 - k) (0, _) (by omega) (SubE.cons rfl (SubE.cons rfl (SubE.nil _))) (fun _ hM => hM.ownNil 5 1) ?_
  intro ⟨k, u⟩ hI
  dsimp only at hI ⊢
  refine st_seq ?_
  refine st_seq ?_
  refine st_region ?_
  refine st_v (rv_move rfl) (by decide) ?_
  refine st_v (rv_lssZ rfl rfl) (by decide) ?_
  refine st_nil ?_
  refine st_then ?_
  refine st_cond rfl (fun hc5 => ?_) (fun hc5 => ?_)
  · -- t5 True
    try simp only [decide_eq_true_eq, decide_eq_false_iff_not, Bool.and_eq_true, Bool.or_eq_true, Bool.and_eq_false_iff, Bool.or_eq_false_iff, Bool.not_eq_true, Bool.not_eq_eq_eq_not, Bool.not_true, Bool.not_false, Int.not_lt, Int.not_le, ne_eq, Decidable.not_not] at hc5
    refine st_skip ?_
    refine st_then ?_
    refine st_seq ?_
    refine st_block ?_
    refine st_seq ?_
    refine st_region ?_
    refine st_v (rv_move rfl) (by decide) ?_
    refine st_v (rv_convIto8 Tryd.underlying3 Tryd.underlying5 rfl) (by decide) ?_
    refine st_call0 cal33 rfl (fun w hM => subst_calls _ w) (by decide) ?_
    refine st_v (rv_assign rfl) (by decide) ?_
    refine st_nil ?_
    refine st_then ?_
    refine st_region ?_
    refine st_v (rv_move rfl) (by decide) ?_
    refine st_v (rv_move rfl) (by decide) ?_
    refine st_buildSlice Tryd.underlying22 tyZ5 rfl rfl (by decide) (cs := #[_]) rfl (by decide) (fun b1 hb1 => ?_)
    refine st_append8 Tryd.underlying22 Tryd.underlying22 (.inr ⟨_, rfl⟩) tyZ5 rfl rfl rfl (i := 1) rfl (fun w hM => src_rd ((rd_l8 (q := [_]) (len := 1) (i := 0) rfl rfl rfl (by omega)) w hM) (one8 _)) (by first | omega | (simp [length_boxR] <;> omega)) (by first | omega | (simp [length_boxR] <;> omega)) (by decide) (fun vo => ?_)
    refine st_v (rv_assign rfl) (by decide) ?_
    refine st_nil ?_
    refine st_in_normal ?_
    refine st_then ?_
    refine st_region ?_
    refine st_v (rv_move rfl) (by decide) ?_
    first | refine st_v (rv_addN (b := 1) rfl rfl (by first | omega | (simp <;> omega))) (by decide) ?_ | refine st_v (rv_addZ rfl rfl (by first | omega | (simp <;> omega))) (by decide) ?_
    refine st_v (rv_assign rfl) (by decide) ?_
    refine st_nil ?_
    refine st_then ?_
    exact st_again (k + 1, _) (by omega) (by omega) (SubE.cons rfl (SubE.cons rfl (SubE.nil _))) (by intro w hM; have hM := hM.sublist (List.sublist_cons_self _ _); simp only [boxR]; exact hM)
  · -- t5 False
    try simp only [decide_eq_true_eq, decide_eq_false_iff_not, Bool.and_eq_true, Bool.or_eq_true, Bool.and_eq_false_iff, Bool.or_eq_false_iff, Bool.not_eq_true, Bool.not_eq_eq_eq_not, Bool.not_true, Bool.not_false, Int.not_lt, Int.not_le, ne_eq, Decidable.not_not] at hc5
    obtain rfl : k = 256 := by omega
    refine st_exit ?_
    refine st_then_exit ?_
    refine st_then_exit ?_
    refine st_in_exit ?_
    refine st_then ?_
    refine st_seq ?_
    refine st_region ?_
    refine st_v (rv_move rfl) (by decide) ?_
    refine st_v (rv_assign rfl) (by decide) ?_
    refine st_nil ?_
    refine st_then ?_
    refine st_ret ?_
    exact st_done rfl rfl (fun w hM => ⟨_, rfl, hM.toRd (i := 0) rfl⟩)
theorem eachO_calls (v x : Value) (s bx : List (BitVec 8)) (hs : s.length ≤ 1000) (hx : bx.length = 256) (w : World) (hR : Rd w v s.length 1 (s.map U8)) (hX : Rd w x 256 1 (bx.map U8)) : Calls Tryd.prog 19 #[v, x] w (fun e w' => ∃ v, e = .returned v ∧ Mem (All w) w w' [own v 5 1 s.length ((eachR s bx s.length).map U8)]) := by
  refine calls_of_st (n := 24) (args := [v, x]) Tryd.func19 rfl Tryd.ntmps19 (Nat.le_of_ble_eq_true rfl) (Mem.all w) ?_
  refine st_seq ?_
  refine st_region ?_
  refine st_v (rv_assign rfl) (by decide) ?_
  refine st_nil ?_
  refine st_then ?_
  refine st_seq ?_
  refine st_region ?_
  refine st_v (rv_assign rfl) (by decide) ?_
  refine st_nil ?_
  refine st_then ?_
  refine st_seq ?_
  refine st_seq ?_
  refine st_region ?_
  refine st_v (rv_assign rfl) (by decide) ?_
  refine st_nil ?_
  refine st_then ?_
  refine st_block ?_
  refine st_loop (σ := Nat × Value) (fun (k, u) => [(0, v), (1, x), (5, u), (6, vI k)]) (fun (k, u) => [own u 5 1 k ((eachR s bx k).map U8)]) (fun (k, u) => k ≤ s.length) (fun (k, u) => s.length - k) (0, _) (by omega) (SubE.cons rfl (SubE.cons rfl (SubE.cons rfl (SubE.cons rfl (SubE.nil _))))) (fun _ hM => hM.ownNil 5 1) ?_
  intro ⟨k, u⟩ hI
  dsimp only at hI ⊢
  refine st_seq ?_
  refine st_seq ?_
  refine st_region ?_
  refine st_v (rv_move rfl) (by decide) ?_
  refine st_v (rv_move rfl) (by decide) ?_
  refine st_v (rv_lenR (rd_old hR hR.all) Tryd.underlying22 rfl) (by decide) ?_
  refine st_v (rv_lssZ rfl rfl) (by decide) ?_
  refine st_nil ?_
  refine st_then ?_
  refine st_cond rfl (fun hc10 => ?_) (fun hc10 => ?_)
  · -- t10 True
    try simp only [decide_eq_true_eq, decide_eq_false_iff_not, Bool.and_eq_true, Bool.or_eq_true, Bool.and_eq_false_iff, Bool.or_eq_false_iff, Bool.not_eq_true, Bool.not_eq_eq_eq_not, Bool.not_true, Bool.not_false, Int.not_lt, Int.not_le, ne_eq, Decidable.not_not] at hc10
    refine st_skip ?_
    refine st_then ?_
    refine st_seq ?_
    refine st_block ?_
    refine st_region ?_
    refine st_v (rv_move rfl) (by decide) ?_
    refine st_v (rv_move rfl) (by decide) ?_
    refine st_v (rv_move rfl) (by decide) ?_
    refine st_v (rv_move rfl) (by decide) ?_
    refine st_v (rv_indexR1 (rd_old hR hR.all) Tryd.underlying22 sz5 rfl rfl rfl (by first | omega | exact BitVec.isLt _)) (by decide) ?_
    refine st_v (rv_load_rd (rd_old hR hR.all) tyS5 rfl (get8 (by first | omega | (simp [length_eachR, hx] <;> omega)))) (by decide) ?_
    refine st_v (rv_indexR1 (rd_old hX hX.all) Tryd.underlying22 sz5 rfl rfl rfl (by first | omega | exact BitVec.isLt _)) (by decide) ?_
    refine st_v (rv_load_rd (rd_old hX hX.all) tyS5 rfl (get8 (by first | omega | (simp [length_eachR, hx] <;> omega)))) (by decide) ?_
    refine st_buildSlice Tryd.underlying22 tyZ5 rfl rfl (by decide) (cs := #[_]) rfl (by decide) (fun b1 hb1 => ?_)
    refine st_append8 Tryd.underlying22 Tryd.underlying22 (.inr ⟨_, rfl⟩) tyZ5 rfl rfl rfl (i := 1) rfl (fun w hM => src_rd ((rd_l8 (q := [_]) (len := 1) (i := 0) rfl rfl rfl (by omega)) w hM) (one8 _)) (by first | omega | (simp [length_eachR] <;> omega)) (by first | omega | (simp [length_eachR] <;> omega)) (by decide) (fun vo => ?_)
    refine st_v (rv_assign rfl) (by decide) ?_
    refine st_nil ?_
    refine st_in_normal ?_
    refine st_then ?_
    refine st_region ?_
    refine st_v (rv_move rfl) (by decide) ?_
    first | refine st_v (rv_addN (b := 1) rfl rfl (by first | omega | (simp <;> omega))) (by decide) ?_ | refine st_v (rv_addZ rfl rfl (by first | omega | (simp <;> omega))) (by decide) ?_
    refine st_v (rv_assign rfl) (by decide) ?_
    refine st_nil ?_
    refine st_then ?_
    exact st_again (k + 1, _) (by omega) (by omega) (SubE.cons rfl (SubE.cons rfl (SubE.cons rfl (SubE.cons rfl (SubE.nil _))))) (by intro w hM; have hM := hM.sublist (List.sublist_cons_self _ _); simp only [eachR]; exact hM)
  · -- t10 False
    try simp only [decide_eq_true_eq, decide_eq_false_iff_not, Bool.and_eq_true, Bool.or_eq_true, Bool.and_eq_false_iff, Bool.or_eq_false_iff, Bool.not_eq_true, Bool.not_eq_eq_eq_not, Bool.not_true, Bool.not_false, Int.not_lt, Int.not_le, ne_eq, Decidable.not_not] at hc10
    obtain rfl : k = s.length := by omega
    refine st_exit ?_
    refine st_then_exit ?_
    refine st_then_exit ?_
    refine st_in_exit ?_
    refine st_then ?_
    refine st_seq ?_
    refine st_region ?_
    refine st_v (rv_move rfl) (by decide) ?_
    refine st_v (rv_assign rfl) (by decide) ?_
    refine st_nil ?_
    refine st_then ?_
    refine st_ret ?_
    exact st_done rfl rfl (fun w hM => ⟨_, rfl, hM⟩)
theorem each_calls (v x : Value) (s bx : List (BitVec 8)) (hs : s.length ≤ 1000) (hx : bx.length = 256) (w : World) (hR : Rd w v s.length 1 (s.map U8)) (hX : Rd w x 256 1 (bx.map U8)) : Calls Tryd.prog 19 #[v, x] w (fun e w' => ∃ v, e = .returned v ∧ Mem (All w) w w' [rdA v s.length 1 ((eachR s bx s.length).map U8)]) :=
  (eachO_calls v x s bx hs hx w hR hX).mono fun e w' ⟨v, h1, h2⟩ => ⟨v, h1, h2.toRd (i := 0) rfl⟩
theorem each4_calls (v x : Value) (s bx : List (BitVec 8)) (hs : s.length = 4) (hx : bx.length = 256) (w : World) (hR : Rd w v 4 1 (s.map U8)) (hX : Rd w x 256 1 (bx.map U8)) : Calls Tryd.prog 19 #[v, x] w (fun e w' => ∃ v, e = .returned v ∧ Mem (All w) w w' [own v 5 1 4 ((eachR s bx 4).map U8)]) := by
  have h := eachO_calls v x s bx (by omega) hx w (by rw [hs]; exact hR) hX
  rw [hs] at h
  exact h
theorem each16_calls (v x : Value) (s bx : List (BitVec 8)) (hs : s.length = 16) (hx : bx.length = 256) (w : World) (hR : Rd w v 16 1 (s.map U8)) (hX : Rd w x 256 1 (bx.map U8)) : Calls Tryd.prog 19 #[v, x] w (fun e w' => ∃ v, e = .returned v ∧ Mem (All w) w w' [rdA v 16 1 ((eachR s bx 16).map U8)]) := by
  have h := each_calls v x s bx (by omega) hx w (by rw [hs]; exact hR) hX
  rw [hs] at h
  exact h
end Go.Proofs.YtpihffpdkfkkhaaDoor
