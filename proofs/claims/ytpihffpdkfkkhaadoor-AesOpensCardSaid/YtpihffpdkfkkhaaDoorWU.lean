/- Walks: what functions of the given program do, operation by operation. Written by wip/gen. -/
import Derived.Test.YtpihffpdkfkkhaaDoorWT
namespace Go.Proofs.YtpihffpdkfkkhaaDoor
set_option linter.all false
open Go
theorem box_calls (x : BitVec 8) (w : World) (hT : Tab w) : Calls Tryd.prog 27 #[U8 x] w (fun r w' => r = .returned (U8 (boxT x)) ∧ Mem (All w) w w' []) := by
  have hS0 : All w 0 := ⟨by have := hT.live; omega, fun h => h⟩
  have hS1 : All w 1 := ⟨by have := hT.live; omega, fun h => h⟩
  refine calls_of_st (n := 12) (args := [U8 x]) Tryd.func27 rfl Tryd.ntmps27 (Nat.le_of_ble_eq_true rfl) (Mem.all w) ?_
  refine st_seq ?_
  refine st_region ?_
  refine st_v (rv_assign rfl) (by decide) ?_
  refine st_nil ?_
  refine st_then ?_
  refine st_seq ?_
  refine st_seq ?_
  refine st_region ?_
  refine st_v (rv_move rfl) (by decide) ?_
  refine st_v (rv_lss8 (b := 128#8) rfl rfl) (by decide) ?_
  refine st_nil ?_
  refine st_then ?_
  refine st_cond rfl (fun hc4 => ?_) (fun hc4 => ?_)
  · -- t4 True
    try simp only [decide_eq_true_eq, decide_eq_false_iff_not, Bool.and_eq_true, Bool.or_eq_true, Bool.and_eq_false_iff, Bool.or_eq_false_iff, Bool.not_eq_true, Bool.not_eq_eq_eq_not, Bool.not_true, Bool.not_false, Int.not_lt, Int.not_le, ne_eq, Decidable.not_not] at hc4
    have hk : x.toNat < 128 := by simpa using hc4
    refine st_seq ?_
    refine st_region ?_
    refine st_v (rv_move rfl) (by decide) ?_
    refine st_v (rv_indexA Tryd.underlying73 sz5 rfl rfl rfl (by first | omega | (simp <;> omega)) (by first | exact (Nat.zero_add _).trans (Nat.mul_one _) | exact congrArg _ (Nat.mul_one _) | exact Nat.zero_add _ | rfl)) (by decide) ?_
    refine st_v (rv_load_cell tyS5 rfl (hT.lo _ (by omega)) hS0) (by decide) ?_
    refine st_v (rv_assign rfl) (by decide) ?_
    refine st_nil ?_
    refine st_then ?_
    refine st_ret ?_
    refine st_then_ret ?_
    exact st_done rfl rfl (fun w hM => ⟨by simp only [boxT, hk, if_true, if_false], hM.sublist (List.nil_sublist _)⟩)
  · -- t4 False
    try simp only [decide_eq_true_eq, decide_eq_false_iff_not, Bool.and_eq_true, Bool.or_eq_true, Bool.and_eq_false_iff, Bool.or_eq_false_iff, Bool.not_eq_true, Bool.not_eq_eq_eq_not, Bool.not_true, Bool.not_false, Int.not_lt, Int.not_le, ne_eq, Decidable.not_not] at hc4
    have hk : ¬ x.toNat < 128 := by
      have := hc4
      simp at this
      omega
    have hk2 : (x - 128#8).toNat < 128 := by
      have := x.isLt
      rw [BitVec.toNat_sub]
      simp
      omega
    refine st_skip ?_
    refine st_then ?_
    refine st_seq ?_
    refine st_region ?_
    refine st_v (rv_move rfl) (by decide) ?_
    refine st_v (rv_sub8 (b := 128#8) rfl rfl) (by decide) ?_
    refine st_v (rv_indexA Tryd.underlying73 sz5 rfl rfl rfl (by first | omega | (simp <;> omega)) (by first | exact (Nat.zero_add _).trans (Nat.mul_one _) | exact congrArg _ (Nat.mul_one _) | exact Nat.zero_add _ | rfl)) (by decide) ?_
    refine st_v (rv_load_cell tyS5 rfl (hT.hi _ (by omega)) hS1) (by decide) ?_
    refine st_v (rv_assign rfl) (by decide) ?_
    refine st_nil ?_
    refine st_then ?_
    refine st_ret ?_
    exact st_done rfl rfl (fun w hM => ⟨by simp only [boxT, hk, if_true, if_false], hM.sublist (List.nil_sublist _)⟩)
theorem sub_calls (b : Nat) (s : List (BitVec 8)) (hs : s.length = 16) (hb : 2 ≤ b) (w : World) (hT : Tab w) (hB : (blk b (c8 s) 43).holds w) : Calls Tryd.prog 30 #[pt b 0] w (fun e w' => e = .returned (.tuple #[]) ∧ Mem (Old w (fun b' => b' = b)) w w' [blk b (c8 (subL boxT s 16)) 43]) := by
  have hS0 : Old w (fun b' => b' = b) 0 := ⟨by have := hT.live; omega, by omega⟩
  have hS1 : Old w (fun b' => b' = b) 1 := ⟨by have := hT.live; omega, by omega⟩
  refine calls_of_st (n := 18) (args := [pt b 0]) Tryd.func30 rfl Tryd.ntmps30 (Nat.le_of_ble_eq_true rfl) (Mem.param hB) ?_
  refine st_seq ?_
  refine st_region ?_
  refine st_v (rv_move rfl) (by decide) ?_
  refine st_v (rv_move rfl) (by decide) ?_
  refine st_nil ?_
  refine st_then ?_
  refine st_block ?_
  refine st_loop (σ := Nat) (fun i => [(0, pt b 0), (4, pt b 0), (5, vI i)]) (fun i => [blk b (c8 (subL boxT s i)) 43]) (fun i => i ≤ 16) (fun i => 16 - i) 0 (by omega) (SubE.cons rfl (SubE.cons rfl (SubE.cons rfl (SubE.nil _)))) (fun _ hM => hM) ?_
  intro i hI
  refine st_seq ?_
  refine st_region ?_
  refine st_v (rv_lssZ rfl rfl) (by decide) ?_
  refine st_nil ?_
  refine st_then ?_
  refine st_seq ?_
  refine st_cond rfl (fun hc6 => ?_) (fun hc6 => ?_)
  · -- t6 True
    try simp only [decide_eq_true_eq, decide_eq_false_iff_not, Bool.and_eq_true, Bool.or_eq_true, Bool.and_eq_false_iff, Bool.or_eq_false_iff, Bool.not_eq_true, Bool.not_eq_eq_eq_not, Bool.not_true, Bool.not_false, Int.not_lt, Int.not_le, ne_eq, Decidable.not_not] at hc6
    refine st_skip ?_
    refine st_then ?_
    refine st_seq ?_
    refine st_block ?_
    refine st_seq ?_
    refine st_drawStart mixed ?_
    refine st_drawSeg1 (E0 := [(0, _), (4, _), (5, _)]) [kpeq _, kpeq _, kpeq _, kpeq _, kpeq _] 0 5 [0, 0, 2, 6, 1, 31] [0, 4, 5] (by kernel_rfl) (by decide) (by kernel_rfl) (SubE.cons rfl (SubE.cons rfl (SubE.cons rfl (SubE.nil _)))) rfl rfl (hall_cons (hop_val [] [] rfl rfl rfl (by decide) rfl (jnil) (xnil) (fun _ _ _ _ => does_v (rv_move rfl))) (hall_cons (hop_val [] [] rfl rfl rfl (by decide) rfl (jnil) (xnil) (fun _ _ _ _ => does_v (rv_nilCheck rfl))) (hall_cons (hop_val [(1, 8, _)] [] rfl rfl rfl (by decide) rfl (jcons rfl rfl rfl rfl rfl (jnil)) (xnil) (fun _ _ _ _ => does_v (rv_indexA Tryd.underlying43 sz5 rfl rfl rfl (by first | omega | (simp [length_subL, hs] <;> omega)) (by first | exact (Nat.zero_add _).trans (Nat.mul_one _) | exact congrArg _ (Nat.mul_one _) | exact Nat.zero_add _ | rfl)))) (hall_cons (hop_val [(2, 9, _)] [] rfl rfl rfl (by decide) rfl (jcons rfl rfl rfl rfl rfl (jnil)) (xnil) (fun _ _ _ _ => does_v (rv_load_blk tyS5 rfl (i := 0) rfl (cell8 (by first | omega | (simp [length_subL, hs] <;> omega)))))) (hall_cons (hop_val [(0, 7, _)] [] rfl rfl rfl (by decide) rfl (jcons rfl rfl rfl rfl rfl (jnil)) (xnil) (fun _ _ _ _ => does_v (rv_assign rfl))) (hall_nil)))))) (draw_end1 [(3, 10, _), (4, 2, _)] (jcons rfl rfl rfl rfl rfl (jcons rfl rfl rfl rfl rfl (jnil))) ?_)
    refine st_drawTail (N := 5) [0, 0, 2, 6, 1, 31] (by kernel_rfl) (by kernel_rfl) ?_
    refine st_v (rv_assign rfl) (by decide) ?_
    refine st_nil ?_
    refine st_then ?_
    refine st_drawStart mixed ?_
    refine st_drawSeg1 (E0 := [(0, _), (2, _), (3, _), (4, _), (5, _)]) [kpeq _, kpeq _, kpeq _, kpeq _, kpeq _] 0 5 [0, 0, 0, 4, 1, 31, 63] [0, 2, 3, 4, 5] (by kernel_rfl) (by decide) (by kernel_rfl) (SubE.cons rfl (SubE.cons rfl (SubE.cons rfl (SubE.cons rfl (SubE.cons rfl (SubE.nil _)))))) rfl rfl (hall_cons (hop_val [] [] rfl rfl rfl (by decide) rfl (jnil) (xnil) (fun _ _ _ _ => does_v (rv_move rfl))) (hall_cons (hop_val [] [] rfl rfl rfl (by decide) rfl (jnil) (xnil) (fun _ _ _ _ => does_v (rv_move rfl))) (hall_cons (hop_val [] [] rfl rfl rfl (by decide) rfl (jnil) (xnil) (fun _ _ _ _ => does_v (rv_move rfl))) (hall_cons (hop_val [(2, 13, _)] [] rfl rfl rfl (by decide) rfl (jcons rfl rfl rfl rfl rfl (jnil)) (xnil) (fun _ _ _ _ => does_call0 cal27 rfl (fun w hM => box_calls _ w (hT.at hM hS0 hS1)))) (hall_cons (hop_val [(0, 11, _)] [] rfl rfl rfl (by decide) rfl (jcons rfl rfl rfl rfl rfl (jnil)) (xnil) (fun _ _ _ _ => does_v (rv_nilCheck rfl))) (hall_nil)))))) (draw_end1 [(1, 12, _), (3, 14, _), (4, 15, _)] (jcons rfl rfl rfl rfl rfl (jcons rfl rfl rfl rfl rfl (jcons rfl rfl rfl rfl rfl (jnil)))) ?_)
    refine st_drawTail (N := 5) [0, 0, 0, 4, 1, 31, 63] (by kernel_rfl) (by kernel_rfl) ?_
    refine st_v (rv_indexA Tryd.underlying43 sz5 rfl rfl rfl (by first | omega | (simp [length_subL, hs] <;> omega)) (by first | exact (Nat.zero_add _).trans (Nat.mul_one _) | exact congrArg _ (Nat.mul_one _) | exact Nat.zero_add _ | rfl)) (by decide) ?_
    refine st_store8 rfl rfl (i := 0) rfl sz5 (by first | omega | (simp [length_subL, hs] <;> omega)) (l' := [_]) rfl ?_
    refine st_nil ?_
    refine st_in_normal ?_
    refine st_then ?_
    refine st_region ?_
    first | refine st_v (rv_addN (b := 1) rfl rfl (by first | omega | (simp <;> omega))) (by decide) ?_ | refine st_v (rv_addZ rfl rfl (by first | omega | (simp <;> omega))) (by decide) ?_
    refine st_v (rv_move rfl) (by decide) ?_
    refine st_nil ?_
    refine st_then ?_
    exact st_again (i + 1) (by omega) (by omega) (SubE.cons rfl (SubE.cons rfl (SubE.cons rfl (SubE.nil _)))) (fun _ hM => hM)
  · -- t6 False
    try simp only [decide_eq_true_eq, decide_eq_false_iff_not, Bool.and_eq_true, Bool.or_eq_true, Bool.and_eq_false_iff, Bool.or_eq_false_iff, Bool.not_eq_true, Bool.not_eq_eq_eq_not, Bool.not_true, Bool.not_false, Int.not_lt, Int.not_le, ne_eq, Decidable.not_not] at hc6
    obtain rfl : i = 16 := by omega
    refine st_exit ?_
    refine st_then_exit ?_
    refine st_then_exit ?_
    refine st_in_exit ?_
    exact st_done0' rfl (fun w hM => ⟨rfl, hM⟩)
theorem mix_calls (b : Nat) (s : List (BitVec 8)) (hs : s.length = 16) (w : World) (hB : (blk b (c8 s) 43).holds w) : Calls Tryd.prog 32 #[pt b 0] w (fun e w' => e = .returned (.tuple #[]) ∧ Mem (Old w (fun b' => b' = b)) w w' [blk b (c8 (mixL s 4)) 43]) := by
  refine calls_of_st (n := 73) (args := [pt b 0]) Tryd.func32 rfl Tryd.ntmps32 (Nat.le_of_ble_eq_true rfl) (Mem.param hB) ?_
  refine st_seq ?_
  refine st_region ?_
  refine st_v (rv_assign rfl) (by decide) ?_
  refine st_nil ?_
  refine st_then ?_
  refine st_block ?_
  refine st_loop (σ := Nat) (fun c => [(0, pt b 0), (2, vI (4 * c : Nat))]) (fun c => [blk b (c8 (mixL s c)) 43]) (fun c => c ≤ 4) (fun c => 4 - c) 0 (by omega) (SubE.cons rfl (SubE.cons rfl (SubE.nil _))) (fun _ hM => hM) ?_
  intro c hI
  refine st_seq ?_
  refine st_seq ?_
  refine st_region ?_
  refine st_v (rv_move rfl) (by decide) ?_
  refine st_v (rv_lssZ rfl rfl) (by decide) ?_
  refine st_nil ?_
  refine st_then ?_
  refine st_cond rfl (fun hc8 => ?_) (fun hc8 => ?_)
  · -- t8 True
    try simp only [decide_eq_true_eq, decide_eq_false_iff_not, Bool.and_eq_true, Bool.or_eq_true, Bool.and_eq_false_iff, Bool.or_eq_false_iff, Bool.not_eq_true, Bool.not_eq_eq_eq_not, Bool.not_true, Bool.not_false, Int.not_lt, Int.not_le, ne_eq, Decidable.not_not] at hc8
    refine st_skip ?_
    refine st_then ?_
    refine st_seq ?_
    refine st_block ?_
    refine st_seq ?_
    refine st_region ?_
    refine st_v (rv_move rfl) (by decide) ?_
    refine st_v (rv_nilCheck rfl) (by decide) ?_
    refine st_v (rv_move rfl) (by decide) ?_
    refine st_v (rv_move rfl) (by decide) ?_
    first | refine st_v (rv_addN (b := 4) rfl rfl (by first | omega | (simp <;> omega))) (by decide) ?_ | refine st_v (rv_addZ rfl rfl (by first | omega | (simp <;> omega))) (by decide) ?_
    refine st_v (rv_move rfl) (by decide) ?_
    first | refine st_v (rv_addN (b := 4) rfl rfl (by first | omega | (simp <;> omega))) (by decide) ?_ | refine st_v (rv_addZ rfl rfl (by first | omega | (simp <;> omega))) (by decide) ?_
    refine st_v (rv_sliceA3 Tryd.underlying43 sz5 rfl rfl rfl rfl rfl rfl rfl (by omega) (by omega) (by omega) (by omega) (k := 4 * c) (c := 4) (d := 4) (by omega) (by omega) (by omega)) (by decide) ?_
    refine st_v (rv_assign rfl) (by decide) ?_
    refine st_nil ?_
    refine st_then ?_
    refine st_seq ?_
    refine st_drawStart mixed ?_
    refine st_drawSeg1 (E0 := [(0, _), (2, _), (3, _)]) [kpeq _, kpeq _, kpeq _, kpeq _, kpeq _, kpeq _, kpeq _, kpeq _, kpeq _, kpeq _, kpeq _, kpeq _, kpeq _, kpeq _] 0 14 [0, 1, 3, 0, 8, 24, 63, 0, 128, 384, 1023, 0, 2048, 6144, 16383, 32767] [0, 2, 3] (by kernel_rfl) (by decide) (by kernel_rfl) (SubE.cons rfl (SubE.cons rfl (SubE.cons rfl (SubE.nil _)))) rfl rfl (hall_cons (hop_val [] [] rfl rfl rfl (by decide) rfl (jnil) (xnil) (fun _ _ _ _ => does_v (rv_move rfl))) (hall_cons (hop_val [(0, 19, _)] [] rfl rfl rfl (by decide) rfl (jcons rfl rfl rfl rfl rfl (jnil)) (xnil) (fun _ _ _ _ => does_v (rv_indexS Tryd.underlying22 sz5 rfl rfl (j := 0) rfl (by first | omega | (simp [length_mixL, length_mixI, hs] <;> omega)) (by first | exact (Nat.zero_add _).trans (Nat.mul_one _) | exact congrArg _ (Nat.mul_one _) | rfl)))) (hall_cons (hop_val [(1, 20, _)] [] rfl rfl rfl (by decide) rfl (jcons rfl rfl rfl rfl rfl (jnil)) (xnil) (fun _ _ _ _ => does_v (rv_load_blk tyS5 rfl (i := 0) rfl (cell8 (by first | omega | (simp [length_mixL, length_mixI, hs] <;> omega)))))) (hall_cons (hop_val [] [] rfl rfl rfl (by decide) rfl (jnil) (xnil) (fun _ _ _ _ => does_v (rv_move rfl))) (hall_cons (hop_val [(3, 22, _)] [] rfl rfl rfl (by decide) rfl (jcons rfl rfl rfl rfl rfl (jnil)) (xnil) (fun _ _ _ _ => does_v (rv_indexS Tryd.underlying22 sz5 rfl rfl (j := 1) rfl (by first | omega | (simp [length_mixL, length_mixI, hs] <;> omega)) (by first | exact (Nat.zero_add _).trans (Nat.mul_one _) | exact congrArg _ (Nat.mul_one _) | rfl)))) (hall_cons (hop_val [(4, 23, _)] [] rfl rfl rfl (by decide) rfl (jcons rfl rfl rfl rfl rfl (jnil)) (xnil) (fun _ _ _ _ => does_v (rv_load_blk tyS5 rfl (i := 0) rfl (cell8 (by first | omega | (simp [length_mixL, length_mixI, hs] <;> omega)))))) (hall_cons (hop_val [(2, 21, _), (5, 24, _)] [] rfl rfl rfl (by decide) rfl (jcons rfl rfl rfl rfl rfl (jcons rfl rfl rfl rfl rfl (jnil))) (xnil) (fun _ _ _ _ => does_v (rv_xor8 rfl rfl))) (hall_cons (hop_val [] [] rfl rfl rfl (by decide) rfl (jnil) (xnil) (fun _ _ _ _ => does_v (rv_move rfl))) (hall_cons (hop_val [(7, 26, _)] [] rfl rfl rfl (by decide) rfl (jcons rfl rfl rfl rfl rfl (jnil)) (xnil) (fun _ _ _ _ => does_v (rv_indexS Tryd.underlying22 sz5 rfl rfl (j := 2) rfl (by first | omega | (simp [length_mixL, length_mixI, hs] <;> omega)) (by first | exact (Nat.zero_add _).trans (Nat.mul_one _) | exact congrArg _ (Nat.mul_one _) | rfl)))) (hall_cons (hop_val [(8, 27, _)] [] rfl rfl rfl (by decide) rfl (jcons rfl rfl rfl rfl rfl (jnil)) (xnil) (fun _ _ _ _ => does_v (rv_load_blk tyS5 rfl (i := 0) rfl (cell8 (by first | omega | (simp [length_mixL, length_mixI, hs] <;> omega)))))) (hall_cons (hop_val [(6, 25, _), (9, 28, _)] [] rfl rfl rfl (by decide) rfl (jcons rfl rfl rfl rfl rfl (jcons rfl rfl rfl rfl rfl (jnil))) (xnil) (fun _ _ _ _ => does_v (rv_xor8 rfl rfl))) (hall_cons (hop_val [] [] rfl rfl rfl (by decide) rfl (jnil) (xnil) (fun _ _ _ _ => does_v (rv_move rfl))) (hall_cons (hop_val [(11, 30, _)] [] rfl rfl rfl (by decide) rfl (jcons rfl rfl rfl rfl rfl (jnil)) (xnil) (fun _ _ _ _ => does_v (rv_indexS Tryd.underlying22 sz5 rfl rfl (j := 3) rfl (by first | omega | (simp [length_mixL, length_mixI, hs] <;> omega)) (by first | exact (Nat.zero_add _).trans (Nat.mul_one _) | exact congrArg _ (Nat.mul_one _) | rfl)))) (hall_cons (hop_val [(12, 31, _)] [] rfl rfl rfl (by decide) rfl (jcons rfl rfl rfl rfl rfl (jnil)) (xnil) (fun _ _ _ _ => does_v (rv_load_blk tyS5 rfl (i := 0) rfl (cell8 (by first | omega | (simp [length_mixL, length_mixI, hs] <;> omega)))))) (hall_nil))))))))))))))) (draw_end1 [(10, 29, _), (13, 32, _)] (jcons rfl rfl rfl rfl rfl (jcons rfl rfl rfl rfl rfl (jnil))) ?_)
    refine st_drawTail (N := 14) [0, 1, 3, 0, 8, 24, 63, 0, 128, 384, 1023, 0, 2048, 6144, 16383, 32767] (by kernel_rfl) (by kernel_rfl) ?_
    refine st_v (rv_xor8 rfl rfl) (by decide) ?_
    refine st_v (rv_assign rfl) (by decide) ?_
    refine st_nil ?_
    refine st_then ?_
    refine st_seq ?_
    refine st_region ?_
    refine st_v (rv_move rfl) (by decide) ?_
    refine st_v (rv_indexS Tryd.underlying22 sz5 rfl rfl (j := 0) rfl (by first | omega | (simp [length_mixL, length_mixI, hs] <;> omega)) (by first | exact (Nat.zero_add _).trans (Nat.mul_one _) | exact congrArg _ (Nat.mul_one _) | rfl)) (by decide) ?_
    refine st_v (rv_load_blk tyS5 rfl (i := 0) rfl (cell8 (by first | omega | (simp [length_mixL, length_mixI, hs] <;> omega)))) (by decide) ?_
    refine st_v (rv_assign rfl) (by decide) ?_
    refine st_nil ?_
    refine st_then ?_
    refine st_seq ?_
    refine st_seq ?_
    refine st_region ?_
    refine st_v (rv_move rfl) (by decide) ?_
    refine st_nil ?_
    refine st_then ?_
    refine st_block ?_
    refine st_loop (σ := Nat) (fun i => [(0, pt b 0), (2, vI (4 * c : Nat)), (3, sl b (4 * c) 4 4), (4, U8 (mixT (mixL s c) c)), (5, U8 ((mixL s c).getD (4 * c) 0#8)), (37, vI i)]) (fun i => [blk b (c8 (mixI (mixL s c) c (mixT (mixL s c) c) i)) 43]) (fun i => i ≤ 3) (fun i => 3 - i) 0 (by omega) (SubE.cons rfl (SubE.cons rfl (SubE.cons rfl (SubE.cons rfl (SubE.cons rfl (SubE.cons rfl (SubE.nil _))))))) (fun _ hM => hM) ?_
    intro i hI
    refine st_seq ?_
    refine st_region ?_
    refine st_v (rv_lssZ rfl rfl) (by decide) ?_
    refine st_nil ?_
    refine st_then ?_
    refine st_seq ?_
    refine st_cond rfl (fun hc38 => ?_) (fun hc38 => ?_)
    · -- t38 True
      try simp only [decide_eq_true_eq, decide_eq_false_iff_not, Bool.and_eq_true, Bool.or_eq_true, Bool.and_eq_false_iff, Bool.or_eq_false_iff, Bool.not_eq_true, Bool.not_eq_eq_eq_not, Bool.not_true, Bool.not_false, Int.not_lt, Int.not_le, ne_eq, Decidable.not_not] at hc38
      refine st_skip ?_
      refine st_then ?_
      refine st_seq ?_
      refine st_block ?_
      refine st_seq ?_
      refine st_region ?_
      refine st_v (rv_move rfl) (by decide) ?_
      refine st_v (rv_assign rfl) (by decide) ?_
      refine st_nil ?_
      refine st_then ?_
      refine st_drawStart mixed ?_
      refine st_drawSeg1 (E0 := [(0, _), (2, _), (3, _), (4, _), (5, _), (6, _), (37, _)]) [kpeq _, kpeq _, kpeq _, kpeq _, kpeq _, kpeq _, kpeq _, kpeq _, kpeq _, kpeq _, kpeq _, kpeq _, kpeq _, kpeq _, kpeq _, kpeq _, kpeq _] 0 17 [0, 0, 3, 7, 0, 0, 0, 96, 224, 0, 0, 1024, 3584, 7680, 16352, 32736, 65520, 131071, 262143, 524287] [0, 2, 3, 4, 5, 6, 37] (by kernel_rfl) (by decide) (by kernel_rfl) (SubE.cons rfl (SubE.cons rfl (SubE.cons rfl (SubE.cons rfl (SubE.cons rfl (SubE.cons rfl (SubE.cons rfl (SubE.nil _)))))))) rfl rfl (hall_cons (hop_val [] [] rfl rfl rfl (by decide) rfl (jnil) (xnil) (fun _ _ _ _ => does_v (rv_move rfl))) (hall_cons (hop_val [] [] rfl rfl rfl (by decide) rfl (jnil) (xnil) (fun _ _ _ _ => does_v (rv_move rfl))) (hall_cons (hop_val [(0, 40, _), (1, 41, _)] [] rfl rfl rfl (by decide) rfl (jcons rfl rfl rfl rfl rfl (jcons rfl rfl rfl rfl rfl (jnil))) (xnil) (fun _ _ _ _ => does_v (rv_indexS Tryd.underlying22 sz5 rfl rfl rfl (by first | omega | (simp [length_mixL, length_mixI, hs] <;> omega)) (by first | exact (Nat.zero_add _).trans (Nat.mul_one _) | exact congrArg _ (Nat.mul_one _) | rfl)))) (hall_cons (hop_val [(2, 42, _)] [] rfl rfl rfl (by decide) rfl (jcons rfl rfl rfl rfl rfl (jnil)) (xnil) (fun _ _ _ _ => does_v (rv_load_blk tyS5 rfl (i := 0) rfl (cell8 (by first | omega | (simp [length_mixL, length_mixI, hs] <;> omega)))))) (hall_cons (hop_val [] [] rfl rfl rfl (by decide) rfl (jnil) (xnil) (fun _ _ _ _ => does_v (rv_move rfl))) (hall_cons (hop_val [] [] rfl rfl rfl (by decide) rfl (jnil) (xnil) (fun _ _ _ _ => does_v (rv_move rfl))) (hall_cons (hop_val [] [] rfl rfl rfl (by decide) rfl (jnil) (xnil) (fun _ _ _ _ => does_v (rv_move rfl))) (hall_cons (hop_val [(5, 45, _), (6, 46, _)] [] rfl rfl rfl (by decide) rfl (jcons rfl rfl rfl rfl rfl (jcons rfl rfl rfl rfl rfl (jnil))) (xnil) (fun _ _ _ _ => does_v (rv_indexS Tryd.underlying22 sz5 rfl rfl rfl (by first | omega | (simp [length_mixL, length_mixI, hs] <;> omega)) (by first | exact (Nat.zero_add _).trans (Nat.mul_one _) | exact congrArg _ (Nat.mul_one _) | rfl)))) (hall_cons (hop_val [(7, 47, _)] [] rfl rfl rfl (by decide) rfl (jcons rfl rfl rfl rfl rfl (jnil)) (xnil) (fun _ _ _ _ => does_v (rv_load_blk tyS5 rfl (i := 0) rfl (cell8 (by first | omega | (simp [length_mixL, length_mixI, hs] <;> omega)))))) (hall_cons (hop_val [] [] rfl rfl rfl (by decide) rfl (jnil) (xnil) (fun _ _ _ _ => does_v (rv_move rfl))) (hall_cons (hop_val [] [] rfl rfl rfl (by decide) rfl (jnil) (xnil) (fun _ _ _ _ => does_v (rv_move rfl))) (hall_cons (hop_val [(10, 50, _)] [] rfl rfl rfl (by decide) rfl (jcons rfl rfl rfl rfl rfl (jnil)) (xnil) (fun _ _ _ _ => does_v (rv_addN (b := 1) rfl rfl (by first | omega | (simp <;> omega))))) (hall_cons (hop_val [(9, 49, _), (11, 51, _)] [] rfl rfl rfl (by decide) rfl (jcons rfl rfl rfl rfl rfl (jcons rfl rfl rfl rfl rfl (jnil))) (xnil) (fun _ _ _ _ => does_v (rv_indexS Tryd.underlying22 sz5 rfl rfl rfl (by first | omega | (simp [length_mixL, length_mixI, hs] <;> omega)) (by first | exact (Nat.zero_add _).trans (Nat.mul_one _) | exact congrArg _ (Nat.mul_one _) | rfl)))) (hall_cons (hop_val [(12, 52, _)] [] rfl rfl rfl (by decide) rfl (jcons rfl rfl rfl rfl rfl (jnil)) (xnil) (fun _ _ _ _ => does_v (rv_load_blk tyS5 rfl (i := 0) rfl (cell8 (by first | omega | (simp [length_mixL, length_mixI, hs] <;> omega)))))) (hall_cons (hop_val [(8, 48, _), (13, 53, _)] [] rfl rfl rfl (by decide) rfl (jcons rfl rfl rfl rfl rfl (jcons rfl rfl rfl rfl rfl (jnil))) (xnil) (fun _ _ _ _ => does_v (rv_xor8 rfl rfl))) (hall_cons (hop_val [(14, 54, _)] [] rfl rfl rfl (by decide) rfl (jcons rfl rfl rfl rfl rfl (jnil)) (xnil) (fun _ _ _ _ => does_call0 cal28 rfl (fun w hM => dbl_calls _ w))) (hall_cons (hop_val [(4, 44, _), (15, 55, _)] [] rfl rfl rfl (by decide) rfl (jcons rfl rfl rfl rfl rfl (jcons rfl rfl rfl rfl rfl (jnil))) (xnil) (fun _ _ _ _ => does_v (rv_xor8 rfl rfl))) (hall_nil)))))))))))))))))) (draw_end1 [(0, 40, _), (1, 41, _), (3, 43, _), (16, 56, _)] (jcons rfl rfl rfl rfl rfl (jcons rfl rfl rfl rfl rfl (jcons rfl rfl rfl rfl rfl (jcons rfl rfl rfl rfl rfl (jnil))))) ?_)
      refine st_drawTail (N := 17) [0, 0, 3, 7, 0, 0, 0, 96, 224, 0, 0, 1024, 3584, 7680, 16352, 32736, 65520, 131071, 262143, 524287] (by kernel_rfl) (by kernel_rfl) ?_
      refine st_v (rv_xor8 rfl rfl) (by decide) ?_
      refine st_v (rv_indexS Tryd.underlying22 sz5 rfl rfl rfl (by first | omega | (simp [length_mixL, length_mixI, hs] <;> omega)) (by first | exact (Nat.zero_add _).trans (Nat.mul_one _) | exact congrArg _ (Nat.mul_one _) | rfl)) (by decide) ?_
      refine st_store8 rfl rfl (i := 0) rfl sz5 (by first | omega | (simp [length_mixL, length_mixI, hs] <;> omega)) (l' := [_]) rfl ?_
      refine st_nil ?_
      refine st_in_normal ?_
      refine st_then ?_
      refine st_region ?_
      first | refine st_v (rv_addN (b := 1) rfl rfl (by first | omega | (simp <;> omega))) (by decide) ?_ | refine st_v (rv_addZ rfl rfl (by first | omega | (simp <;> omega))) (by decide) ?_
      refine st_v (rv_move rfl) (by decide) ?_
      refine st_nil ?_
      refine st_then ?_
      exact st_again (i + 1) (by omega) (by omega) (SubE.cons rfl (SubE.cons rfl (SubE.cons rfl (SubE.cons rfl (SubE.cons rfl (SubE.cons rfl (SubE.nil _))))))) (fun _ hM => hM)
    · -- t38 False
      try simp only [decide_eq_true_eq, decide_eq_false_iff_not, Bool.and_eq_true, Bool.or_eq_true, Bool.and_eq_false_iff, Bool.or_eq_false_iff, Bool.not_eq_true, Bool.not_eq_eq_eq_not, Bool.not_true, Bool.not_false, Int.not_lt, Int.not_le, ne_eq, Decidable.not_not] at hc38
      obtain rfl : i = 3 := by omega
      refine st_exit ?_
      refine st_then_exit ?_
      refine st_then_exit ?_
      refine st_in_exit ?_
      refine st_then ?_
      refine st_drawStart mixed ?_
      refine st_drawSeg1 (E0 := [(0, _), (2, _), (3, _), (4, _), (5, _)]) [kpeq _, kpeq _, kpeq _, kpeq _, kpeq _, kpeq _, kpeq _, kpeq _, kpeq _, kpeq _, kpeq _] 0 11 [0, 1, 3, 0, 0, 16, 48, 0, 240, 496, 1016, 2047, 4095, 8191] [0, 2, 3, 4, 5] (by kernel_rfl) (by decide) (by kernel_rfl) (SubE.cons rfl (SubE.cons rfl (SubE.cons rfl (SubE.cons rfl (SubE.cons rfl (SubE.nil _)))))) rfl rfl (hall_cons (hop_val [] [] rfl rfl rfl (by decide) rfl (jnil) (xnil) (fun _ _ _ _ => does_v (rv_move rfl))) (hall_cons (hop_val [(0, 60, _)] [] rfl rfl rfl (by decide) rfl (jcons rfl rfl rfl rfl rfl (jnil)) (xnil) (fun _ _ _ _ => does_v (rv_indexS Tryd.underlying22 sz5 rfl rfl (j := 3) rfl (by first | omega | (simp [length_mixL, length_mixI, hs] <;> omega)) (by first | exact (Nat.zero_add _).trans (Nat.mul_one _) | exact congrArg _ (Nat.mul_one _) | rfl)))) (hall_cons (hop_val [(1, 61, _)] [] rfl rfl rfl (by decide) rfl (jcons rfl rfl rfl rfl rfl (jnil)) (xnil) (fun _ _ _ _ => does_v (rv_load_blk tyS5 rfl (i := 0) rfl (cell8 (by first | omega | (simp [length_mixL, length_mixI, hs] <;> omega)))))) (hall_cons (hop_val [] [] rfl rfl rfl (by decide) rfl (jnil) (xnil) (fun _ _ _ _ => does_v (rv_move rfl))) (hall_cons (hop_val [] [] rfl rfl rfl (by decide) rfl (jnil) (xnil) (fun _ _ _ _ => does_v (rv_move rfl))) (hall_cons (hop_val [(4, 64, _)] [] rfl rfl rfl (by decide) rfl (jcons rfl rfl rfl rfl rfl (jnil)) (xnil) (fun _ _ _ _ => does_v (rv_indexS Tryd.underlying22 sz5 rfl rfl (j := 3) rfl (by first | omega | (simp [length_mixL, length_mixI, hs] <;> omega)) (by first | exact (Nat.zero_add _).trans (Nat.mul_one _) | exact congrArg _ (Nat.mul_one _) | rfl)))) (hall_cons (hop_val [(5, 65, _)] [] rfl rfl rfl (by decide) rfl (jcons rfl rfl rfl rfl rfl (jnil)) (xnil) (fun _ _ _ _ => does_v (rv_load_blk tyS5 rfl (i := 0) rfl (cell8 (by first | omega | (simp [length_mixL, length_mixI, hs] <;> omega)))))) (hall_cons (hop_val [] [] rfl rfl rfl (by decide) rfl (jnil) (xnil) (fun _ _ _ _ => does_v (rv_move rfl))) (hall_cons (hop_val [(6, 66, _), (7, 67, _)] [] rfl rfl rfl (by decide) rfl (jcons rfl rfl rfl rfl rfl (jcons rfl rfl rfl rfl rfl (jnil))) (xnil) (fun _ _ _ _ => does_v (rv_xor8 rfl rfl))) (hall_cons (hop_val [(8, 68, _)] [] rfl rfl rfl (by decide) rfl (jcons rfl rfl rfl rfl rfl (jnil)) (xnil) (fun _ _ _ _ => does_call0 cal28 rfl (fun w hM => dbl_calls _ w))) (hall_cons (hop_val [(3, 63, _), (9, 69, _)] [] rfl rfl rfl (by decide) rfl (jcons rfl rfl rfl rfl rfl (jcons rfl rfl rfl rfl rfl (jnil))) (xnil) (fun _ _ _ _ => does_v (rv_xor8 rfl rfl))) (hall_nil)))))))))))) (draw_end1 [(0, 60, _), (2, 62, _), (10, 70, _)] (jcons rfl rfl rfl rfl rfl (jcons rfl rfl rfl rfl rfl (jcons rfl rfl rfl rfl rfl (jnil)))) ?_)
      refine st_drawTail (N := 11) [0, 1, 3, 0, 0, 16, 48, 0, 240, 496, 1016, 2047, 4095, 8191] (by kernel_rfl) (by kernel_rfl) ?_
      refine st_v (rv_xor8 rfl rfl) (by decide) ?_
      refine st_v (rv_indexS Tryd.underlying22 sz5 rfl rfl (j := 3) rfl (by first | omega | (simp [length_mixL, length_mixI, hs] <;> omega)) (by first | exact (Nat.zero_add _).trans (Nat.mul_one _) | exact congrArg _ (Nat.mul_one _) | rfl)) (by decide) ?_
      refine st_store8 rfl rfl (i := 0) rfl sz5 (by first | omega | (simp [length_mixL, length_mixI, hs] <;> omega)) (l' := [_]) rfl ?_
      refine st_nil ?_
      refine st_in_normal ?_
      refine st_then ?_
      refine st_region ?_
      refine st_v (rv_move rfl) (by decide) ?_
      first | refine st_v (rv_addN (b := 4) rfl rfl (by first | omega | (simp <;> omega))) (by decide) ?_ | refine st_v (rv_addZ rfl rfl (by first | omega | (simp <;> omega))) (by decide) ?_
      refine st_v (rv_assign rfl) (by decide) ?_
      refine st_nil ?_
      refine st_then ?_
      exact st_again (c + 1) (by omega) (by omega) (SubE.cons rfl (SubE.cons rfl (SubE.nil _))) (fun _ hM => hM)
  · -- t8 False
    try simp only [decide_eq_true_eq, decide_eq_false_iff_not, Bool.and_eq_true, Bool.or_eq_true, Bool.and_eq_false_iff, Bool.or_eq_false_iff, Bool.not_eq_true, Bool.not_eq_eq_eq_not, Bool.not_true, Bool.not_false, Int.not_lt, Int.not_le, ne_eq, Decidable.not_not] at hc8
    obtain rfl : c = 4 := by omega
    refine st_exit ?_
    refine st_then_exit ?_
    refine st_then_exit ?_
    refine st_in_exit ?_
    exact st_done0' rfl (fun w hM => ⟨rfl, hM⟩)
theorem enc_calls (v : Value) (n : Nat) (flat s : List (BitVec 8)) (hs : s.length = 16) (hn : 1 ≤ n ∧ n ≤ 100) (hf : flat.length = n * 16) (w : World) (hT : Tab w) (hR : Rd w v n 16 (flat.map U8)) : Calls Tryd.prog 17 #[v, .agg (c8 s)] w (fun r w' => r = .returned (.agg (c8 (encS flat n s (n - 1)))) ∧ Mem (All w) w w' []) := by
  have hS0 : All w 0 := ⟨by have := hT.live; omega, fun h => h⟩
  have hS1 : All w 1 := ⟨by have := hT.live; omega, fun h => h⟩
  have hlive := hT.live
  refine calls_of_st (n := 31) (args := [v, .agg (c8 s)]) Tryd.func17 rfl Tryd.ntmps17 (Nat.le_of_ble_eq_true rfl) (Mem.all w) ?_
  refine st_seq ?_
  refine st_region ?_
  refine st_box rfl (by decide) (cs := c8 s) rfl (fun b1 hb1 => ?_)
  refine st_alloc tyZ43 (by decide) (cs := c8 (List.replicate 16 0#8)) (rfl) (fun b2 hb2 => ?_)
  refine st_nil ?_
  refine st_then ?_
  refine st_seq ?_
  refine st_region ?_
  refine st_v (rv_move rfl) (by decide) ?_
  refine st_v (rv_indexR (rd_old hR hR.all) Tryd.underlying40 sz43 rfl rfl (j := 0) rfl (by first | omega | (simp [length_encS, length_addL, length_mixL, length_rowsL, length_subL, length_encT, hs, hf, keyOf] <;> omega))) (by decide) ?_
  refine st_v (rv_loadA_rd8 (rd_old hR hR.all) tyA43 rfl (by first | omega | (simp [length_encS, length_addL, length_mixL, length_rowsL, length_subL, length_encT, hs, hf, keyOf] <;> omega))) (by decide) ?_
  refine st_callP cal29 rfl (i := 1) rfl (fun w hM => add_calls _ _ _ (by first | omega | (simp [length_encS, length_addL, length_mixL, length_rowsL, length_subL, length_encT, hs, hf, keyOf]; done) | (simp [length_encS, length_addL, length_mixL, length_rowsL, length_subL, length_encT, hs, hf, keyOf] <;> omega)) (by first | omega | (simp [length_encS, length_addL, length_mixL, length_rowsL, length_subL, length_encT, hs, hf, keyOf]; done) | (simp [length_encS, length_addL, length_mixL, length_rowsL, length_subL, length_encT, hs, hf, keyOf] <;> omega)) w (hM.holdsAt (i := 1) rfl)) (by decide) (l' := [_, _]) rfl ?_
  refine st_nil ?_
  refine st_then ?_
  refine st_seq ?_
  refine st_seq ?_
  refine st_region ?_
  refine st_v (rv_move rfl) (by decide) ?_
  refine st_v (rv_sliceR (rd_old hR hR.all) Tryd.underlying40 sz43 rfl (evB_some (k := 1) rfl rfl) evB_none (by first | omega | (simp [length_encS, length_addL, length_mixL, length_rowsL, length_subL, length_encT, hs, hf, keyOf] <;> omega)) (by first | omega | (simp [length_encS, length_addL, length_mixL, length_rowsL, length_subL, length_encT, hs, hf, keyOf] <;> omega))) (by decide) ?_
  refine st_v (rv_lenR (fun w hM => ((rd_old hR hR.all) w hM).partK8 (by first | omega | (simp [length_encS, length_addL, length_mixL, length_rowsL, length_subL, length_encT, hs, hf, keyOf] <;> omega)) (by first | omega | (simp [length_encS, length_addL, length_mixL, length_rowsL, length_subL, length_encT, hs, hf, keyOf] <;> omega))) Tryd.underlying40 rfl) (by decide) ?_
  refine st_v (rv_move rfl) (by decide) ?_
  refine st_nil ?_
  refine st_then ?_
  refine st_block ?_
  refine st_loop (σ := Nat) (fun k => [(0, v), (3, pt b1 0), (4, pt b2 0), (12, vsub v 1 n 16), (13, vI (n - 1 : Nat)), (14, vI k)]) (fun k => [blk b2 (c8 (List.replicate 16 0#8)) 43, blk b1 (c8 (encS flat n s k)) 43]) (fun k => k ≤ n - 1) (fun k => n - 1 - k) 0 (by omega) (SubE.cons rfl (SubE.cons rfl (SubE.cons rfl (SubE.cons rfl (SubE.cons rfl (SubE.cons rfl (SubE.nil _))))))) (fun _ hM => hM) ?_
  intro k hI
  refine st_seq ?_
  refine st_region ?_
  refine st_v (rv_lssZ rfl rfl) (by decide) ?_
  refine st_nil ?_
  refine st_then ?_
  refine st_seq ?_
  refine st_cond rfl (fun hc15 => ?_) (fun hc15 => ?_)
  · -- t15 True
    try simp only [decide_eq_true_eq, decide_eq_false_iff_not, Bool.and_eq_true, Bool.or_eq_true, Bool.and_eq_false_iff, Bool.or_eq_false_iff, Bool.not_eq_true, Bool.not_eq_eq_eq_not, Bool.not_true, Bool.not_false, Int.not_lt, Int.not_le, ne_eq, Decidable.not_not] at hc15
    refine st_skip ?_
    refine st_then ?_
    refine st_seq ?_
    refine st_block ?_
    refine st_seq ?_
    refine st_region ?_
    refine st_v (rv_move rfl) (by decide) ?_
    refine st_v (rv_indexR (fun w hM => ((rd_old hR hR.all) w hM).partK8 (by first | omega | (simp [length_encS, length_addL, length_mixL, length_rowsL, length_subL, length_encT, hs, hf, keyOf] <;> omega)) (by first | omega | (simp [length_encS, length_addL, length_mixL, length_rowsL, length_subL, length_encT, hs, hf, keyOf] <;> omega))) Tryd.underlying40 sz43 rfl rfl rfl (by first | omega | (simp [length_encS, length_addL, length_mixL, length_rowsL, length_subL, length_encT, hs, hf, keyOf] <;> omega))) (by decide) ?_
    refine st_v (rv_loadA_rd8 (fun w hM => ((rd_old hR hR.all) w hM).partK8 (by first | omega | (simp [length_encS, length_addL, length_mixL, length_rowsL, length_subL, length_encT, hs, hf, keyOf] <;> omega)) (by first | omega | (simp [length_encS, length_addL, length_mixL, length_rowsL, length_subL, length_encT, hs, hf, keyOf] <;> omega))) tyA43 rfl (by first | omega | (simp [length_encS, length_addL, length_mixL, length_rowsL, length_subL, length_encT, hs, hf, keyOf] <;> omega))) (by decide) ?_
    refine st_alloc tyZ43 (by decide) (cs := c8 (List.replicate 16 0#8)) (rfl) (fun b3 hb3 => ?_)
    refine st_v (rv_assign rfl) (by decide) ?_
    refine st_storeW8 rfl rfl (i := 0) rfl sz43 (by first | omega | (simp [length_encS, length_addL, length_mixL, length_rowsL, length_subL, length_encT, hs, hf, keyOf]; done) | (simp [length_encS, length_addL, length_mixL, length_rowsL, length_subL, length_encT, hs, hf, keyOf] <;> omega)) (by first | omega | (simp [length_encS, length_addL, length_mixL, length_rowsL, length_subL, length_encT, hs, hf, keyOf]; done) | (simp [length_encS, length_addL, length_mixL, length_rowsL, length_subL, length_encT, hs, hf, keyOf] <;> omega)) (l' := [_, _, _]) rfl ?_
    refine st_nil ?_
    refine st_then ?_
    refine st_seq ?_
    refine st_region ?_
    refine st_callP cal30 rfl (i := 2) rfl (fun w hM => sub_calls _ _ (by first | omega | (simp [length_encS, length_addL, length_mixL, length_rowsL, length_subL, length_encT, hs, hf, keyOf]; done) | (simp [length_encS, length_addL, length_mixL, length_rowsL, length_subL, length_encT, hs, hf, keyOf] <;> omega)) (by omega) w (hT.at hM hS0 hS1) (hM.holdsAt (i := 2) rfl)) (by decide) (l' := [_, _, _]) rfl ?_
    refine st_nil ?_
    refine st_then ?_
    refine st_seq ?_
    refine st_region ?_
    refine st_callP cal31 rfl (i := 2) rfl (fun w hM => rows_calls _ _ (by first | omega | (simp [length_encS, length_addL, length_mixL, length_rowsL, length_subL, length_encT, hs, hf, keyOf]; done) | (simp [length_encS, length_addL, length_mixL, length_rowsL, length_subL, length_encT, hs, hf, keyOf] <;> omega)) w (hM.holdsAt (i := 2) rfl)) (by decide) (l' := [_, _, _]) rfl ?_
    refine st_nil ?_
    refine st_then ?_
    refine st_seq ?_
    refine st_seq ?_
    refine st_region ?_
    refine st_v (rv_move rfl) (by decide) ?_
    first | refine st_v (rv_addN (b := 2) rfl rfl (by first | omega | (simp <;> omega))) (by decide) ?_ | refine st_v (rv_addZ rfl rfl (by first | omega | (simp <;> omega))) (by decide) ?_
    refine st_v (rv_move rfl) (by decide) ?_
    refine st_v (rv_lenR (rd_old hR hR.all) Tryd.underlying40 rfl) (by decide) ?_
    refine st_v (rv_lssZ rfl rfl) (by decide) ?_
    refine st_nil ?_
    refine st_then ?_
    refine st_cond rfl (fun hc25 => ?_) (fun hc25 => ?_)
    · -- t25 True
      try simp only [decide_eq_true_eq, decide_eq_false_iff_not, Bool.and_eq_true, Bool.or_eq_true, Bool.and_eq_false_iff, Bool.or_eq_false_iff, Bool.not_eq_true, Bool.not_eq_eq_eq_not, Bool.not_true, Bool.not_false, Int.not_lt, Int.not_le, ne_eq, Decidable.not_not] at hc25
      refine st_region ?_
      refine st_callP cal32 rfl (i := 2) rfl (fun w hM => mix_calls _ _ (by first | omega | (simp [length_encS, length_addL, length_mixL, length_rowsL, length_subL, length_encT, hs, hf, keyOf]; done) | (simp [length_encS, length_addL, length_mixL, length_rowsL, length_subL, length_encT, hs, hf, keyOf] <;> omega)) w (hM.holdsAt (i := 2) rfl)) (by decide) (l' := [_, _, _]) rfl ?_
      refine st_nil ?_
      refine st_then ?_
      refine st_region ?_
      refine st_v (rv_loadW_blk tyA43 rfl (i := 0) rfl (by first | omega | (simp [length_encS, length_addL, length_mixL, length_rowsL, length_subL, length_encT, hs, hf, keyOf]; done) | (simp [length_encS, length_addL, length_mixL, length_rowsL, length_subL, length_encT, hs, hf, keyOf] <;> omega))) (by decide) ?_
      refine st_callP cal29 rfl (i := 2) rfl (fun w hM => add_calls _ _ _ (by first | omega | (simp [length_encS, length_addL, length_mixL, length_rowsL, length_subL, length_encT, hs, hf, keyOf]; done) | (simp [length_encS, length_addL, length_mixL, length_rowsL, length_subL, length_encT, hs, hf, keyOf] <;> omega)) (by first | omega | (simp [length_encS, length_addL, length_mixL, length_rowsL, length_subL, length_encT, hs, hf, keyOf]; done) | (simp [length_encS, length_addL, length_mixL, length_rowsL, length_subL, length_encT, hs, hf, keyOf] <;> omega)) w (hM.holdsAt (i := 2) rfl)) (by decide) (l' := [_, _, _]) rfl ?_
      refine st_nil ?_
      refine st_in_normal ?_
      refine st_then ?_
      refine st_region ?_
      first | refine st_v (rv_addN (b := 1) rfl rfl (by first | omega | (simp <;> omega))) (by decide) ?_ | refine st_v (rv_addZ rfl rfl (by first | omega | (simp <;> omega))) (by decide) ?_
      refine st_v (rv_move rfl) (by decide) ?_
      refine st_nil ?_
      refine st_then ?_
      exact st_again (k + 1) (by omega) (by omega) (SubE.cons rfl (SubE.cons rfl (SubE.cons rfl (SubE.cons rfl (SubE.cons rfl (SubE.cons rfl (SubE.nil _))))))) (by intro w hM; have hM := hM.sublist (List.sublist_cons_self _ _); first | (rw [encS, if_pos (by omega)]; exact hM) | (rw [encS, if_neg (by omega)]; exact hM))
    · -- t25 False
      try simp only [decide_eq_true_eq, decide_eq_false_iff_not, Bool.and_eq_true, Bool.or_eq_true, Bool.and_eq_false_iff, Bool.or_eq_false_iff, Bool.not_eq_true, Bool.not_eq_eq_eq_not, Bool.not_true, Bool.not_false, Int.not_lt, Int.not_le, ne_eq, Decidable.not_not] at hc25
      refine st_skip ?_
      refine st_then ?_
      refine st_region ?_
      refine st_v (rv_loadW_blk tyA43 rfl (i := 0) rfl (by first | omega | (simp [length_encS, length_addL, length_mixL, length_rowsL, length_subL, length_encT, hs, hf, keyOf]; done) | (simp [length_encS, length_addL, length_mixL, length_rowsL, length_subL, length_encT, hs, hf, keyOf] <;> omega))) (by decide) ?_
      refine st_callP cal29 rfl (i := 2) rfl (fun w hM => add_calls _ _ _ (by first | omega | (simp [length_encS, length_addL, length_mixL, length_rowsL, length_subL, length_encT, hs, hf, keyOf]; done) | (simp [length_encS, length_addL, length_mixL, length_rowsL, length_subL, length_encT, hs, hf, keyOf] <;> omega)) (by first | omega | (simp [length_encS, length_addL, length_mixL, length_rowsL, length_subL, length_encT, hs, hf, keyOf]; done) | (simp [length_encS, length_addL, length_mixL, length_rowsL, length_subL, length_encT, hs, hf, keyOf] <;> omega)) w (hM.holdsAt (i := 2) rfl)) (by decide) (l' := [_, _, _]) rfl ?_
      refine st_nil ?_
      refine st_in_normal ?_
      refine st_then ?_
      refine st_region ?_
      first | refine st_v (rv_addN (b := 1) rfl rfl (by first | omega | (simp <;> omega))) (by decide) ?_ | refine st_v (rv_addZ rfl rfl (by first | omega | (simp <;> omega))) (by decide) ?_
      refine st_v (rv_move rfl) (by decide) ?_
      refine st_nil ?_
      refine st_then ?_
      exact st_again (k + 1) (by omega) (by omega) (SubE.cons rfl (SubE.cons rfl (SubE.cons rfl (SubE.cons rfl (SubE.cons rfl (SubE.cons rfl (SubE.nil _))))))) (by intro w hM; have hM := hM.sublist (List.sublist_cons_self _ _); first | (rw [encS, if_pos (by omega)]; exact hM) | (rw [encS, if_neg (by omega)]; exact hM))
  · -- t15 False
    try simp only [decide_eq_true_eq, decide_eq_false_iff_not, Bool.and_eq_true, Bool.or_eq_true, Bool.and_eq_false_iff, Bool.or_eq_false_iff, Bool.not_eq_true, Bool.not_eq_eq_eq_not, Bool.not_true, Bool.not_false, Int.not_lt, Int.not_le, ne_eq, Decidable.not_not] at hc15
    obtain rfl : k = n - 1 := by omega
    refine st_exit ?_
    refine st_then_exit ?_
    refine st_then_exit ?_
    refine st_in_exit ?_
    refine st_then ?_
    refine st_seq ?_
    refine st_region ?_
    refine st_v (rv_loadW_blk tyA43 rfl (i := 1) rfl (by first | omega | (simp [length_encS, length_addL, length_mixL, length_rowsL, length_subL, length_encT, hs, hf, keyOf]; done) | (simp [length_encS, length_addL, length_mixL, length_rowsL, length_subL, length_encT, hs, hf, keyOf] <;> omega))) (by decide) ?_
    refine st_storeW8 rfl rfl (i := 0) rfl sz43 (by first | omega | (simp [length_encS, length_addL, length_mixL, length_rowsL, length_subL, length_encT, hs, hf, keyOf]; done) | (simp [length_encS, length_addL, length_mixL, length_rowsL, length_subL, length_encT, hs, hf, keyOf] <;> omega)) (by first | omega | (simp [length_encS, length_addL, length_mixL, length_rowsL, length_subL, length_encT, hs, hf, keyOf]; done) | (simp [length_encS, length_addL, length_mixL, length_rowsL, length_subL, length_encT, hs, hf, keyOf] <;> omega)) (l' := [_, _]) rfl ?_
    refine st_nil ?_
    refine st_then ?_
    refine st_ret ?_
    exact st_doneC tyA43 rfl rfl (i := 0) rfl (by first | omega | (simp [length_encS, length_addL, length_mixL, length_rowsL, length_subL, length_encT, hs, hf, keyOf]; done) | (simp [length_encS, length_addL, length_mixL, length_rowsL, length_subL, length_encT, hs, hf, keyOf] <;> omega)) (fun w hM => ⟨rfl, hM.sublist (List.nil_sublist _)⟩)
end Go.Proofs.YtpihffpdkfkkhaaDoor
