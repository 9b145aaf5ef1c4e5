/- Walks: what functions of the given program do, operation by operation. Written by wip/gen. -/
import Derived.Test.YtjhjjhpfjadjpaaDoorTy
import Derived.Test.YtjhjjhpfjadjpaaDoorVW
import Derived.Test.YtjhjjhpfjadjpaaDoorML
namespace Go.Proofs.YtjhjjhpfjadjpaaDoor
set_option linter.all false
open Go
set_option maxRecDepth 20000 in
theorem lent_calls (s : List (BitVec 8)) (hs : s.length ≤ 1000000) (w : World) : Calls Tryd.prog 12 #[vS s] w (fun e w' => ∃ v, e = .returned v ∧ Mem (All w) w w' [rdA v (lentL s).length 1 ((lentL s).map U8)]) := by
  refine calls_of_st (n := 28) (args := [vS s]) Tryd.func12 rfl Tryd.ntmps12 (Nat.le_of_ble_eq_true rfl) (Mem.all w) ?_
  refine st_seq ?_
  refine st_region ?_
  refine st_v (rv_assign rfl) (by decide) ?_
  refine st_nil ?_
  refine st_then ?_
  refine st_seq ?_
  refine st_region ?_
  refine st_v (rv_move rfl) (by decide) ?_
  refine st_v (rv_lenB Tryd.underlying9 rfl) (by decide) ?_
  first | refine st_v (rv_addN (b := 160) rfl rfl (by first | omega | (simp; done) | (simp; omega))) (by decide) ?_ | refine st_v (rv_addZ rfl rfl (by first | omega | (simp; done) | (simp; omega))) (by decide) ?_
  refine st_make8 Tryd.underlying22 tyZ5 rfl rfl (by omega) (by omega) (by omega) (by decide) (fun b1 hb1 => ?_)
  refine st_v (rv_assign rfl) (by decide) ?_
  refine st_nil ?_
  refine st_then ?_
  refine st_seq ?_
  refine st_region ?_
  refine st_v (rv_move rfl) (by decide) ?_
  refine st_v (rv_move rfl) (by decide) ?_
  refine st_copy8 Tryd.underlying22 sz5 rfl rfl (i := 0) rfl (by first | omega | (simp [length_lentF]; done) | (simp [length_lentF] <;> omega)) (fun w _ => src_str _) (l' := [_]) rfl (by decide) ?_
  refine st_nil ?_
  refine st_then ?_
  refine st_seq ?_
  refine st_seq ?_
  refine st_region ?_
  refine st_v (rv_move rfl) (by decide) ?_
  refine st_v (rv_lenB Tryd.underlying9 rfl) (by decide) ?_
  refine st_v (rv_assign rfl) (by decide) ?_
  refine st_nil ?_
  refine st_then ?_
  refine st_block ?_
  refine st_loop (σ := Nat) (fun k => [(3, sl b1 0 (s.length + 160) (s.length + 160)), (4, vI (s.length + k : Nat))]) (fun k => [blk b1 (c8 (lentF s k)) 5]) (fun k => k ≤ 160) (fun k => 160 - k) 0 (by omega) (.cons rfl (.cons rfl (.nil _))) (fun _ hM => hM) ?_
  intro k hI
  refine st_seq ?_
  refine st_seq ?_
  refine st_region ?_
  refine st_v (rv_move rfl) (by decide) ?_
  refine st_v (rv_move rfl) (by decide) ?_
  refine st_v (rv_lenS Tryd.underlying22 rfl) (by decide) ?_
  refine st_v (rv_lssZ rfl rfl) (by decide) ?_
  refine st_nil ?_
  refine st_then ?_
  refine st_cond rfl (fun hc17 => ?_) (fun hc17 => ?_)
  · -- t17 True
    try simp only [z1, z2, z3, z4, z5, z6, z7, z8, z9, z10, z11, z12, z13, z14] at hc17
    refine st_skip ?_
    refine st_then ?_
    refine st_seq ?_
    refine st_block ?_
    refine st_region ?_
    refine st_v (rv_move rfl) (by decide) ?_
    refine st_v (rv_move rfl) (by decide) ?_
    refine st_v (rv_move rfl) (by decide) ?_
    refine st_v (rv_remN (b := 251) rfl rfl (by first | omega | (simp; done) | (simp; omega))) (by decide) ?_
    refine st_v (rv_convIto8 Tryd.underlying3 Tryd.underlying5 rfl) (by decide) ?_
    refine st_v (rv_xor8 (b := 165#8) rfl rfl) (by decide) ?_
    refine st_v (rv_indexS Tryd.underlying22 sz5 rfl rfl rfl (by first | omega | (simp [length_lentF] <;> omega)) (by first | exact (Nat.zero_add _).trans (Nat.mul_one _) | exact congrArg _ (Nat.mul_one _) | rfl)) (by decide) ?_
    refine st_store8 rfl rfl (i := 0) rfl sz5 (by first | omega | (simp [length_lentF] <;> omega)) (l' := [_]) rfl ?_
    refine st_nil ?_
    refine st_in_normal ?_
    refine st_then ?_
    refine st_region ?_
    refine st_v (rv_move rfl) (by decide) ?_
    first | refine st_v (rv_addN (b := 1) rfl rfl (by first | omega | (simp; done) | (simp; omega))) (by decide) ?_ | refine st_v (rv_addZ rfl rfl (by first | omega | (simp; done) | (simp; omega))) (by decide) ?_
    refine st_v (rv_assign rfl) (by decide) ?_
    refine st_nil ?_
    refine st_then ?_
    exact st_again (k + 1) (by omega) (by omega) (.cons rfl (.cons rfl (.nil _))) (fun _ hM => hM)
  · -- t17 False
    try simp only [z1, z2, z3, z4, z5, z6, z7, z8, z9, z10, z11, z12, z13, z14] at hc17
    obtain rfl : k = 160 := by omega
    refine st_exit ?_
    refine st_then_exit ?_
    refine st_then_exit ?_
    refine st_in_exit ?_
    refine st_then ?_
    refine st_seq ?_
    refine st_region ?_
    refine st_v (rv_move rfl) (by decide) ?_
    refine st_v (rv_assign rfl) (by decide) ?_
    refine st_nil ?_
    refine st_then ?_
    refine st_ret ?_
    exact st_done rfl rfl (fun w hM => ⟨_, rfl, by rw [length_lentL]; exact hM.blkRd8 (i := 0) rfl (length_lentL s) (Nat.le_refl _)⟩)
set_option maxRecDepth 20000 in
theorem still_calls (v : Value) (s : List (BitVec 8)) (hs : s.length ≤ 1000000) (w : World) (hA : Rd w v (lentL s).length 1 ((lentL s).map U8)) : Calls Tryd.prog 14 #[v, vS s] w (fun r w' => r = .returned (.bool true) ∧ Mem (All w) w w' []) := by
  refine calls_of_st (n := 13) (args := [v, vS s]) Tryd.func14 rfl Tryd.ntmps14 (Nat.le_of_ble_eq_true rfl) (Mem.all w) ?_
  refine st_seq ?_
  refine st_region ?_
  refine st_v (rv_assign rfl) (by decide) ?_
  refine st_nil ?_
  refine st_then ?_
  refine st_seq ?_
  refine st_region ?_
  refine st_v (rv_move rfl) (by decide) ?_
  refine st_callV cal12 rfl (fun w hM => lent_calls _ (by omega) w) (by decide) (fun v1 => ?_)
  refine st_v (rv_assign rfl) (by decide) ?_
  refine st_nil ?_
  refine st_then ?_
  refine st_seq ?_
  refine st_region ?_
  refine st_v (rv_move rfl) (by decide) ?_
  refine st_v (rv_string (rd_old hA hA.all) Tryd.underlying22 Tryd.underlying9 Tryd.underlying5 rfl) (by decide) ?_
  refine st_v (rv_move rfl) (by decide) ?_
  refine st_v (rv_string (rd_rd (i := 0) rfl) Tryd.underlying22 Tryd.underlying9 Tryd.underlying5 rfl) (by decide) ?_
  refine st_v (rv_to (rv_eqlB rfl rfl) (v := .bool (decide (lentL s = lentL s))) (u := .bool true) (by simp)) (by decide) ?_
  refine st_v (rv_assign rfl) (by decide) ?_
  refine st_nil ?_
  refine st_then ?_
  refine st_ret ?_
  exact st_done rfl rfl (fun w hM => ⟨rfl, hM.sublist (List.nil_sublist _)⟩)
end Go.Proofs.YtjhjjhpfjadjpaaDoor
