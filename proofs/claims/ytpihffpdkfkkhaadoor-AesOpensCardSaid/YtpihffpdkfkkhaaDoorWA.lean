/- Walks: what functions of the given program do, operation by operation. Written by wip/gen. -/
import Derived.Test.YtpihffpdkfkkhaaDoorTy
import Derived.Test.YtpihffpdkfkkhaaDoorMA
namespace Go.Proofs.YtpihffpdkfkkhaaDoor
set_option linter.all false
open Go
theorem plus_calls (a b : El) (w : World) : Calls Tryd.prog 41 #[elV a, elV b] w (fun r w' => r = .returned (elV (elPlus a b)) ∧ Mem (All w) w w' []) := by
  refine calls_of_st (n := 16) (args := [elV a, elV b]) Tryd.func41 rfl Tryd.ntmps41 (Nat.le_of_ble_eq_true rfl) (Mem.all w) ?_
  refine st_seq ?_
  refine st_region ?_
  refine st_box rfl (by decide) rfl (fun b1 hb1 => ?_)
  refine st_box rfl (by decide) rfl (fun b2 hb2 => ?_)
  refine st_alloc tyZ68 (by decide) (cs := #[.int .u64 0, .int .u64 0]) (rfl) (fun b3 hb3 => ?_)
  refine st_nil ?_
  refine st_then ?_
  refine st_seq ?_
  refine st_region ?_
  refine st_v (rv_fieldAddr Tryd.underlying68 (fs := _) rfl sz66 rfl rfl) (by decide) ?_
  refine st_v (rv_load_blk tyS66 rfl (i := 2) rfl rfl) (by decide) ?_
  refine st_v (rv_fieldAddr Tryd.underlying68 (fs := _) rfl sz66 rfl rfl) (by decide) ?_
  refine st_v (rv_load_blk tyS66 rfl (i := 1) rfl rfl) (by decide) ?_
  refine st_v (rv_xor64 rfl rfl) (by decide) ?_
  refine st_v (rv_fieldAddr Tryd.underlying68 (fs := _) rfl sz66 rfl rfl) (by decide) ?_
  refine st_v (rv_load_blk tyS66 rfl (i := 2) rfl rfl) (by decide) ?_
  refine st_v (rv_fieldAddr Tryd.underlying68 (fs := _) rfl sz66 rfl rfl) (by decide) ?_
  refine st_v (rv_load_blk tyS66 rfl (i := 1) rfl rfl) (by decide) ?_
  refine st_v (rv_xor64 rfl rfl) (by decide) ?_
  refine st_v (rv_buildStruct_of Tryd.underlying68 tyZ68 (places := [(0, 1), (1, 1)]) (by kernel_rfl) rfl (cs := #[_, _]) (by rfl)) (by decide) ?_
  refine st_store (vs := [_, _]) rfl rfl (i := 0) rfl sz68 rfl (Nat.le_of_ble_eq_true rfl) (all1 rfl) (cs' := #[_, _]) rfl (l' := [_, _, _]) rfl ?_
  refine st_nil ?_
  refine st_then ?_
  refine st_ret ?_
  exact st_doneC tyA68 rfl rfl (i := 0) rfl (rfl) (fun w hM => ⟨rfl, hM.sublist (List.nil_sublist _)⟩)
theorem next_calls (e : El) (w : World) : Calls Tryd.prog 45 #[elV e] w (fun r w' => r = .returned (elV (elNext e)) ∧ Mem (All w) w w' []) := by
  refine calls_of_st (n := 25) (args := [elV e]) Tryd.func45 rfl Tryd.ntmps45 (Nat.le_of_ble_eq_true rfl) (Mem.all w) ?_
  refine st_seq ?_
  refine st_region ?_
  refine st_box rfl (by decide) rfl (fun b1 hb1 => ?_)
  refine st_alloc tyZ68 (by decide) (cs := #[.int .u64 0, .int .u64 0]) (rfl) (fun b2 hb2 => ?_)
  refine st_nil ?_
  refine st_then ?_
  refine st_seq ?_
  refine st_region ?_
  refine st_v (rv_fieldAddr Tryd.underlying68 (fs := _) rfl sz66 rfl rfl) (by decide) ?_
  refine st_v (rv_load_blk tyS66 rfl (i := 1) rfl rfl) (by decide) ?_
  refine st_v (rv_shr64 (s := 1) rfl rfl rfl) (by decide) ?_
  refine st_v (rv_fieldAddr Tryd.underlying68 (fs := _) rfl sz66 rfl rfl) (by decide) ?_
  refine st_v (rv_load_blk tyS66 rfl (i := 1) rfl rfl) (by decide) ?_
  refine st_v (rv_shl64 (s := 63) rfl rfl rfl) (by decide) ?_
  refine st_v (rv_fieldAddr Tryd.underlying68 (fs := _) rfl sz66 rfl rfl) (by decide) ?_
  refine st_v (rv_load_blk tyS66 rfl (i := 1) rfl rfl) (by decide) ?_
  refine st_v (rv_shr64 (s := 1) rfl rfl rfl) (by decide) ?_
  refine st_v (rv_or64 rfl rfl) (by decide) ?_
  refine st_v (rv_buildStruct_of Tryd.underlying68 tyZ68 (places := [(0, 1), (1, 1)]) (by kernel_rfl) rfl (cs := #[_, _]) (by rfl)) (by decide) ?_
  refine st_alloc tyZ68 (by decide) (cs := #[.int .u64 0, .int .u64 0]) (rfl) (fun b3 hb3 => ?_)
  refine st_store (vs := [_, _]) rfl rfl (i := 0) rfl sz68 rfl (Nat.le_of_ble_eq_true rfl) (all1 rfl) (cs' := #[_, _]) rfl (l' := [_, _, _]) rfl ?_
  refine st_nil ?_
  refine st_then ?_
  refine st_seq ?_
  refine st_region ?_
  refine st_v (rv_fieldAddr Tryd.underlying68 (fs := _) rfl sz66 rfl rfl) (by decide) ?_
  refine st_v (rv_load_blk tyS66 rfl (i := 0) rfl rfl) (by decide) ?_
  refine st_v (rv_fieldAddr Tryd.underlying68 (fs := _) rfl sz66 rfl rfl) (by decide) ?_
  refine st_v (rv_load_blk tyS66 rfl (i := 2) rfl rfl) (by decide) ?_
  refine st_v (rv_and64 (b := 1#64) rfl rfl) (by decide) ?_
  refine st_v (rv_neg64 rfl) (by decide) ?_
  refine st_v (rv_and64 (b := 16212958658533785600#64) rfl rfl) (by decide) ?_
  refine st_v (rv_xor64 rfl rfl) (by decide) ?_
  refine st_v (rv_fieldAddr Tryd.underlying68 (fs := _) rfl sz66 rfl rfl) (by decide) ?_
  refine st_store (vs := [_]) rfl rfl (i := 0) rfl sz66 rfl (Nat.le_of_ble_eq_true rfl) (one1 rfl) (cs' := #[_, _]) rfl (l' := [_, _, _]) rfl ?_
  refine st_nil ?_
  refine st_then ?_
  refine st_seq ?_
  refine st_region ?_
  refine st_v (rv_loadW_blk tyA68 rfl (i := 0) rfl rfl) (by decide) ?_
  refine st_store (vs := [_, _]) rfl rfl (i := 1) rfl sz68 rfl (Nat.le_of_ble_eq_true rfl) (all1 rfl) (cs' := #[_, _]) rfl (l' := [_, _, _]) rfl ?_
  refine st_nil ?_
  refine st_then ?_
  refine st_ret ?_
  exact st_doneC tyA68 rfl rfl (i := 1) rfl (rfl) (fun w hM => ⟨rfl, hM.sublist (List.nil_sublist _)⟩)
theorem times_calls (a b : El) (w : World) : Calls Tryd.prog 42 #[elV a, elV b] w (fun r w' => r = .returned (elV (elTimes a b)) ∧ Mem (All w) w w' []) := by
  refine calls_of_st (n := 38) (args := [elV a, elV b]) Tryd.func42 rfl Tryd.ntmps42 (Nat.le_of_ble_eq_true rfl) (Mem.all w) ?_
  refine st_seq ?_
  refine st_region ?_
  refine st_box rfl (by decide) rfl (fun b1 hb1 => ?_)
  refine st_box rfl (by decide) rfl (fun b2 hb2 => ?_)
  refine st_alloc tyZ68 (by decide) (cs := #[.int .u64 0, .int .u64 0]) (rfl) (fun b3 hb3 => ?_)
  refine st_nil ?_
  refine st_then ?_
  refine st_seq ?_
  refine st_seq ?_
  refine st_region ?_
  refine st_v (rv_move rfl) (by decide) ?_
  refine st_nil ?_
  refine st_then ?_
  refine st_block ?_
  refine st_loop (σ := Nat) (fun k => [(2, pt b1 0), (3, pt b2 0), (4, pt b3 0), (5, vI k)]) (fun k => [blk b3 #[U64 (tl1 (a, b, (0#64, 0#64)) k).2.2.1, U64 (tl1 (a, b, (0#64, 0#64)) k).2.2.2] 68, blk b2 #[U64 (tl1 (a, b, (0#64, 0#64)) k).2.1.1, U64 (tl1 (a, b, (0#64, 0#64)) k).2.1.2] 68, blk b1 #[U64 (tl1 (a, b, (0#64, 0#64)) k).1.1, U64 (tl1 (a, b, (0#64, 0#64)) k).1.2] 68]) (fun k => k ≤ 64) (fun k => 64 - k) 0 (by omega) (SubE.cons rfl (SubE.cons rfl (SubE.cons rfl (SubE.cons rfl (SubE.nil _))))) (fun _ hM => hM) ?_
  intro k hI
  refine st_seq ?_
  refine st_region ?_
  refine st_v (rv_lssZ rfl rfl) (by decide) ?_
  refine st_nil ?_
  refine st_then ?_
  refine st_seq ?_
  refine st_cond rfl (fun hc6 => ?_) (fun hc6 => ?_)
  · -- t6 True
    try simp only [decide_eq_true_eq, decide_eq_false_iff_not, Bool.and_eq_true, Bool.or_eq_true, Bool.and_eq_false_iff, Bool.or_eq_false_iff, Bool.not_eq_true, Bool.not_eq_eq_eq_not, Bool.not_true, Bool.not_false, Int.not_lt, Int.not_le, ne_eq, Decidable.not_not] at hc6
    refine st_skip ?_
    refine st_then ?_
    refine st_seq ?_
    refine st_block ?_
    refine st_seq ?_
    refine st_seq ?_
    refine st_region ?_
    refine st_v (rv_fieldAddr Tryd.underlying68 (fs := _) rfl sz66 rfl rfl) (by decide) ?_
    refine st_v (rv_load_blk tyS66 rfl (i := 2) rfl rfl) (by decide) ?_
    refine st_v (rv_shr64 (s := 63) rfl rfl rfl) (by decide) ?_
    refine st_v (rv_eql64 (b := 1#64) rfl rfl) (by decide) ?_
    refine st_nil ?_
    refine st_then ?_
    refine st_cond rfl (fun hc10 => ?_) (fun hc10 => ?_)
    · -- t10 True
      try simp only [decide_eq_true_eq, decide_eq_false_iff_not, Bool.and_eq_true, Bool.or_eq_true, Bool.and_eq_false_iff, Bool.or_eq_false_iff, Bool.not_eq_true, Bool.not_eq_eq_eq_not, Bool.not_true, Bool.not_false, Int.not_lt, Int.not_le, ne_eq, Decidable.not_not] at hc10
      refine st_region ?_
      refine st_v (rv_loadW_blk tyA68 rfl (i := 0) rfl rfl) (by decide) ?_
      refine st_v (rv_loadW_blk tyA68 rfl (i := 1) rfl rfl) (by decide) ?_
      refine st_call0 cal41 rfl (fun w hM => plus_calls _ _ w) (by decide) ?_
      refine st_store (vs := [_, _]) rfl rfl (i := 0) rfl sz68 rfl (Nat.le_of_ble_eq_true rfl) (all1 rfl) (cs' := #[_, _]) rfl (l' := [_, _, _]) rfl ?_
      refine st_nil ?_
      refine st_then ?_
      refine st_seq ?_
      refine st_region ?_
      refine st_v (rv_fieldAddr Tryd.underlying68 (fs := _) rfl sz66 rfl rfl) (by decide) ?_
      refine st_v (rv_load_blk tyS66 rfl (i := 2) rfl rfl) (by decide) ?_
      refine st_v (rv_shl64 (s := 1) rfl rfl rfl) (by decide) ?_
      refine st_v (rv_fieldAddr Tryd.underlying68 (fs := _) rfl sz66 rfl rfl) (by decide) ?_
      refine st_store (vs := [_]) rfl rfl (i := 2) rfl sz66 rfl (Nat.le_of_ble_eq_true rfl) (one1 rfl) (cs' := #[_, _]) rfl (l' := [_, _, _]) rfl ?_
      refine st_nil ?_
      refine st_then ?_
      refine st_region ?_
      refine st_v (rv_loadW_blk tyA68 rfl (i := 1) rfl rfl) (by decide) ?_
      refine st_call0 cal45 rfl (fun w hM => next_calls _ w) (by decide) ?_
      refine st_store (vs := [_, _]) rfl rfl (i := 1) rfl sz68 rfl (Nat.le_of_ble_eq_true rfl) (all1 rfl) (cs' := #[_, _]) rfl (l' := [_, _, _]) rfl ?_
      refine st_nil ?_
      refine st_in_normal ?_
      refine st_then ?_
      refine st_region ?_
      first | refine st_v (rv_addN (b := 1) rfl rfl (by first | omega | (simp <;> omega))) (by decide) ?_ | refine st_v (rv_addZ rfl rfl (by first | omega | (simp <;> omega))) (by decide) ?_
      refine st_v (rv_move rfl) (by decide) ?_
      refine st_nil ?_
      refine st_then ?_
      exact st_again (k + 1) (by omega) (by omega) (SubE.cons rfl (SubE.cons rfl (SubE.cons rfl (SubE.cons rfl (SubE.nil _))))) (by intro w hM; simp only [tl1, ts1, hc10, if_true, if_false]; exact hM)
    · -- t10 False
      try simp only [decide_eq_true_eq, decide_eq_false_iff_not, Bool.and_eq_true, Bool.or_eq_true, Bool.and_eq_false_iff, Bool.or_eq_false_iff, Bool.not_eq_true, Bool.not_eq_eq_eq_not, Bool.not_true, Bool.not_false, Int.not_lt, Int.not_le, ne_eq, Decidable.not_not] at hc10
      refine st_skip ?_
      refine st_then ?_
      refine st_seq ?_
      refine st_region ?_
      refine st_v (rv_fieldAddr Tryd.underlying68 (fs := _) rfl sz66 rfl rfl) (by decide) ?_
      refine st_v (rv_load_blk tyS66 rfl (i := 2) rfl rfl) (by decide) ?_
      refine st_v (rv_shl64 (s := 1) rfl rfl rfl) (by decide) ?_
      refine st_v (rv_fieldAddr Tryd.underlying68 (fs := _) rfl sz66 rfl rfl) (by decide) ?_
      refine st_store (vs := [_]) rfl rfl (i := 2) rfl sz66 rfl (Nat.le_of_ble_eq_true rfl) (one1 rfl) (cs' := #[_, _]) rfl (l' := [_, _, _]) rfl ?_
      refine st_nil ?_
      refine st_then ?_
      refine st_region ?_
      refine st_v (rv_loadW_blk tyA68 rfl (i := 1) rfl rfl) (by decide) ?_
      refine st_call0 cal45 rfl (fun w hM => next_calls _ w) (by decide) ?_
      refine st_store (vs := [_, _]) rfl rfl (i := 1) rfl sz68 rfl (Nat.le_of_ble_eq_true rfl) (all1 rfl) (cs' := #[_, _]) rfl (l' := [_, _, _]) rfl ?_
      refine st_nil ?_
      refine st_in_normal ?_
      refine st_then ?_
      refine st_region ?_
      first | refine st_v (rv_addN (b := 1) rfl rfl (by first | omega | (simp <;> omega))) (by decide) ?_ | refine st_v (rv_addZ rfl rfl (by first | omega | (simp <;> omega))) (by decide) ?_
      refine st_v (rv_move rfl) (by decide) ?_
      refine st_nil ?_
      refine st_then ?_
      exact st_again (k + 1) (by omega) (by omega) (SubE.cons rfl (SubE.cons rfl (SubE.cons rfl (SubE.cons rfl (SubE.nil _))))) (by intro w hM; simp only [tl1, ts1, hc10, if_true, if_false]; exact hM)
  · -- t6 False
    try simp only [decide_eq_true_eq, decide_eq_false_iff_not, Bool.and_eq_true, Bool.or_eq_true, Bool.and_eq_false_iff, Bool.or_eq_false_iff, Bool.not_eq_true, Bool.not_eq_eq_eq_not, Bool.not_true, Bool.not_false, Int.not_lt, Int.not_le, ne_eq, Decidable.not_not] at hc6
    obtain rfl : k = 64 := by omega
    refine st_exit ?_
    refine st_then_exit ?_
    refine st_then_exit ?_
    refine st_in_exit ?_
    refine st_then ?_
    refine st_seq ?_
    refine st_seq ?_
    refine st_region ?_
    refine st_v (rv_move rfl) (by decide) ?_
    refine st_nil ?_
    refine st_then ?_
    refine st_block ?_
    refine st_loop (σ := Nat) (fun k => [(2, pt b1 0), (3, pt b2 0), (4, pt b3 0), (21, vI k)]) (fun k => [blk b3 #[U64 (tl2 (tl1 (a, b, (0#64, 0#64)) 64) k).2.2.1, U64 (tl2 (tl1 (a, b, (0#64, 0#64)) 64) k).2.2.2] 68, blk b2 #[U64 (tl2 (tl1 (a, b, (0#64, 0#64)) 64) k).2.1.1, U64 (tl2 (tl1 (a, b, (0#64, 0#64)) 64) k).2.1.2] 68, blk b1 #[U64 (tl2 (tl1 (a, b, (0#64, 0#64)) 64) k).1.1, U64 (tl2 (tl1 (a, b, (0#64, 0#64)) 64) k).1.2] 68]) (fun k => k ≤ 64) (fun k => 64 - k) 0 (by omega) (SubE.cons rfl (SubE.cons rfl (SubE.cons rfl (SubE.cons rfl (SubE.nil _))))) (fun _ hM => hM) ?_
    intro k hI
    refine st_seq ?_
    refine st_region ?_
    refine st_v (rv_lssZ rfl rfl) (by decide) ?_
    refine st_nil ?_
    refine st_then ?_
    refine st_seq ?_
    refine st_cond rfl (fun hc22 => ?_) (fun hc22 => ?_)
    · -- t22 True
      try simp only [decide_eq_true_eq, decide_eq_false_iff_not, Bool.and_eq_true, Bool.or_eq_true, Bool.and_eq_false_iff, Bool.or_eq_false_iff, Bool.not_eq_true, Bool.not_eq_eq_eq_not, Bool.not_true, Bool.not_false, Int.not_lt, Int.not_le, ne_eq, Decidable.not_not] at hc22
      refine st_skip ?_
      refine st_then ?_
      refine st_seq ?_
      refine st_block ?_
      refine st_seq ?_
      refine st_seq ?_
      refine st_region ?_
      refine st_v (rv_fieldAddr Tryd.underlying68 (fs := _) rfl sz66 rfl rfl) (by decide) ?_
      refine st_v (rv_load_blk tyS66 rfl (i := 2) rfl rfl) (by decide) ?_
      refine st_v (rv_shr64 (s := 63) rfl rfl rfl) (by decide) ?_
      refine st_v (rv_eql64 (b := 1#64) rfl rfl) (by decide) ?_
      refine st_nil ?_
      refine st_then ?_
      refine st_cond rfl (fun hc26 => ?_) (fun hc26 => ?_)
      · -- t26 True
        try simp only [decide_eq_true_eq, decide_eq_false_iff_not, Bool.and_eq_true, Bool.or_eq_true, Bool.and_eq_false_iff, Bool.or_eq_false_iff, Bool.not_eq_true, Bool.not_eq_eq_eq_not, Bool.not_true, Bool.not_false, Int.not_lt, Int.not_le, ne_eq, Decidable.not_not] at hc26
        refine st_region ?_
        refine st_v (rv_loadW_blk tyA68 rfl (i := 0) rfl rfl) (by decide) ?_
        refine st_v (rv_loadW_blk tyA68 rfl (i := 1) rfl rfl) (by decide) ?_
        refine st_call0 cal41 rfl (fun w hM => plus_calls _ _ w) (by decide) ?_
        refine st_store (vs := [_, _]) rfl rfl (i := 0) rfl sz68 rfl (Nat.le_of_ble_eq_true rfl) (all1 rfl) (cs' := #[_, _]) rfl (l' := [_, _, _]) rfl ?_
        refine st_nil ?_
        refine st_then ?_
        refine st_seq ?_
        refine st_region ?_
        refine st_v (rv_fieldAddr Tryd.underlying68 (fs := _) rfl sz66 rfl rfl) (by decide) ?_
        refine st_v (rv_load_blk tyS66 rfl (i := 2) rfl rfl) (by decide) ?_
        refine st_v (rv_shl64 (s := 1) rfl rfl rfl) (by decide) ?_
        refine st_v (rv_fieldAddr Tryd.underlying68 (fs := _) rfl sz66 rfl rfl) (by decide) ?_
        refine st_store (vs := [_]) rfl rfl (i := 2) rfl sz66 rfl (Nat.le_of_ble_eq_true rfl) (one1 rfl) (cs' := #[_, _]) rfl (l' := [_, _, _]) rfl ?_
        refine st_nil ?_
        refine st_then ?_
        refine st_region ?_
        refine st_v (rv_loadW_blk tyA68 rfl (i := 1) rfl rfl) (by decide) ?_
        refine st_call0 cal45 rfl (fun w hM => next_calls _ w) (by decide) ?_
        refine st_store (vs := [_, _]) rfl rfl (i := 1) rfl sz68 rfl (Nat.le_of_ble_eq_true rfl) (all1 rfl) (cs' := #[_, _]) rfl (l' := [_, _, _]) rfl ?_
        refine st_nil ?_
        refine st_in_normal ?_
        refine st_then ?_
        refine st_region ?_
        first | refine st_v (rv_addN (b := 1) rfl rfl (by first | omega | (simp <;> omega))) (by decide) ?_ | refine st_v (rv_addZ rfl rfl (by first | omega | (simp <;> omega))) (by decide) ?_
        refine st_v (rv_move rfl) (by decide) ?_
        refine st_nil ?_
        refine st_then ?_
        exact st_again (k + 1) (by omega) (by omega) (SubE.cons rfl (SubE.cons rfl (SubE.cons rfl (SubE.cons rfl (SubE.nil _))))) (by intro w hM; simp only [tl2, ts2, hc26, if_true, if_false]; exact hM)
      · -- t26 False
        try simp only [decide_eq_true_eq, decide_eq_false_iff_not, Bool.and_eq_true, Bool.or_eq_true, Bool.and_eq_false_iff, Bool.or_eq_false_iff, Bool.not_eq_true, Bool.not_eq_eq_eq_not, Bool.not_true, Bool.not_false, Int.not_lt, Int.not_le, ne_eq, Decidable.not_not] at hc26
        refine st_skip ?_
        refine st_then ?_
        refine st_seq ?_
        refine st_region ?_
        refine st_v (rv_fieldAddr Tryd.underlying68 (fs := _) rfl sz66 rfl rfl) (by decide) ?_
        refine st_v (rv_load_blk tyS66 rfl (i := 2) rfl rfl) (by decide) ?_
        refine st_v (rv_shl64 (s := 1) rfl rfl rfl) (by decide) ?_
        refine st_v (rv_fieldAddr Tryd.underlying68 (fs := _) rfl sz66 rfl rfl) (by decide) ?_
        refine st_store (vs := [_]) rfl rfl (i := 2) rfl sz66 rfl (Nat.le_of_ble_eq_true rfl) (one1 rfl) (cs' := #[_, _]) rfl (l' := [_, _, _]) rfl ?_
        refine st_nil ?_
        refine st_then ?_
        refine st_region ?_
        refine st_v (rv_loadW_blk tyA68 rfl (i := 1) rfl rfl) (by decide) ?_
        refine st_call0 cal45 rfl (fun w hM => next_calls _ w) (by decide) ?_
        refine st_store (vs := [_, _]) rfl rfl (i := 1) rfl sz68 rfl (Nat.le_of_ble_eq_true rfl) (all1 rfl) (cs' := #[_, _]) rfl (l' := [_, _, _]) rfl ?_
        refine st_nil ?_
        refine st_in_normal ?_
        refine st_then ?_
        refine st_region ?_
        first | refine st_v (rv_addN (b := 1) rfl rfl (by first | omega | (simp <;> omega))) (by decide) ?_ | refine st_v (rv_addZ rfl rfl (by first | omega | (simp <;> omega))) (by decide) ?_
        refine st_v (rv_move rfl) (by decide) ?_
        refine st_nil ?_
        refine st_then ?_
        exact st_again (k + 1) (by omega) (by omega) (SubE.cons rfl (SubE.cons rfl (SubE.cons rfl (SubE.cons rfl (SubE.nil _))))) (by intro w hM; simp only [tl2, ts2, hc26, if_true, if_false]; exact hM)
    · -- t22 False
      try simp only [decide_eq_true_eq, decide_eq_false_iff_not, Bool.and_eq_true, Bool.or_eq_true, Bool.and_eq_false_iff, Bool.or_eq_false_iff, Bool.not_eq_true, Bool.not_eq_eq_eq_not, Bool.not_true, Bool.not_false, Int.not_lt, Int.not_le, ne_eq, Decidable.not_not] at hc22
      obtain rfl : k = 64 := by omega
      refine st_exit ?_
      refine st_then_exit ?_
      refine st_then_exit ?_
      refine st_in_exit ?_
      refine st_then ?_
      refine st_seq ?_
      refine st_region ?_
      refine st_v (rv_loadW_blk tyA68 rfl (i := 0) rfl rfl) (by decide) ?_
      refine st_store (vs := [_, _]) rfl rfl (i := 0) rfl sz68 rfl (Nat.le_of_ble_eq_true rfl) (all1 rfl) (cs' := #[_, _]) rfl (l' := [_, _, _]) rfl ?_
      refine st_nil ?_
      refine st_then ?_
      refine st_ret ?_
      exact st_doneC tyA68 rfl rfl (i := 0) rfl (rfl) (fun w hM => ⟨by rw [elTimes], hM.sublist (List.nil_sublist _)⟩)
theorem bytes_calls (e : El) (w : World) : Calls Tryd.prog 37 #[elV e] w (fun r w' => r = .returned (.agg (c8 (elBytes e 8))) ∧ Mem (All w) w w' []) := by
  refine calls_of_st (n := 28) (args := [elV e]) Tryd.func37 rfl Tryd.ntmps37 (Nat.le_of_ble_eq_true rfl) (Mem.all w) ?_
  refine st_seq ?_
  refine st_region ?_
  refine st_box rfl (by decide) rfl (fun b1 hb1 => ?_)
  refine st_alloc tyZ43 (by decide) (cs := c8 (List.replicate 16 0#8)) (rfl) (fun b2 hb2 => ?_)
  refine st_nil ?_
  refine st_then ?_
  refine st_seq ?_
  refine st_seq ?_
  refine st_region ?_
  refine st_v (rv_move rfl) (by decide) ?_
  refine st_nil ?_
  refine st_then ?_
  refine st_block ?_
  refine st_loop (σ := Nat) (fun k => [(1, pt b1 0), (2, pt b2 0), (4, vI k)]) (fun k => [blk b2 (c8 (elBytes e k)) 43, blk b1 #[U64 e.1, U64 e.2] 68]) (fun k => k ≤ 8) (fun k => 8 - k) 0 (by omega) (SubE.cons rfl (SubE.cons rfl (SubE.cons rfl (SubE.nil _)))) (fun _ hM => hM) ?_
  intro k hI
  refine st_seq ?_
  refine st_region ?_
  refine st_v (rv_lssZ rfl rfl) (by decide) ?_
  refine st_nil ?_
  refine st_then ?_
  refine st_seq ?_
  refine st_cond rfl (fun hc5 => ?_) (fun hc5 => ?_)
  · -- t5 True
    try simp only [decide_eq_true_eq, decide_eq_false_iff_not, Bool.and_eq_true, Bool.or_eq_true, Bool.and_eq_false_iff, Bool.or_eq_false_iff, Bool.not_eq_true, Bool.not_eq_eq_eq_not, Bool.not_true, Bool.not_false, Int.not_lt, Int.not_le, ne_eq, Decidable.not_not] at hc5
    refine st_skip ?_
    refine st_then ?_
    refine st_seq ?_
    refine st_block ?_
    refine st_seq ?_
    refine st_region ?_
    refine st_v (rv_move rfl) (by decide) ?_
    refine st_v (rv_assign rfl) (by decide) ?_
    refine st_nil ?_
    refine st_then ?_
    refine st_seq ?_
    refine st_region ?_
    refine st_v (rv_move rfl) (by decide) ?_
    refine st_v (rv_fieldAddr Tryd.underlying68 (fs := _) rfl sz66 rfl rfl) (by decide) ?_
    refine st_v (rv_load_blk tyS66 rfl (i := 1) rfl rfl) (by decide) ?_
    refine st_v (rv_move rfl) (by decide) ?_
    first | refine st_v (rv_mulN (a := 8) rfl rfl (by first | omega | (simp <;> omega))) (by decide) ?_ | refine st_v (rv_mulZ rfl rfl (by first | omega | (simp <;> omega))) (by decide) ?_
    first | refine st_v (rv_subN (a := 56) rfl rfl (by first | omega | (simp <;> omega))) (by decide) ?_ | refine st_v (rv_subZ rfl rfl (by first | omega | (simp <;> omega))) (by decide) ?_
    refine st_v (rv_shr64 rfl rfl rfl) (by decide) ?_
    refine st_v (rv_conv64to8 Tryd.underlying66 Tryd.underlying5 rfl) (by decide) ?_
    refine st_v (rv_indexA Tryd.underlying43 sz5 rfl rfl rfl (by first | omega | (simp [length_elBytes] <;> omega)) (by first | exact (Nat.zero_add _).trans (Nat.mul_one _) | exact congrArg _ (Nat.mul_one _) | exact Nat.zero_add _ | rfl)) (by decide) ?_
    refine st_store8 rfl rfl (i := 0) rfl sz5 (by first | omega | (simp [length_elBytes] <;> omega)) (l' := [_, _]) rfl ?_
    refine st_nil ?_
    refine st_then ?_
    refine st_region ?_
    refine st_v (rv_move rfl) (by decide) ?_
    first | refine st_v (rv_addN (a := 8) rfl rfl (by first | omega | (simp <;> omega))) (by decide) ?_ | refine st_v (rv_addZ rfl rfl (by first | omega | (simp <;> omega))) (by decide) ?_
    refine st_v (rv_fieldAddr Tryd.underlying68 (fs := _) rfl sz66 rfl rfl) (by decide) ?_
    refine st_v (rv_load_blk tyS66 rfl (i := 1) rfl rfl) (by decide) ?_
    refine st_v (rv_move rfl) (by decide) ?_
    first | refine st_v (rv_mulN (a := 8) rfl rfl (by first | omega | (simp <;> omega))) (by decide) ?_ | refine st_v (rv_mulZ rfl rfl (by first | omega | (simp <;> omega))) (by decide) ?_
    first | refine st_v (rv_subN (a := 56) rfl rfl (by first | omega | (simp <;> omega))) (by decide) ?_ | refine st_v (rv_subZ rfl rfl (by first | omega | (simp <;> omega))) (by decide) ?_
    refine st_v (rv_shr64 rfl rfl rfl) (by decide) ?_
    refine st_v (rv_conv64to8 Tryd.underlying66 Tryd.underlying5 rfl) (by decide) ?_
    refine st_v (rv_indexA Tryd.underlying43 sz5 rfl rfl rfl (by first | omega | (simp [length_elBytes] <;> omega)) (by first | exact (Nat.zero_add _).trans (Nat.mul_one _) | exact congrArg _ (Nat.mul_one _) | exact Nat.zero_add _ | rfl)) (by decide) ?_
    refine st_store8 rfl rfl (i := 0) rfl sz5 (by first | omega | (simp [length_elBytes] <;> omega)) (l' := [_, _]) rfl ?_
    refine st_nil ?_
    refine st_in_normal ?_
    refine st_then ?_
    refine st_region ?_
    first | refine st_v (rv_addN (b := 1) rfl rfl (by first | omega | (simp <;> omega))) (by decide) ?_ | refine st_v (rv_addZ rfl rfl (by first | omega | (simp <;> omega))) (by decide) ?_
    refine st_v (rv_move rfl) (by decide) ?_
    refine st_nil ?_
    refine st_then ?_
    exact st_again (k + 1) (by omega) (by omega) (SubE.cons rfl (SubE.cons rfl (SubE.cons rfl (SubE.nil _)))) (fun _ hM => hM)
  · -- t5 False
    try simp only [decide_eq_true_eq, decide_eq_false_iff_not, Bool.and_eq_true, Bool.or_eq_true, Bool.and_eq_false_iff, Bool.or_eq_false_iff, Bool.not_eq_true, Bool.not_eq_eq_eq_not, Bool.not_true, Bool.not_false, Int.not_lt, Int.not_le, ne_eq, Decidable.not_not] at hc5
    obtain rfl : k = 8 := by omega
    refine st_exit ?_
    refine st_then_exit ?_
    refine st_then_exit ?_
    refine st_in_exit ?_
    refine st_then ?_
    refine st_seq ?_
    refine st_region ?_
    refine st_v (rv_loadW_blk tyA43 rfl (i := 0) rfl (by first | omega | (simp [length_elBytes]; done) | (simp [length_elBytes] <;> omega))) (by decide) ?_
    refine st_storeW8 rfl rfl (i := 0) rfl sz43 (by first | omega | (simp [length_elBytes]; done) | (simp [length_elBytes] <;> omega)) (by first | omega | (simp [length_elBytes]; done) | (simp [length_elBytes] <;> omega)) (l' := [_, _]) rfl ?_
    refine st_nil ?_
    refine st_then ?_
    refine st_ret ?_
    exact st_doneC tyA43 rfl rfl (i := 0) rfl (by first | omega | (simp [length_elBytes]; done) | (simp [length_elBytes] <;> omega)) (fun w hM => ⟨rfl, hM.sublist (List.nil_sublist _)⟩)
theorem read_calls (v : Value) (l : List (BitVec 8)) (n : Nat) (hn : 16 ≤ n) (w : World) (hR : Rd w v n 1 (l.map U8)) : Calls Tryd.prog 36 #[v] w (fun r w' => r = .returned (elV (elRead l 16)) ∧ Mem (All w) w w' []) := by
  have hlen : l.length = n := by simpa using hR.len
  refine calls_of_st (n := 31) (args := [v]) Tryd.func36 rfl Tryd.ntmps36 (Nat.le_of_ble_eq_true rfl) (Mem.all w) ?_
  refine st_seq ?_
  refine st_region ?_
  refine st_alloc tyZ68 (by decide) (cs := #[.int .u64 0, .int .u64 0]) (rfl) (fun b1 hb1 => ?_)
  refine st_nil ?_
  refine st_then ?_
  refine st_seq ?_
  refine st_seq ?_
  refine st_region ?_
  refine st_v (rv_move rfl) (by decide) ?_
  refine st_v (rv_sliceR (rd_old hR hR.all) Tryd.underlying22 sz5 rfl evB_none (evB_some (k := 16) rfl rfl) (by first | omega | (simp <;> omega)) (by first | omega | (simp <;> omega))) (by decide) ?_
  refine st_v (rv_lenR (fun w hM => ((rd_old hR hR.all) w hM).part8 (by first | omega | (simp <;> omega)) (by first | omega | (simp <;> omega))) Tryd.underlying22 rfl) (by decide) ?_
  refine st_v (rv_move rfl) (by decide) ?_
  refine st_nil ?_
  refine st_then ?_
  refine st_block ?_
  refine st_loop (σ := Nat) (fun k => [(2, pt b1 0), (6, vsub v 0 16 1), (7, vI 16), (8, vI k)]) (fun k => [blk b1 #[U64 (elRead l k).1, U64 (elRead l k).2] 68]) (fun k => k ≤ 16) (fun k => 16 - k) 0 (by omega) (SubE.cons rfl (SubE.cons rfl (SubE.cons rfl (SubE.cons rfl (SubE.nil _))))) (fun _ hM => hM) ?_
  intro k hI
  refine st_seq ?_
  refine st_region ?_
  refine st_v (rv_lssZ rfl rfl) (by decide) ?_
  refine st_nil ?_
  refine st_then ?_
  refine st_seq ?_
  refine st_cond rfl (fun hc9 => ?_) (fun hc9 => ?_)
  · -- t9 True
    try simp only [decide_eq_true_eq, decide_eq_false_iff_not, Bool.and_eq_true, Bool.or_eq_true, Bool.and_eq_false_iff, Bool.or_eq_false_iff, Bool.not_eq_true, Bool.not_eq_eq_eq_not, Bool.not_true, Bool.not_false, Int.not_lt, Int.not_le, ne_eq, Decidable.not_not] at hc9
    refine st_skip ?_
    refine st_then ?_
    refine st_seq ?_
    refine st_block ?_
    refine st_seq ?_
    refine st_region ?_
    refine st_v (rv_move rfl) (by decide) ?_
    refine st_v (rv_indexR1 (fun w hM => ((rd_old hR hR.all) w hM).part8 (by first | omega | (simp <;> omega)) (by first | omega | (simp <;> omega))) Tryd.underlying22 sz5 rfl rfl rfl (by first | omega | (simp <;> omega))) (by decide) ?_
    refine st_v (rv_load_rd (fun w hM => ((rd_old hR hR.all) w hM).part8 (by first | omega | (simp <;> omega)) (by first | omega | (simp <;> omega))) tyS5 rfl (get8 (by first | omega | (simp <;> omega)))) (by decide) ?_
    refine st_v (rv_assign rfl) (by decide) ?_
    refine st_v (rv_assign rfl) (by decide) ?_
    refine st_nil ?_
    refine st_then ?_
    refine st_seq ?_
    refine st_region ?_
    refine st_v (rv_move rfl) (by decide) ?_
    refine st_v (rv_lssZ rfl rfl) (by decide) ?_
    refine st_nil ?_
    refine st_then ?_
    refine st_cond rfl (fun hc14 => ?_) (fun hc14 => ?_)
    · -- t14 True
      try simp only [decide_eq_true_eq, decide_eq_false_iff_not, Bool.and_eq_true, Bool.or_eq_true, Bool.and_eq_false_iff, Bool.or_eq_false_iff, Bool.not_eq_true, Bool.not_eq_eq_eq_not, Bool.not_true, Bool.not_false, Int.not_lt, Int.not_le, ne_eq, Decidable.not_not] at hc14
      refine st_region ?_
      refine st_v (rv_fieldAddr Tryd.underlying68 (fs := _) rfl sz66 rfl rfl) (by decide) ?_
      refine st_v (rv_load_blk tyS66 rfl (i := 0) rfl rfl) (by decide) ?_
      refine st_v (rv_shl64 (s := 8) rfl rfl rfl) (by decide) ?_
      refine st_v (rv_move rfl) (by decide) ?_
      refine st_v (rv_conv8to64 Tryd.underlying5 Tryd.underlying66 rfl) (by decide) ?_
      refine st_v (rv_or64 rfl rfl) (by decide) ?_
      refine st_v (rv_fieldAddr Tryd.underlying68 (fs := _) rfl sz66 rfl rfl) (by decide) ?_
      refine st_store (vs := [_]) rfl rfl (i := 0) rfl sz66 rfl (Nat.le_of_ble_eq_true rfl) (one1 rfl) (cs' := #[_, _]) rfl (l' := [_]) rfl ?_
      refine st_nil ?_
      refine st_in_normal ?_
      refine st_then ?_
      refine st_region ?_
      first | refine st_v (rv_addN (b := 1) rfl rfl (by first | omega | (simp <;> omega))) (by decide) ?_ | refine st_v (rv_addZ rfl rfl (by first | omega | (simp <;> omega))) (by decide) ?_
      refine st_v (rv_move rfl) (by decide) ?_
      refine st_nil ?_
      refine st_then ?_
      exact st_again (k + 1) (by omega) (by omega) (SubE.cons rfl (SubE.cons rfl (SubE.cons rfl (SubE.cons rfl (SubE.nil _))))) (by intro w hM; first | (rw [elRead_lo (by omega)]; exact hM) | (rw [elRead_hi (by omega) (by omega)]; exact hM))
    · -- t14 False
      try simp only [decide_eq_true_eq, decide_eq_false_iff_not, Bool.and_eq_true, Bool.or_eq_true, Bool.and_eq_false_iff, Bool.or_eq_false_iff, Bool.not_eq_true, Bool.not_eq_eq_eq_not, Bool.not_true, Bool.not_false, Int.not_lt, Int.not_le, ne_eq, Decidable.not_not] at hc14
      refine st_region ?_
      refine st_v (rv_fieldAddr Tryd.underlying68 (fs := _) rfl sz66 rfl rfl) (by decide) ?_
      refine st_v (rv_load_blk tyS66 rfl (i := 0) rfl rfl) (by decide) ?_
      refine st_v (rv_shl64 (s := 8) rfl rfl rfl) (by decide) ?_
      refine st_v (rv_move rfl) (by decide) ?_
      refine st_v (rv_conv8to64 Tryd.underlying5 Tryd.underlying66 rfl) (by decide) ?_
      refine st_v (rv_or64 rfl rfl) (by decide) ?_
      refine st_v (rv_fieldAddr Tryd.underlying68 (fs := _) rfl sz66 rfl rfl) (by decide) ?_
      refine st_store (vs := [_]) rfl rfl (i := 0) rfl sz66 rfl (Nat.le_of_ble_eq_true rfl) (one1 rfl) (cs' := #[_, _]) rfl (l' := [_]) rfl ?_
      refine st_nil ?_
      refine st_in_normal ?_
      refine st_then ?_
      refine st_region ?_
      first | refine st_v (rv_addN (b := 1) rfl rfl (by first | omega | (simp <;> omega))) (by decide) ?_ | refine st_v (rv_addZ rfl rfl (by first | omega | (simp <;> omega))) (by decide) ?_
      refine st_v (rv_move rfl) (by decide) ?_
      refine st_nil ?_
      refine st_then ?_
      exact st_again (k + 1) (by omega) (by omega) (SubE.cons rfl (SubE.cons rfl (SubE.cons rfl (SubE.cons rfl (SubE.nil _))))) (by intro w hM; first | (rw [elRead_lo (by omega)]; exact hM) | (rw [elRead_hi (by omega) (by omega)]; exact hM))
  · -- t9 False
    try simp only [decide_eq_true_eq, decide_eq_false_iff_not, Bool.and_eq_true, Bool.or_eq_true, Bool.and_eq_false_iff, Bool.or_eq_false_iff, Bool.not_eq_true, Bool.not_eq_eq_eq_not, Bool.not_true, Bool.not_false, Int.not_lt, Int.not_le, ne_eq, Decidable.not_not] at hc9
    obtain rfl : k = 16 := by omega
    refine st_exit ?_
    refine st_then_exit ?_
    refine st_then_exit ?_
    refine st_in_exit ?_
    refine st_then ?_
    refine st_seq ?_
    refine st_region ?_
    refine st_v (rv_loadW_blk tyA68 rfl (i := 0) rfl rfl) (by decide) ?_
    refine st_store (vs := [_, _]) rfl rfl (i := 0) rfl sz68 rfl (Nat.le_of_ble_eq_true rfl) (all1 rfl) (cs' := #[_, _]) rfl (l' := [_]) rfl ?_
    refine st_nil ?_
    refine st_then ?_
    refine st_ret ?_
    exact st_doneC tyA68 rfl rfl (i := 0) rfl (rfl) (fun w hM => ⟨rfl, hM.sublist (List.nil_sublist _)⟩)
end Go.Proofs.YtpihffpdkfkkhaaDoor
