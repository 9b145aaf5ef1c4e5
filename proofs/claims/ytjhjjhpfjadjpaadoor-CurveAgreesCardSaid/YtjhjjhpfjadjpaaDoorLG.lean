/- Walks: what functions of the given program do, operation by operation. Written by wip/gen. -/
import Derived.Test.YtjhjjhpfjadjpaaDoorLE
import Derived.Test.YtjhjjhpfjadjpaaDoorRF
import Derived.Test.YtjhjjhpfjadjpaaDoorCD
namespace Go.Proofs.YtjhjjhpfjadjpaaDoor
set_option linter.all false
open Go
set_option maxRecDepth 20000 in
set_option maxHeartbeats 1000000 in
theorem curveAgrees1 (q p : List (BitVec 8)) (hq : q.length ≠ 32) (w : World) (hL : LaidM w) : Calls Tryd.prog 3 #[vS q, vS p] w (fun e w' => e = .returned (.bool true) ∧ Mem (All w) w w' []) := by
  have hqp : ¬ (q.length = 32 ∧ p.length = 32) := fun h => hq h.1
  refine calls_of_st (n := 107) (args := [vS q, vS p]) Tryd.func3 rfl Tryd.ntmps3 (Nat.le_of_ble_eq_true rfl) (Mem.all w) ?_
  refine st_seq ?_
  refine st_region ?_
  refine st_v (rv_assign rfl) (by decide) ?_
  refine st_nil ?_
  refine st_then ?_
  refine st_seq ?_
  refine st_seq ?_
  refine st_region ?_
  refine st_v (rv_move rfl) (by decide) ?_
  refine st_v (rv_lenB Tryd.underlying9 rfl) (by decide) ?_
  refine st_v (rv_gtrZ rfl rfl) (by decide) ?_
  refine st_v (rv_move rfl) (by decide) ?_
  refine' st_or 4 (L := _) (s := 17) (d := 21) [0, 1] rfl (fun hg4 => ?_) (fun _ => ?_) ?_; rotate_left
  · -- true
    refine st_gskip rfl rfl rfl (by decide) ?_
    refine st_gskip rfl rfl rfl (by decide) ?_
    refine st_gskip rfl rfl rfl (by decide) ?_
    first | refine st_v (rv_pick_true rfl rfl) (by decide) ?_ | refine st_v (rv_pick_false rfl rfl) (by decide) ?_ | refine st_v (rv_pick rfl rfl rfl) (by decide) ?_
    refine st_nil ?_
    exact st_meet_b (.cons rfl (.cons rfl (.cons rfl (.nil _))))
  · -- false
    refine st_gon rfl rfl ?_
    refine st_v (rv_move rfl) (by decide) ?_
    refine st_gon rfl rfl ?_
    refine st_v (rv_lenB Tryd.underlying9 rfl) (by decide) ?_
    refine st_gon rfl rfl ?_
    refine st_v (rv_gtrZ rfl rfl) (by decide) ?_
    first | refine st_v (rv_pick_true rfl rfl) (by decide) ?_ | refine st_v (rv_pick_false rfl rfl) (by decide) ?_ | refine st_v (rv_pick rfl rfl rfl) (by decide) ?_
    refine st_nil ?_
    exact st_meet_b (.cons rfl (.cons rfl (.cons rfl (.nil _))))
  refine st_nil ?_
  refine st_then ?_
  refine st_cond rfl (fun hc21 => ?_) (fun hc21 => ?_)
  · -- t21 True
    try simp only [z1, z2, z3, z4, z5, z6, z7, z8, z9, z10, z11, z12, z13, z14] at hc21
    refine st_seq ?_
    refine st_region ?_
    refine st_v (rv_assign rfl) (by decide) ?_
    refine st_nil ?_
    refine st_then ?_
    refine st_ret ?_
    refine st_then_ret ?_
    exact st_done rfl rfl (fun w hM => ⟨by first | (simp; done) | rfl, hM.sublist (List.nil_sublist _)⟩)
  · -- t21 False
    try simp only [z1, z2, z3, z4, z5, z6, z7, z8, z9, z10, z11, z12, z13, z14] at hc21
    refine st_skip ?_
    refine st_then ?_
    refine st_seq ?_
    refine st_region ?_
    refine st_v (rv_move rfl) (by decide) ?_
    refine st_bytes Tryd.underlying9 Tryd.underlying22 Tryd.underlying5 rfl (by decide) (fun v1 => ?_)
    refine st_call0 cal11 rfl (fun w hM => (Public_bad _ q hq w ((rd_own (i := 0) rfl) w hM))) (by decide) ?_
    refine st_v (rv_move rfl) (by decide) ?_
    refine st_v (rv_extract rfl rfl) (by decide) ?_
    refine st_v (rv_extract rfl rfl) (by decide) ?_
    refine st_v (rv_assign rfl) (by decide) ?_
    refine st_v (rv_assign rfl) (by decide) ?_
    refine st_nil ?_
    refine st_then ?_
    refine st_seq ?_
    refine st_region ?_
    refine st_v (rv_move rfl) (by decide) ?_
    refine st_callV cal12 rfl (fun w hM => lent_calls _ (by omega) w) (by decide) (fun v2 => ?_)
    refine st_v (rv_assign rfl) (by decide) ?_
    refine st_nil ?_
    refine st_then ?_
    refine st_seq ?_
    refine st_region ?_
    refine st_v (rv_move rfl) (by decide) ?_
    refine st_bytes Tryd.underlying9 Tryd.underlying22 Tryd.underlying5 rfl (by decide) (fun v3 => ?_)
    refine st_v (rv_move rfl) (by decide) ?_
    refine st_v (rv_move rfl) (by decide) ?_
    refine st_v (rv_lenB Tryd.underlying9 rfl) (by decide) ?_
    refine st_v (rv_sliceR (rd_rd (i := 1) rfl) Tryd.underlying22 sz5 rfl evB_none (evB_some rfl rfl) (by first | omega | (simp [length_lentL] <;> omega)) (by first | omega | (simp [length_lentL] <;> omega))) (by decide) ?_
    refine st_call0 cal13 rfl (fun w hM => (Shared_bad _ _ q p hqp w ((rd_own (i := 0) rfl) w hM) (lentRd (((rd_rd (i := 1) rfl) w hM).part8 (by first | omega | (simp [length_lentL] <;> omega)) (by first | omega | (simp [length_lentL] <;> omega)))))) (by decide) ?_
    refine st_v (rv_move rfl) (by decide) ?_
    refine st_v (rv_extract rfl rfl) (by decide) ?_
    refine st_v (rv_extract rfl rfl) (by decide) ?_
    refine st_v (rv_assign rfl) (by decide) ?_
    refine st_v (rv_assign rfl) (by decide) ?_
    refine st_nil ?_
    refine st_then ?_
    refine st_seq ?_
    refine st_region ?_
    refine st_v (rv_move rfl) (by decide) ?_
    refine st_v (rv_move rfl) (by decide) ?_
    refine st_call0 cal14 rfl (fun w hM => (still_calls _ p (by omega) w ((rd_rd (i := 1) rfl) w hM))) (by decide) ?_
    refine st_v (rv_assign rfl) (by decide) ?_
    refine st_nil ?_
    refine st_then ?_
    refine st_seq ?_
    refine st_seq ?_
    refine st_region ?_
    refine st_v (rv_move rfl) (by decide) ?_
    refine st_v (rv_not rfl) (by decide) ?_
    refine st_nil ?_
    refine st_then ?_
    refine st_false rfl ?_
    refine st_skip ?_
    refine st_then ?_
    refine st_seq ?_
    refine st_seq ?_
    refine st_region ?_
    refine st_v (rv_move rfl) (by decide) ?_
    refine st_v (rv_lenB Tryd.underlying9 rfl) (by decide) ?_
    refine st_v (rv_neqZ rfl rfl) (by decide) ?_
    refine st_nil ?_
    refine st_then ?_
    refine st_cond rfl (fun hc47 => ?_) (fun hc47 => ?_)
    · -- t47 True
      try simp only [z1, z2, z3, z4, z5, z6, z7, z8, z9, z10, z11, z12, z13, z14] at hc47
      refine st_seq ?_
      refine st_region ?_
      refine st_v (rv_move rfl) (by decide) ?_
      refine st_v (rv_lenS Tryd.underlying22 rfl) (by decide) ?_
      refine st_v (rv_eqlZ rfl rfl) (by decide) ?_
      refine st_v (rv_move rfl) (by decide) ?_
      refine' st_and 4 (L := _) (s := 51) (d := 55) [6, 9] rfl (fun hg4 => ?_) (fun _ => ?_) ?_; rotate_left
      · -- true
        try simp only [decide_eq_true_eq, decide_eq_false_iff_not, Bool.and_eq_true, Bool.not_eq_true] at hg4
        refine st_gon rfl rfl ?_
        refine st_v (rv_move rfl) (by decide) ?_
        refine st_gon rfl rfl ?_
        refine st_v (rv_lenS Tryd.underlying22 rfl) (by decide) ?_
        refine st_gon rfl rfl ?_
        refine st_v (rv_eqlZ rfl rfl) (by decide) ?_
        first | refine st_v (rv_pick_true rfl rfl) (by decide) ?_ | refine st_v (rv_pick_false rfl rfl) (by decide) ?_ | refine st_v (rv_pick rfl rfl rfl) (by decide) ?_
        refine st_nil ?_
        exact st_meet_b (.cons rfl (.cons rfl (.cons rfl (.nil _))))
      · -- false
        refine st_gskip rfl rfl rfl (by decide) ?_
        refine st_gskip rfl rfl rfl (by decide) ?_
        refine st_gskip rfl rfl rfl (by decide) ?_
        first | refine st_v (rv_pick_true rfl rfl) (by decide) ?_ | refine st_v (rv_pick_false rfl rfl) (by decide) ?_ | refine st_v (rv_pick rfl rfl rfl) (by decide) ?_
        refine st_nil ?_
        exact st_meet_b (.cons rfl (.cons rfl (.cons rfl (.nil _))))
      refine st_v (rv_move rfl) (by decide) ?_
      refine' st_and 3 (L := _) (s := 56) (d := 59) [9] rfl (fun hg9 => ?_) (fun _ => ?_) ?_; rotate_left
      · -- true
        try simp only [decide_eq_true_eq, decide_eq_false_iff_not, Bool.and_eq_true, Bool.not_eq_true] at hg9
        refine st_gon rfl rfl ?_
        refine st_v (rv_move rfl) (by decide) ?_
        refine st_gon rfl rfl ?_
        refine st_v (rv_eqlZ rfl rfl) (by decide) ?_
        first | refine st_v (rv_pick_true rfl rfl) (by decide) ?_ | refine st_v (rv_pick_false rfl rfl) (by decide) ?_ | refine st_v (rv_pick rfl rfl rfl) (by decide) ?_
        refine st_nil ?_
        exact st_meet_b (.cons rfl (.cons rfl (.nil _)))
      · -- false
        refine st_gskip rfl rfl rfl (by decide) ?_
        refine st_gskip rfl rfl rfl (by decide) ?_
        first | refine st_v (rv_pick_true rfl rfl) (by decide) ?_ | refine st_v (rv_pick_false rfl rfl) (by decide) ?_ | refine st_v (rv_pick rfl rfl rfl) (by decide) ?_
        refine st_nil ?_
        exact st_meet_b (.cons rfl (.cons rfl (.nil _)))
      refine st_v (rv_move rfl) (by decide) ?_
      refine' st_and 3 (L := _) (s := 60) (d := 63) [] rfl (fun hg13 => ?_) (fun _ => ?_) ?_; rotate_left
      · -- true
        try simp only [decide_eq_true_eq, decide_eq_false_iff_not, Bool.and_eq_true, Bool.not_eq_true] at hg13
        refine st_gon rfl rfl ?_
        refine st_v (rv_move rfl) (by decide) ?_
        refine st_gon rfl rfl ?_
        refine st_v (rv_eqlZ rfl rfl) (by decide) ?_
        first | refine st_v (rv_pick_true rfl rfl) (by decide) ?_ | refine st_v (rv_pick_false rfl rfl) (by decide) ?_ | refine st_v (rv_pick rfl rfl rfl) (by decide) ?_
        refine st_nil ?_
        exact st_meet_b (.cons rfl (.nil _))
      · -- false
        refine st_gskip rfl rfl rfl (by decide) ?_
        refine st_gskip rfl rfl rfl (by decide) ?_
        first | refine st_v (rv_pick_true rfl rfl) (by decide) ?_ | refine st_v (rv_pick_false rfl rfl) (by decide) ?_ | refine st_v (rv_pick rfl rfl rfl) (by decide) ?_
        refine st_nil ?_
        exact st_meet_b (.cons rfl (.nil _))
      refine st_v (rv_assign rfl) (by decide) ?_
      refine st_nil ?_
      refine st_then ?_
      refine st_ret ?_
      refine st_then_ret ?_
      exact st_done rfl rfl (fun w hM => ⟨by first | (simp; done) | rfl, hM.sublist (List.nil_sublist _)⟩)
    · -- t47 False
      try simp only [z1, z2, z3, z4, z5, z6, z7, z8, z9, z10, z11, z12, z13, z14] at hc47
      exact absurd (Int.ofNat.inj hc47) hq
set_option maxRecDepth 20000 in
set_option maxHeartbeats 1000000 in
theorem curveAgrees2 (q p : List (BitVec 8)) (hq : q.length = 32) (hp : p.length ≠ 32) (w : World) (hL : LaidM w) : Calls Tryd.prog 3 #[vS q, vS p] w (fun e w' => e = .returned (.bool true) ∧ Mem (All w) w w' []) := by
  have hqp : ¬ (q.length = 32 ∧ p.length = 32) := fun h => hp h.2
  refine calls_of_st (n := 107) (args := [vS q, vS p]) Tryd.func3 rfl Tryd.ntmps3 (Nat.le_of_ble_eq_true rfl) (Mem.all w) ?_
  refine st_seq ?_
  refine st_region ?_
  refine st_v (rv_assign rfl) (by decide) ?_
  refine st_nil ?_
  refine st_then ?_
  refine st_seq ?_
  refine st_seq ?_
  refine st_region ?_
  refine st_v (rv_move rfl) (by decide) ?_
  refine st_v (rv_lenB Tryd.underlying9 rfl) (by decide) ?_
  refine st_v (rv_gtrZ rfl rfl) (by decide) ?_
  refine st_v (rv_move rfl) (by decide) ?_
  refine' st_or 4 (L := _) (s := 17) (d := 21) [0, 1] rfl (fun hg4 => ?_) (fun _ => ?_) ?_; rotate_left
  · -- true
    refine st_gskip rfl rfl rfl (by decide) ?_
    refine st_gskip rfl rfl rfl (by decide) ?_
    refine st_gskip rfl rfl rfl (by decide) ?_
    first | refine st_v (rv_pick_true rfl rfl) (by decide) ?_ | refine st_v (rv_pick_false rfl rfl) (by decide) ?_ | refine st_v (rv_pick rfl rfl rfl) (by decide) ?_
    refine st_nil ?_
    exact st_meet_b (.cons rfl (.cons rfl (.cons rfl (.nil _))))
  · -- false
    refine st_gon rfl rfl ?_
    refine st_v (rv_move rfl) (by decide) ?_
    refine st_gon rfl rfl ?_
    refine st_v (rv_lenB Tryd.underlying9 rfl) (by decide) ?_
    refine st_gon rfl rfl ?_
    refine st_v (rv_gtrZ rfl rfl) (by decide) ?_
    first | refine st_v (rv_pick_true rfl rfl) (by decide) ?_ | refine st_v (rv_pick_false rfl rfl) (by decide) ?_ | refine st_v (rv_pick rfl rfl rfl) (by decide) ?_
    refine st_nil ?_
    exact st_meet_b (.cons rfl (.cons rfl (.cons rfl (.nil _))))
  refine st_nil ?_
  refine st_then ?_
  refine st_cond rfl (fun hc21 => ?_) (fun hc21 => ?_)
  · -- t21 True
    try simp only [z1, z2, z3, z4, z5, z6, z7, z8, z9, z10, z11, z12, z13, z14] at hc21
    refine st_seq ?_
    refine st_region ?_
    refine st_v (rv_assign rfl) (by decide) ?_
    refine st_nil ?_
    refine st_then ?_
    refine st_ret ?_
    refine st_then_ret ?_
    exact st_done rfl rfl (fun w hM => ⟨by first | (simp; done) | rfl, hM.sublist (List.nil_sublist _)⟩)
  · -- t21 False
    try simp only [z1, z2, z3, z4, z5, z6, z7, z8, z9, z10, z11, z12, z13, z14] at hc21
    refine st_skip ?_
    refine st_then ?_
    refine st_seq ?_
    refine st_region ?_
    refine st_v (rv_move rfl) (by decide) ?_
    refine st_bytes Tryd.underlying9 Tryd.underlying22 Tryd.underlying5 rfl (by decide) (fun v1 => ?_)
    refine st_call1 (ρ := Value) (fun r => .tuple #[r, vI 0]) (fun _ => True) (fun r => [own r 5 1 32 ((leB 32 ((pubF q).val)).map U8)]) cal11 rfl (fun w hM => ((Public_ok _ q hq w (hL.at hM) ((rd_own (i := 0) rfl) w hM))).mono fun e w' ⟨r, h1, h2⟩ => ⟨r, h1, trivial, h2⟩) (by decide) (fun r2 _ => ?_)
    refine st_v (rv_move rfl) (by decide) ?_
    refine st_v (rv_extract rfl rfl) (by decide) ?_
    refine st_v (rv_extract rfl rfl) (by decide) ?_
    refine st_v (rv_assign rfl) (by decide) ?_
    refine st_v (rv_assign rfl) (by decide) ?_
    refine st_nil ?_
    refine st_then ?_
    refine st_seq ?_
    refine st_region ?_
    refine st_v (rv_move rfl) (by decide) ?_
    refine st_callV cal12 rfl (fun w hM => lent_calls _ (by omega) w) (by decide) (fun v3 => ?_)
    refine st_v (rv_assign rfl) (by decide) ?_
    refine st_nil ?_
    refine st_then ?_
    refine st_seq ?_
    refine st_region ?_
    refine st_v (rv_move rfl) (by decide) ?_
    refine st_bytes Tryd.underlying9 Tryd.underlying22 Tryd.underlying5 rfl (by decide) (fun v4 => ?_)
    refine st_v (rv_move rfl) (by decide) ?_
    refine st_v (rv_move rfl) (by decide) ?_
    refine st_v (rv_lenB Tryd.underlying9 rfl) (by decide) ?_
    refine st_v (rv_sliceR (rd_rd (i := 1) rfl) Tryd.underlying22 sz5 rfl evB_none (evB_some rfl rfl) (by first | omega | (simp [length_lentL] <;> omega)) (by first | omega | (simp [length_lentL] <;> omega))) (by decide) ?_
    refine st_call0 cal13 rfl (fun w hM => (Shared_bad _ _ q p hqp w ((rd_own (i := 0) rfl) w hM) (lentRd (((rd_rd (i := 1) rfl) w hM).part8 (by first | omega | (simp [length_lentL] <;> omega)) (by first | omega | (simp [length_lentL] <;> omega)))))) (by decide) ?_
    refine st_v (rv_move rfl) (by decide) ?_
    refine st_v (rv_extract rfl rfl) (by decide) ?_
    refine st_v (rv_extract rfl rfl) (by decide) ?_
    refine st_v (rv_assign rfl) (by decide) ?_
    refine st_v (rv_assign rfl) (by decide) ?_
    refine st_nil ?_
    refine st_then ?_
    refine st_seq ?_
    refine st_region ?_
    refine st_v (rv_move rfl) (by decide) ?_
    refine st_v (rv_move rfl) (by decide) ?_
    refine st_call0 cal14 rfl (fun w hM => (still_calls _ p (by omega) w ((rd_rd (i := 1) rfl) w hM))) (by decide) ?_
    refine st_v (rv_assign rfl) (by decide) ?_
    refine st_nil ?_
    refine st_then ?_
    refine st_seq ?_
    refine st_seq ?_
    refine st_region ?_
    refine st_v (rv_move rfl) (by decide) ?_
    refine st_v (rv_not rfl) (by decide) ?_
    refine st_nil ?_
    refine st_then ?_
    refine st_false rfl ?_
    refine st_skip ?_
    refine st_then ?_
    refine st_seq ?_
    refine st_seq ?_
    refine st_region ?_
    refine st_v (rv_move rfl) (by decide) ?_
    refine st_v (rv_lenB Tryd.underlying9 rfl) (by decide) ?_
    refine st_v (rv_neqZ rfl rfl) (by decide) ?_
    refine st_nil ?_
    refine st_then ?_
    refine st_cond rfl (fun hc47 => ?_) (fun hc47 => ?_)
    · -- t47 True
      try simp only [z1, z2, z3, z4, z5, z6, z7, z8, z9, z10, z11, z12, z13, z14] at hc47
      exact absurd (congrArg Int.ofNat hq) hc47
    · -- t47 False
      try simp only [z1, z2, z3, z4, z5, z6, z7, z8, z9, z10, z11, z12, z13, z14] at hc47
      refine st_skip ?_
      refine st_then ?_
      refine st_seq ?_
      refine st_region ?_
      refine st_v (rv_move rfl) (by decide) ?_
      refine st_call0 cal15 rfl (fun w hM => (rPublic_calls q hq w)) (by decide) ?_
      refine st_v (rv_assign rfl) (by decide) ?_
      refine st_nil ?_
      refine st_then ?_
      refine st_seq ?_
      refine st_seq ?_
      refine st_region ?_
      refine st_v (rv_move rfl) (by decide) ?_
      refine st_v (rv_string (rd_own (i := 2) rfl) Tryd.underlying22 Tryd.underlying9 Tryd.underlying5 rfl) (by decide) ?_
      refine st_v (rv_move rfl) (by decide) ?_
      refine st_v (rv_to (rv_neqB rfl rfl) (u := .bool false) (by simp)) (by decide) ?_
      refine st_v (rv_move rfl) (by decide) ?_
      refine st_gon rfl rfl ?_
      refine st_v (rv_move rfl) (by decide) ?_
      refine st_gon rfl rfl ?_
      refine st_v (rv_neqZ rfl rfl) (by decide) ?_
      first | refine st_v (rv_pick_true rfl rfl) (by decide) ?_ | refine st_v (rv_pick_false rfl rfl) (by decide) ?_ | refine st_v (rv_pick rfl rfl rfl) (by decide) ?_
      refine st_nil ?_
      refine st_then ?_
      refine st_false rfl ?_
      refine st_skip ?_
      refine st_then ?_
      refine st_seq ?_
      refine st_seq ?_
      refine st_region ?_
      refine st_v (rv_move rfl) (by decide) ?_
      refine st_v (rv_lenB Tryd.underlying9 rfl) (by decide) ?_
      refine st_v (rv_neqZ rfl rfl) (by decide) ?_
      refine st_nil ?_
      refine st_then ?_
      refine st_cond rfl (fun hc76 => ?_) (fun hc76 => ?_)
      · -- t76 True
        try simp only [z1, z2, z3, z4, z5, z6, z7, z8, z9, z10, z11, z12, z13, z14] at hc76
        refine st_seq ?_
        refine st_region ?_
        refine st_v (rv_move rfl) (by decide) ?_
        refine st_v (rv_lenS Tryd.underlying22 rfl) (by decide) ?_
        refine st_v (rv_eqlZ rfl rfl) (by decide) ?_
        refine st_v (rv_move rfl) (by decide) ?_
        refine' st_and 3 (L := _) (s := 80) (d := 83) [] rfl (fun hg4 => ?_) (fun _ => ?_) ?_; rotate_left
        · -- true
          try simp only [decide_eq_true_eq, decide_eq_false_iff_not, Bool.and_eq_true, Bool.not_eq_true] at hg4
          refine st_gon rfl rfl ?_
          refine st_v (rv_move rfl) (by decide) ?_
          refine st_gon rfl rfl ?_
          refine st_v (rv_eqlZ rfl rfl) (by decide) ?_
          first | refine st_v (rv_pick_true rfl rfl) (by decide) ?_ | refine st_v (rv_pick_false rfl rfl) (by decide) ?_ | refine st_v (rv_pick rfl rfl rfl) (by decide) ?_
          refine st_nil ?_
          exact st_meet_b (.cons rfl (.nil _))
        · -- false
          refine st_gskip rfl rfl rfl (by decide) ?_
          refine st_gskip rfl rfl rfl (by decide) ?_
          first | refine st_v (rv_pick_true rfl rfl) (by decide) ?_ | refine st_v (rv_pick_false rfl rfl) (by decide) ?_ | refine st_v (rv_pick rfl rfl rfl) (by decide) ?_
          refine st_nil ?_
          exact st_meet_b (.cons rfl (.nil _))
        refine st_v (rv_assign rfl) (by decide) ?_
        refine st_nil ?_
        refine st_then ?_
        refine st_ret ?_
        refine st_then_ret ?_
        exact st_done rfl rfl (fun w hM => ⟨by first | (simp; done) | rfl, hM.sublist (List.nil_sublist _)⟩)
      · -- t76 False
        try simp only [z1, z2, z3, z4, z5, z6, z7, z8, z9, z10, z11, z12, z13, z14] at hc76
        exact absurd (Int.ofNat.inj hc76) hp
set_option maxRecDepth 20000 in
set_option maxHeartbeats 1000000 in
theorem curveAgrees3 (q p : List (BitVec 8)) (hq : q.length = 32) (hp : p.length = 32) (hz : shrF q p = 0) (w : World) (hL : LaidM w) : Calls Tryd.prog 3 #[vS q, vS p] w (fun e w' => e = .returned (.bool true) ∧ Mem (All w) w w' []) := by
  refine calls_of_st (n := 107) (args := [vS q, vS p]) Tryd.func3 rfl Tryd.ntmps3 (Nat.le_of_ble_eq_true rfl) (Mem.all w) ?_
  refine st_seq ?_
  refine st_region ?_
  refine st_v (rv_assign rfl) (by decide) ?_
  refine st_nil ?_
  refine st_then ?_
  refine st_seq ?_
  refine st_seq ?_
  refine st_region ?_
  refine st_v (rv_move rfl) (by decide) ?_
  refine st_v (rv_lenB Tryd.underlying9 rfl) (by decide) ?_
  refine st_v (rv_gtrZ rfl rfl) (by decide) ?_
  refine st_v (rv_move rfl) (by decide) ?_
  refine' st_or 4 (L := _) (s := 17) (d := 21) [0, 1] rfl (fun hg4 => ?_) (fun _ => ?_) ?_; rotate_left
  · -- true
    refine st_gskip rfl rfl rfl (by decide) ?_
    refine st_gskip rfl rfl rfl (by decide) ?_
    refine st_gskip rfl rfl rfl (by decide) ?_
    first | refine st_v (rv_pick_true rfl rfl) (by decide) ?_ | refine st_v (rv_pick_false rfl rfl) (by decide) ?_ | refine st_v (rv_pick rfl rfl rfl) (by decide) ?_
    refine st_nil ?_
    exact st_meet_b (.cons rfl (.cons rfl (.cons rfl (.nil _))))
  · -- false
    refine st_gon rfl rfl ?_
    refine st_v (rv_move rfl) (by decide) ?_
    refine st_gon rfl rfl ?_
    refine st_v (rv_lenB Tryd.underlying9 rfl) (by decide) ?_
    refine st_gon rfl rfl ?_
    refine st_v (rv_gtrZ rfl rfl) (by decide) ?_
    first | refine st_v (rv_pick_true rfl rfl) (by decide) ?_ | refine st_v (rv_pick_false rfl rfl) (by decide) ?_ | refine st_v (rv_pick rfl rfl rfl) (by decide) ?_
    refine st_nil ?_
    exact st_meet_b (.cons rfl (.cons rfl (.cons rfl (.nil _))))
  refine st_nil ?_
  refine st_then ?_
  refine st_cond rfl (fun hc21 => ?_) (fun hc21 => ?_)
  · -- t21 True
    try simp only [z1, z2, z3, z4, z5, z6, z7, z8, z9, z10, z11, z12, z13, z14] at hc21
    refine st_seq ?_
    refine st_region ?_
    refine st_v (rv_assign rfl) (by decide) ?_
    refine st_nil ?_
    refine st_then ?_
    refine st_ret ?_
    refine st_then_ret ?_
    exact st_done rfl rfl (fun w hM => ⟨by first | (simp; done) | rfl, hM.sublist (List.nil_sublist _)⟩)
  · -- t21 False
    try simp only [z1, z2, z3, z4, z5, z6, z7, z8, z9, z10, z11, z12, z13, z14] at hc21
    refine st_skip ?_
    refine st_then ?_
    refine st_seq ?_
    refine st_region ?_
    refine st_v (rv_move rfl) (by decide) ?_
    refine st_bytes Tryd.underlying9 Tryd.underlying22 Tryd.underlying5 rfl (by decide) (fun v1 => ?_)
    refine st_call1 (ρ := Value) (fun r => .tuple #[r, vI 0]) (fun _ => True) (fun r => [own r 5 1 32 ((leB 32 ((pubF q).val)).map U8)]) cal11 rfl (fun w hM => ((Public_ok _ q hq w (hL.at hM) ((rd_own (i := 0) rfl) w hM))).mono fun e w' ⟨r, h1, h2⟩ => ⟨r, h1, trivial, h2⟩) (by decide) (fun r2 _ => ?_)
    refine st_v (rv_move rfl) (by decide) ?_
    refine st_v (rv_extract rfl rfl) (by decide) ?_
    refine st_v (rv_extract rfl rfl) (by decide) ?_
    refine st_v (rv_assign rfl) (by decide) ?_
    refine st_v (rv_assign rfl) (by decide) ?_
    refine st_nil ?_
    refine st_then ?_
    refine st_seq ?_
    refine st_region ?_
    refine st_v (rv_move rfl) (by decide) ?_
    refine st_callV cal12 rfl (fun w hM => lent_calls _ (by omega) w) (by decide) (fun v3 => ?_)
    refine st_v (rv_assign rfl) (by decide) ?_
    refine st_nil ?_
    refine st_then ?_
    refine st_seq ?_
    refine st_region ?_
    refine st_v (rv_move rfl) (by decide) ?_
    refine st_bytes Tryd.underlying9 Tryd.underlying22 Tryd.underlying5 rfl (by decide) (fun v4 => ?_)
    refine st_v (rv_move rfl) (by decide) ?_
    refine st_v (rv_move rfl) (by decide) ?_
    refine st_v (rv_lenB Tryd.underlying9 rfl) (by decide) ?_
    refine st_v (rv_sliceR (rd_rd (i := 1) rfl) Tryd.underlying22 sz5 rfl evB_none (evB_some rfl rfl) (by first | omega | (simp [length_lentL] <;> omega)) (by first | omega | (simp [length_lentL] <;> omega))) (by decide) ?_
    refine st_call0 cal13 rfl (fun w hM => (Shared_zero _ _ q p hq hp hz w (hL.at hM) ((rd_own (i := 0) rfl) w hM) (lentRd (((rd_rd (i := 1) rfl) w hM).part8 (by first | omega | (simp [length_lentL] <;> omega)) (by first | omega | (simp [length_lentL] <;> omega)))))) (by decide) ?_
    refine st_v (rv_move rfl) (by decide) ?_
    refine st_v (rv_extract rfl rfl) (by decide) ?_
    refine st_v (rv_extract rfl rfl) (by decide) ?_
    refine st_v (rv_assign rfl) (by decide) ?_
    refine st_v (rv_assign rfl) (by decide) ?_
    refine st_nil ?_
    refine st_then ?_
    refine st_seq ?_
    refine st_region ?_
    refine st_v (rv_move rfl) (by decide) ?_
    refine st_v (rv_move rfl) (by decide) ?_
    refine st_call0 cal14 rfl (fun w hM => (still_calls _ p (by omega) w ((rd_rd (i := 1) rfl) w hM))) (by decide) ?_
    refine st_v (rv_assign rfl) (by decide) ?_
    refine st_nil ?_
    refine st_then ?_
    refine st_seq ?_
    refine st_seq ?_
    refine st_region ?_
    refine st_v (rv_move rfl) (by decide) ?_
    refine st_v (rv_not rfl) (by decide) ?_
    refine st_nil ?_
    refine st_then ?_
    refine st_false rfl ?_
    refine st_skip ?_
    refine st_then ?_
    refine st_seq ?_
    refine st_seq ?_
    refine st_region ?_
    refine st_v (rv_move rfl) (by decide) ?_
    refine st_v (rv_lenB Tryd.underlying9 rfl) (by decide) ?_
    refine st_v (rv_neqZ rfl rfl) (by decide) ?_
    refine st_nil ?_
    refine st_then ?_
    refine st_cond rfl (fun hc47 => ?_) (fun hc47 => ?_)
    · -- t47 True
      try simp only [z1, z2, z3, z4, z5, z6, z7, z8, z9, z10, z11, z12, z13, z14] at hc47
      exact absurd (congrArg Int.ofNat hq) hc47
    · -- t47 False
      try simp only [z1, z2, z3, z4, z5, z6, z7, z8, z9, z10, z11, z12, z13, z14] at hc47
      refine st_skip ?_
      refine st_then ?_
      refine st_seq ?_
      refine st_region ?_
      refine st_v (rv_move rfl) (by decide) ?_
      refine st_call0 cal15 rfl (fun w hM => (rPublic_calls q hq w)) (by decide) ?_
      refine st_v (rv_assign rfl) (by decide) ?_
      refine st_nil ?_
      refine st_then ?_
      refine st_seq ?_
      refine st_seq ?_
      refine st_region ?_
      refine st_v (rv_move rfl) (by decide) ?_
      refine st_v (rv_string (rd_own (i := 2) rfl) Tryd.underlying22 Tryd.underlying9 Tryd.underlying5 rfl) (by decide) ?_
      refine st_v (rv_move rfl) (by decide) ?_
      refine st_v (rv_to (rv_neqB rfl rfl) (u := .bool false) (by simp)) (by decide) ?_
      refine st_v (rv_move rfl) (by decide) ?_
      refine st_gon rfl rfl ?_
      refine st_v (rv_move rfl) (by decide) ?_
      refine st_gon rfl rfl ?_
      refine st_v (rv_neqZ rfl rfl) (by decide) ?_
      first | refine st_v (rv_pick_true rfl rfl) (by decide) ?_ | refine st_v (rv_pick_false rfl rfl) (by decide) ?_ | refine st_v (rv_pick rfl rfl rfl) (by decide) ?_
      refine st_nil ?_
      refine st_then ?_
      refine st_false rfl ?_
      refine st_skip ?_
      refine st_then ?_
      refine st_seq ?_
      refine st_seq ?_
      refine st_region ?_
      refine st_v (rv_move rfl) (by decide) ?_
      refine st_v (rv_lenB Tryd.underlying9 rfl) (by decide) ?_
      refine st_v (rv_neqZ rfl rfl) (by decide) ?_
      refine st_nil ?_
      refine st_then ?_
      refine st_cond rfl (fun hc76 => ?_) (fun hc76 => ?_)
      · -- t76 True
        try simp only [z1, z2, z3, z4, z5, z6, z7, z8, z9, z10, z11, z12, z13, z14] at hc76
        exact absurd (congrArg Int.ofNat hp) hc76
      · -- t76 False
        try simp only [z1, z2, z3, z4, z5, z6, z7, z8, z9, z10, z11, z12, z13, z14] at hc76
        refine st_skip ?_
        refine st_then ?_
        refine st_seq ?_
        refine st_region ?_
        refine st_v (rv_move rfl) (by decide) ?_
        refine st_v (rv_move rfl) (by decide) ?_
        refine st_call0 cal16 rfl (fun w hM => (by have h := rShared_calls q p hq hp w; rwa [show decide ((shrF q p).val = 0) = true from decide_eq_true (by rw [hz]; rfl)] at h)) (by decide) ?_
        refine st_v (rv_move rfl) (by decide) ?_
        refine st_v (rv_extract rfl rfl) (by decide) ?_
        refine st_v (rv_extract rfl rfl) (by decide) ?_
        refine st_v (rv_assign rfl) (by decide) ?_
        refine st_v (rv_assign rfl) (by decide) ?_
        refine st_nil ?_
        refine st_then ?_
        refine st_seq ?_
        refine st_seq ?_
        refine st_region ?_
        refine st_v (rv_move rfl) (by decide) ?_
        refine st_v (rv_not rfl) (by decide) ?_
        refine st_nil ?_
        refine st_then ?_
        refine st_true rfl ?_
        refine st_seq ?_
        refine st_region ?_
        refine st_v (rv_move rfl) (by decide) ?_
        refine st_v (rv_lenS Tryd.underlying22 rfl) (by decide) ?_
        refine st_v (rv_eqlZ rfl rfl) (by decide) ?_
        refine st_v (rv_move rfl) (by decide) ?_
        refine' st_and 3 (L := _) (s := 95) (d := 98) [] rfl (fun hg4 => ?_) (fun _ => ?_) ?_; rotate_left
        · -- true
          try simp only [decide_eq_true_eq, decide_eq_false_iff_not, Bool.and_eq_true, Bool.not_eq_true] at hg4
          refine st_gon rfl rfl ?_
          refine st_v (rv_move rfl) (by decide) ?_
          refine st_gon rfl rfl ?_
          refine st_v (rv_eqlZ rfl rfl) (by decide) ?_
          first | refine st_v (rv_pick_true rfl rfl) (by decide) ?_ | refine st_v (rv_pick_false rfl rfl) (by decide) ?_ | refine st_v (rv_pick rfl rfl rfl) (by decide) ?_
          refine st_nil ?_
          exact st_meet_b (.cons rfl (.nil _))
        · -- false
          refine st_gskip rfl rfl rfl (by decide) ?_
          refine st_gskip rfl rfl rfl (by decide) ?_
          first | refine st_v (rv_pick_true rfl rfl) (by decide) ?_ | refine st_v (rv_pick_false rfl rfl) (by decide) ?_ | refine st_v (rv_pick rfl rfl rfl) (by decide) ?_
          refine st_nil ?_
          exact st_meet_b (.cons rfl (.nil _))
        refine st_v (rv_assign rfl) (by decide) ?_
        refine st_nil ?_
        refine st_then ?_
        refine st_ret ?_
        refine st_then_ret ?_
        exact st_done rfl rfl (fun w hM => ⟨by first | (simp; done) | rfl, hM.sublist (List.nil_sublist _)⟩)
set_option maxRecDepth 20000 in
set_option maxHeartbeats 1000000 in
theorem curveAgrees4 (q p : List (BitVec 8)) (hq : q.length = 32) (hp : p.length = 32) (hz : shrF q p ≠ 0) (w : World) (hL : LaidM w) : Calls Tryd.prog 3 #[vS q, vS p] w (fun e w' => e = .returned (.bool true) ∧ Mem (All w) w w' []) := by
  refine calls_of_st (n := 107) (args := [vS q, vS p]) Tryd.func3 rfl Tryd.ntmps3 (Nat.le_of_ble_eq_true rfl) (Mem.all w) ?_
  refine st_seq ?_
  refine st_region ?_
  refine st_v (rv_assign rfl) (by decide) ?_
  refine st_nil ?_
  refine st_then ?_
  refine st_seq ?_
  refine st_seq ?_
  refine st_region ?_
  refine st_v (rv_move rfl) (by decide) ?_
  refine st_v (rv_lenB Tryd.underlying9 rfl) (by decide) ?_
  refine st_v (rv_gtrZ rfl rfl) (by decide) ?_
  refine st_v (rv_move rfl) (by decide) ?_
  refine' st_or 4 (L := _) (s := 17) (d := 21) [0, 1] rfl (fun hg4 => ?_) (fun _ => ?_) ?_; rotate_left
  · -- true
    refine st_gskip rfl rfl rfl (by decide) ?_
    refine st_gskip rfl rfl rfl (by decide) ?_
    refine st_gskip rfl rfl rfl (by decide) ?_
    first | refine st_v (rv_pick_true rfl rfl) (by decide) ?_ | refine st_v (rv_pick_false rfl rfl) (by decide) ?_ | refine st_v (rv_pick rfl rfl rfl) (by decide) ?_
    refine st_nil ?_
    exact st_meet_b (.cons rfl (.cons rfl (.cons rfl (.nil _))))
  · -- false
    refine st_gon rfl rfl ?_
    refine st_v (rv_move rfl) (by decide) ?_
    refine st_gon rfl rfl ?_
    refine st_v (rv_lenB Tryd.underlying9 rfl) (by decide) ?_
    refine st_gon rfl rfl ?_
    refine st_v (rv_gtrZ rfl rfl) (by decide) ?_
    first | refine st_v (rv_pick_true rfl rfl) (by decide) ?_ | refine st_v (rv_pick_false rfl rfl) (by decide) ?_ | refine st_v (rv_pick rfl rfl rfl) (by decide) ?_
    refine st_nil ?_
    exact st_meet_b (.cons rfl (.cons rfl (.cons rfl (.nil _))))
  refine st_nil ?_
  refine st_then ?_
  refine st_cond rfl (fun hc21 => ?_) (fun hc21 => ?_)
  · -- t21 True
    try simp only [z1, z2, z3, z4, z5, z6, z7, z8, z9, z10, z11, z12, z13, z14] at hc21
    refine st_seq ?_
    refine st_region ?_
    refine st_v (rv_assign rfl) (by decide) ?_
    refine st_nil ?_
    refine st_then ?_
    refine st_ret ?_
    refine st_then_ret ?_
    exact st_done rfl rfl (fun w hM => ⟨by first | (simp; done) | rfl, hM.sublist (List.nil_sublist _)⟩)
  · -- t21 False
    try simp only [z1, z2, z3, z4, z5, z6, z7, z8, z9, z10, z11, z12, z13, z14] at hc21
    refine st_skip ?_
    refine st_then ?_
    refine st_seq ?_
    refine st_region ?_
    refine st_v (rv_move rfl) (by decide) ?_
    refine st_bytes Tryd.underlying9 Tryd.underlying22 Tryd.underlying5 rfl (by decide) (fun v1 => ?_)
    refine st_call1 (ρ := Value) (fun r => .tuple #[r, vI 0]) (fun _ => True) (fun r => [own r 5 1 32 ((leB 32 ((pubF q).val)).map U8)]) cal11 rfl (fun w hM => ((Public_ok _ q hq w (hL.at hM) ((rd_own (i := 0) rfl) w hM))).mono fun e w' ⟨r, h1, h2⟩ => ⟨r, h1, trivial, h2⟩) (by decide) (fun r2 _ => ?_)
    refine st_v (rv_move rfl) (by decide) ?_
    refine st_v (rv_extract rfl rfl) (by decide) ?_
    refine st_v (rv_extract rfl rfl) (by decide) ?_
    refine st_v (rv_assign rfl) (by decide) ?_
    refine st_v (rv_assign rfl) (by decide) ?_
    refine st_nil ?_
    refine st_then ?_
    refine st_seq ?_
    refine st_region ?_
    refine st_v (rv_move rfl) (by decide) ?_
    refine st_callV cal12 rfl (fun w hM => lent_calls _ (by omega) w) (by decide) (fun v3 => ?_)
    refine st_v (rv_assign rfl) (by decide) ?_
    refine st_nil ?_
    refine st_then ?_
    refine st_seq ?_
    refine st_region ?_
    refine st_v (rv_move rfl) (by decide) ?_
    refine st_bytes Tryd.underlying9 Tryd.underlying22 Tryd.underlying5 rfl (by decide) (fun v4 => ?_)
    refine st_v (rv_move rfl) (by decide) ?_
    refine st_v (rv_move rfl) (by decide) ?_
    refine st_v (rv_lenB Tryd.underlying9 rfl) (by decide) ?_
    refine st_v (rv_sliceR (rd_rd (i := 1) rfl) Tryd.underlying22 sz5 rfl evB_none (evB_some rfl rfl) (by first | omega | (simp [length_lentL] <;> omega)) (by first | omega | (simp [length_lentL] <;> omega))) (by decide) ?_
    refine st_call1 (ρ := Value) (fun r => .tuple #[r, vI 0]) (fun _ => True) (fun r => [own r 5 1 32 ((leB 32 ((shrF q p).val)).map U8)]) cal13 rfl (fun w hM => ((Shared_ok _ _ q p hq hp hz w (hL.at hM) ((rd_own (i := 0) rfl) w hM) (lentRd (((rd_rd (i := 1) rfl) w hM).part8 (by first | omega | (simp [length_lentL] <;> omega)) (by first | omega | (simp [length_lentL] <;> omega)))))).mono fun e w' ⟨r, h1, h2⟩ => ⟨r, h1, trivial, h2⟩) (by decide) (fun r5 _ => ?_)
    refine st_v (rv_move rfl) (by decide) ?_
    refine st_v (rv_extract rfl rfl) (by decide) ?_
    refine st_v (rv_extract rfl rfl) (by decide) ?_
    refine st_v (rv_assign rfl) (by decide) ?_
    refine st_v (rv_assign rfl) (by decide) ?_
    refine st_nil ?_
    refine st_then ?_
    refine st_seq ?_
    refine st_region ?_
    refine st_v (rv_move rfl) (by decide) ?_
    refine st_v (rv_move rfl) (by decide) ?_
    refine st_call0 cal14 rfl (fun w hM => (still_calls _ p (by omega) w ((rd_rd (i := 2) rfl) w hM))) (by decide) ?_
    refine st_v (rv_assign rfl) (by decide) ?_
    refine st_nil ?_
    refine st_then ?_
    refine st_seq ?_
    refine st_seq ?_
    refine st_region ?_
    refine st_v (rv_move rfl) (by decide) ?_
    refine st_v (rv_not rfl) (by decide) ?_
    refine st_nil ?_
    refine st_then ?_
    refine st_false rfl ?_
    refine st_skip ?_
    refine st_then ?_
    refine st_seq ?_
    refine st_seq ?_
    refine st_region ?_
    refine st_v (rv_move rfl) (by decide) ?_
    refine st_v (rv_lenB Tryd.underlying9 rfl) (by decide) ?_
    refine st_v (rv_neqZ rfl rfl) (by decide) ?_
    refine st_nil ?_
    refine st_then ?_
    refine st_cond rfl (fun hc47 => ?_) (fun hc47 => ?_)
    · -- t47 True
      try simp only [z1, z2, z3, z4, z5, z6, z7, z8, z9, z10, z11, z12, z13, z14] at hc47
      exact absurd (congrArg Int.ofNat hq) hc47
    · -- t47 False
      try simp only [z1, z2, z3, z4, z5, z6, z7, z8, z9, z10, z11, z12, z13, z14] at hc47
      refine st_skip ?_
      refine st_then ?_
      refine st_seq ?_
      refine st_region ?_
      refine st_v (rv_move rfl) (by decide) ?_
      refine st_call0 cal15 rfl (fun w hM => (rPublic_calls q hq w)) (by decide) ?_
      refine st_v (rv_assign rfl) (by decide) ?_
      refine st_nil ?_
      refine st_then ?_
      refine st_seq ?_
      refine st_seq ?_
      refine st_region ?_
      refine st_v (rv_move rfl) (by decide) ?_
      refine st_v (rv_string (rd_own (i := 3) rfl) Tryd.underlying22 Tryd.underlying9 Tryd.underlying5 rfl) (by decide) ?_
      refine st_v (rv_move rfl) (by decide) ?_
      refine st_v (rv_to (rv_neqB rfl rfl) (u := .bool false) (by simp)) (by decide) ?_
      refine st_v (rv_move rfl) (by decide) ?_
      refine st_gon rfl rfl ?_
      refine st_v (rv_move rfl) (by decide) ?_
      refine st_gon rfl rfl ?_
      refine st_v (rv_neqZ rfl rfl) (by decide) ?_
      first | refine st_v (rv_pick_true rfl rfl) (by decide) ?_ | refine st_v (rv_pick_false rfl rfl) (by decide) ?_ | refine st_v (rv_pick rfl rfl rfl) (by decide) ?_
      refine st_nil ?_
      refine st_then ?_
      refine st_false rfl ?_
      refine st_skip ?_
      refine st_then ?_
      refine st_seq ?_
      refine st_seq ?_
      refine st_region ?_
      refine st_v (rv_move rfl) (by decide) ?_
      refine st_v (rv_lenB Tryd.underlying9 rfl) (by decide) ?_
      refine st_v (rv_neqZ rfl rfl) (by decide) ?_
      refine st_nil ?_
      refine st_then ?_
      refine st_cond rfl (fun hc76 => ?_) (fun hc76 => ?_)
      · -- t76 True
        try simp only [z1, z2, z3, z4, z5, z6, z7, z8, z9, z10, z11, z12, z13, z14] at hc76
        exact absurd (congrArg Int.ofNat hp) hc76
      · -- t76 False
        try simp only [z1, z2, z3, z4, z5, z6, z7, z8, z9, z10, z11, z12, z13, z14] at hc76
        refine st_skip ?_
        refine st_then ?_
        refine st_seq ?_
        refine st_region ?_
        refine st_v (rv_move rfl) (by decide) ?_
        refine st_v (rv_move rfl) (by decide) ?_
        refine st_call0 cal16 rfl (fun w hM => (by have h := rShared_calls q p hq hp w; rwa [show decide ((shrF q p).val = 0) = false from decide_eq_false (fun e => hz (Fin.ext e))] at h)) (by decide) ?_
        refine st_v (rv_move rfl) (by decide) ?_
        refine st_v (rv_extract rfl rfl) (by decide) ?_
        refine st_v (rv_extract rfl rfl) (by decide) ?_
        refine st_v (rv_assign rfl) (by decide) ?_
        refine st_v (rv_assign rfl) (by decide) ?_
        refine st_nil ?_
        refine st_then ?_
        refine st_seq ?_
        refine st_seq ?_
        refine st_region ?_
        refine st_v (rv_move rfl) (by decide) ?_
        refine st_v (rv_not rfl) (by decide) ?_
        refine st_nil ?_
        refine st_then ?_
        refine st_false rfl ?_
        refine st_skip ?_
        refine st_then ?_
        refine st_seq ?_
        refine st_region ?_
        refine st_v (rv_move rfl) (by decide) ?_
        refine st_v (rv_string (rd_own (i := 0) rfl) Tryd.underlying22 Tryd.underlying9 Tryd.underlying5 rfl) (by decide) ?_
        refine st_v (rv_move rfl) (by decide) ?_
        refine st_v (rv_eqlB rfl rfl) (by decide) ?_
        refine st_v (rv_move rfl) (by decide) ?_
        refine' st_and 3 (L := _) (s := 103) (d := 106) [] rfl (fun hg5 => ?_) (fun _ => ?_) ?_; rotate_left
        · -- true
          try simp only [decide_eq_true_eq, decide_eq_false_iff_not, Bool.and_eq_true, Bool.not_eq_true] at hg5
          refine st_gon rfl rfl ?_
          refine st_v (rv_move rfl) (by decide) ?_
          refine st_gon rfl rfl ?_
          refine st_v (rv_eqlZ rfl rfl) (by decide) ?_
          first | refine st_v (rv_pick_true rfl rfl) (by decide) ?_ | refine st_v (rv_pick_false rfl rfl) (by decide) ?_ | refine st_v (rv_pick rfl rfl rfl) (by decide) ?_
          refine st_nil ?_
          exact st_meet_b (.cons rfl (.nil _))
        · -- false
          refine st_gskip rfl rfl rfl (by decide) ?_
          refine st_gskip rfl rfl rfl (by decide) ?_
          first | refine st_v (rv_pick_true rfl rfl) (by decide) ?_ | refine st_v (rv_pick_false rfl rfl) (by decide) ?_ | refine st_v (rv_pick rfl rfl rfl) (by decide) ?_
          refine st_nil ?_
          exact st_meet_b (.cons rfl (.nil _))
        refine st_v (rv_assign rfl) (by decide) ?_
        refine st_nil ?_
        refine st_then ?_
        refine st_ret ?_
        exact st_done rfl rfl (fun w hM => ⟨by first | (simp; done) | rfl, hM.sublist (List.nil_sublist _)⟩)
theorem curveAgrees_walk (q p : List (BitVec 8)) (w : World) (hL : LaidM w) : Calls Tryd.prog 3 #[vS q, vS p] w (fun e w' => e = .returned (.bool true) ∧ Mem (All w) w w' []) := by
  by_cases hq : q.length = 32
  · by_cases hp : p.length = 32
    · by_cases hz : shrF q p = 0
      · exact curveAgrees3 q p hq hp hz w hL
      · exact curveAgrees4 q p hq hp hz w hL
    · exact curveAgrees2 q p hq hp w hL
  · exact curveAgrees1 q p hq w hL
end Go.Proofs.YtjhjjhpfjadjpaaDoor
