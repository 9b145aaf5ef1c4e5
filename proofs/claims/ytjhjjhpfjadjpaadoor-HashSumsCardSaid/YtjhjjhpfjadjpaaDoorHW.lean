/- Walks: what functions of the given program do, operation by operation. Written by wip/gen. -/
import Derived.Test.YtjhjjhpfjadjpaaDoorHV
import Derived.Test.YtjhjjhpfjadjpaaDoorHK
namespace Go.Proofs.YtjhjjhpfjadjpaaDoor
set_option linter.all false
open Go
set_option maxRecDepth 20000 in
theorem hashSums_bad (z : Int) (hz : knownZ z = false) (s : List (BitVec 8)) (w : World) (hL : LaidH w) : Calls Tryd.prog 7 #[vI z, vS s] w (fun e w' => e = .returned (.bool true) ∧ Mem (All w) w w' []) := by
  refine calls_of_st (n := 76) (args := [vI z, vS s]) Tryd.func7 rfl Tryd.ntmps7 (Nat.le_of_ble_eq_true rfl) (Mem.all w) ?_
  refine st_seq ?_
  refine st_region ?_
  refine st_v (rv_assign rfl) (by decide) ?_
  refine st_nil ?_
  refine st_then ?_
  refine st_seq ?_
  refine st_seq ?_
  refine st_region ?_
  refine st_v (rv_move rfl) (by decide) ?_
  refine st_v (rv_lenB Tryd.underlying9 rfl) (by decide) ?_
  refine st_v (rv_gtrZ rfl rfl) (by decide) ?_
  refine st_nil ?_
  refine st_then ?_
  refine st_cond rfl (fun hc18 => ?_) (fun hc18 => ?_)
  · -- t18 True
    try simp only [decide_eq_true_eq, decide_eq_false_iff_not, Bool.and_eq_true, Bool.or_eq_true, Bool.and_eq_false_iff, Bool.or_eq_false_iff, Bool.not_eq_true, Bool.not_eq_eq_eq_not, Bool.not_true, Bool.not_false, Int.not_lt, Int.not_le, ne_eq, Decidable.not_not] at hc18
    refine st_seq ?_
    refine st_region ?_
    refine st_v (rv_assign rfl) (by decide) ?_
    refine st_nil ?_
    refine st_then ?_
    refine st_ret ?_
    refine st_then_ret ?_
    exact st_done rfl rfl (fun w hM => ⟨by first | (simp; done) | rfl, hM.sublist (List.nil_sublist _)⟩)
  · -- t18 False
    try simp only [decide_eq_true_eq, decide_eq_false_iff_not, Bool.and_eq_true, Bool.or_eq_true, Bool.and_eq_false_iff, Bool.or_eq_false_iff, Bool.not_eq_true, Bool.not_eq_eq_eq_not, Bool.not_true, Bool.not_false, Int.not_lt, Int.not_le, ne_eq, Decidable.not_not] at hc18
    refine st_skip ?_
    refine st_then ?_
    refine st_seq ?_
    refine st_region ?_
    refine st_v (rv_move rfl) (by decide) ?_
    refine st_v (rv_assign rfl) (by decide) ?_
    refine st_nil ?_
    refine st_then ?_
    refine st_seq ?_
    refine st_region ?_
    refine st_v (rv_move rfl) (by decide) ?_
    refine st_callV cal12 rfl (fun w hM => lent_calls _ (by omega) w) (by decide) (fun v1 => ?_)
    refine st_v (rv_assign rfl) (by decide) ?_
    refine st_nil ?_
    refine st_then ?_
    refine st_seq ?_
    refine st_region ?_
    refine st_v (rv_move rfl) (by decide) ?_
    refine st_v (rv_move rfl) (by decide) ?_
    refine st_v (rv_move rfl) (by decide) ?_
    refine st_v (rv_lenB Tryd.underlying9 rfl) (by decide) ?_
    refine st_v (rv_sliceR (rd_rd (i := 0) rfl) Tryd.underlying22 sz5 rfl evB_none (evB_some rfl rfl) (by first | omega | (simp [length_lentL] <;> omega)) (by first | omega | (simp [length_lentL] <;> omega))) (by decide) ?_
    refine st_call0 cal32 rfl (fun w hM => (Sum_bad z hz _ w)) (by decide) ?_
    refine st_v (rv_move rfl) (by decide) ?_
    refine st_v (rv_extract rfl rfl) (by decide) ?_
    refine st_v (rv_extract rfl rfl) (by decide) ?_
    refine st_v (rv_assign rfl) (by decide) ?_
    refine st_v (rv_assign rfl) (by decide) ?_
    refine st_nil ?_
    refine st_then ?_
    refine st_seq ?_
    refine st_region ?_
    refine st_v (rv_move rfl) (by decide) ?_
    refine st_v (rv_move rfl) (by decide) ?_
    refine st_call0 cal14 rfl (fun w hM => (still_calls _ s (by omega) w ((rd_rd (i := 0) rfl) w hM))) (by decide) ?_
    refine st_v (rv_assign rfl) (by decide) ?_
    refine st_nil ?_
    refine st_then ?_
    refine st_seq ?_
    refine st_region ?_
    refine st_v (rv_move rfl) (by decide) ?_
    refine st_call0 cal34 rfl (fun w hM => (Size_bad z hz w)) (by decide) ?_
    refine st_v (rv_assign rfl) (by decide) ?_
    refine st_nil ?_
    refine st_then ?_
    refine st_seq ?_
    refine st_region ?_
    refine st_v (rv_move rfl) (by decide) ?_
    refine st_call0 cal35 rfl (fun w hM => (BlockSize_bad z hz w)) (by decide) ?_
    refine st_v (rv_assign rfl) (by decide) ?_
    refine st_nil ?_
    refine st_then ?_
    refine st_seq ?_
    refine st_region ?_
    refine st_v (rv_move rfl) (by decide) ?_
    refine st_call0 cal36 rfl (fun w hM => (rSize_bad z hz w)) (by decide) ?_
    refine st_v (rv_assign rfl) (by decide) ?_
    refine st_nil ?_
    refine st_then ?_
    refine st_seq ?_
    refine st_region ?_
    refine st_v (rv_move rfl) (by decide) ?_
    refine st_call0 cal37 rfl (fun w hM => (rBlockSize_bad z hz w)) (by decide) ?_
    refine st_v (rv_assign rfl) (by decide) ?_
    refine st_nil ?_
    refine st_then ?_
    refine st_seq ?_
    refine st_seq ?_
    refine st_region ?_
    refine st_v (rv_move rfl) (by decide) ?_
    refine st_v (rv_move rfl) (by decide) ?_
    refine st_v (rv_neqZ rfl rfl) (by decide) ?_
    refine st_v (rv_move rfl) (by decide) ?_
    refine' st_or 4 (L := _) (s := 45) (d := 49) [1, 5, 7, 8, 9] rfl (fun hg4 => ?_) (fun _ => ?_) ?_; rotate_left
    · -- true
      refine st_gskip rfl rfl rfl (by decide) ?_
      refine st_gskip rfl rfl rfl (by decide) ?_
      refine st_gskip rfl rfl rfl (by decide) ?_
      first | refine st_v (rv_pick_true rfl rfl) (by decide) ?_ | refine st_v (rv_pick_false rfl rfl) (by decide) ?_ | refine st_v (rv_pick rfl rfl rfl) (by decide) ?_
      refine st_nil ?_
      exact st_meet_b (SubE.cons rfl (SubE.cons rfl (SubE.cons rfl (SubE.cons rfl (SubE.cons rfl (SubE.cons rfl (SubE.nil _)))))))
    · -- false
      refine st_gon rfl rfl ?_
      refine st_v (rv_move rfl) (by decide) ?_
      refine st_gon rfl rfl ?_
      refine st_v (rv_move rfl) (by decide) ?_
      refine st_gon rfl rfl ?_
      refine st_v (rv_neqZ rfl rfl) (by decide) ?_
      first | refine st_v (rv_pick_true rfl rfl) (by decide) ?_ | refine st_v (rv_pick_false rfl rfl) (by decide) ?_ | refine st_v (rv_pick rfl rfl rfl) (by decide) ?_
      refine st_nil ?_
      exact st_meet_b (SubE.cons rfl (SubE.cons rfl (SubE.cons rfl (SubE.cons rfl (SubE.cons rfl (SubE.cons rfl (SubE.nil _)))))))
    refine st_v (rv_move rfl) (by decide) ?_
    refine' st_or 3 (L := _) (s := 50) (d := 53) [1, 5, 7, 8] rfl (fun hg9 => ?_) (fun _ => ?_) ?_; rotate_left
    · -- true
      refine st_gskip rfl rfl rfl (by decide) ?_
      refine st_gskip rfl rfl rfl (by decide) ?_
      first | refine st_v (rv_pick_true rfl rfl) (by decide) ?_ | refine st_v (rv_pick_false rfl rfl) (by decide) ?_ | refine st_v (rv_pick rfl rfl rfl) (by decide) ?_
      refine st_nil ?_
      exact st_meet_b (SubE.cons rfl (SubE.cons rfl (SubE.cons rfl (SubE.cons rfl (SubE.cons rfl (SubE.nil _))))))
    · -- false
      refine st_gon rfl rfl ?_
      refine st_v (rv_move rfl) (by decide) ?_
      refine st_gon rfl rfl ?_
      refine st_v (rv_not rfl) (by decide) ?_
      first | refine st_v (rv_pick_true rfl rfl) (by decide) ?_ | refine st_v (rv_pick_false rfl rfl) (by decide) ?_ | refine st_v (rv_pick rfl rfl rfl) (by decide) ?_
      refine st_nil ?_
      exact st_meet_b (SubE.cons rfl (SubE.cons rfl (SubE.cons rfl (SubE.cons rfl (SubE.cons rfl (SubE.nil _))))))
    refine st_nil ?_
    refine st_then ?_
    refine st_false rfl ?_
    refine st_skip ?_
    refine st_then ?_
    refine st_seq ?_
    refine st_region ?_
    refine st_v (rv_move rfl) (by decide) ?_
    refine st_call0 cal28 rfl (fun w hM => (rKnown_bad hz w)) (by decide) ?_
    refine st_v (rv_assign rfl) (by decide) ?_
    refine st_nil ?_
    refine st_then ?_
    refine st_seq ?_
    refine st_seq ?_
    refine st_region ?_
    refine st_v (rv_move rfl) (by decide) ?_
    refine st_v (rv_not rfl) (by decide) ?_
    refine st_nil ?_
    refine st_then ?_
    refine st_true rfl ?_
    refine st_seq ?_
    refine st_region ?_
    refine st_v (rv_move rfl) (by decide) ?_
    refine st_v (rv_lenS Tryd.underlying22 rfl) (by decide) ?_
    refine st_v (rv_eqlZ rfl rfl) (by decide) ?_
    refine st_v (rv_move rfl) (by decide) ?_
    refine' st_and 3 (L := _) (s := 61) (d := 64) [] rfl (fun hg4 => ?_) (fun _ => ?_) ?_; rotate_left
    · -- true
      try simp only [decide_eq_true_eq, decide_eq_false_iff_not, Bool.and_eq_true, Bool.not_eq_true] at hg4
      refine st_gon rfl rfl ?_
      refine st_v (rv_move rfl) (by decide) ?_
      refine st_gon rfl rfl ?_
      refine st_v (rv_eqlZ rfl rfl) (by decide) ?_
      first | refine st_v (rv_pick_true rfl rfl) (by decide) ?_ | refine st_v (rv_pick_false rfl rfl) (by decide) ?_ | refine st_v (rv_pick rfl rfl rfl) (by decide) ?_
      refine st_nil ?_
      exact st_meet_b (SubE.cons rfl (SubE.nil _))
    · -- false
      refine st_gskip rfl rfl rfl (by decide) ?_
      refine st_gskip rfl rfl rfl (by decide) ?_
      first | refine st_v (rv_pick_true rfl rfl) (by decide) ?_ | refine st_v (rv_pick_false rfl rfl) (by decide) ?_ | refine st_v (rv_pick rfl rfl rfl) (by decide) ?_
      refine st_nil ?_
      exact st_meet_b (SubE.cons rfl (SubE.nil _))
    refine st_v (rv_assign rfl) (by decide) ?_
    refine st_nil ?_
    refine st_then ?_
    refine st_ret ?_
    refine st_then_ret ?_
    exact st_done rfl rfl (fun w hM => ⟨by first | (simp; done) | rfl, hM.sublist (List.nil_sublist _)⟩)
set_option maxRecDepth 20000 in
theorem hashSums0 (s : List (BitVec 8)) (w : World) (hL : LaidH w) : Calls Tryd.prog 7 #[vI (0 : Nat), vS s] w (fun e w' => e = .returned (.bool true) ∧ Mem (All w) w w' []) := by
  refine calls_of_st (n := 76) (args := [vI (0 : Nat), vS s]) Tryd.func7 rfl Tryd.ntmps7 (Nat.le_of_ble_eq_true rfl) (Mem.all w) ?_
  refine st_seq ?_
  refine st_region ?_
  refine st_v (rv_assign rfl) (by decide) ?_
  refine st_nil ?_
  refine st_then ?_
  refine st_seq ?_
  refine st_seq ?_
  refine st_region ?_
  refine st_v (rv_move rfl) (by decide) ?_
  refine st_v (rv_lenB Tryd.underlying9 rfl) (by decide) ?_
  refine st_v (rv_gtrZ rfl rfl) (by decide) ?_
  refine st_nil ?_
  refine st_then ?_
  refine st_cond rfl (fun hc18 => ?_) (fun hc18 => ?_)
  · -- t18 True
    try simp only [decide_eq_true_eq, decide_eq_false_iff_not, Bool.and_eq_true, Bool.or_eq_true, Bool.and_eq_false_iff, Bool.or_eq_false_iff, Bool.not_eq_true, Bool.not_eq_eq_eq_not, Bool.not_true, Bool.not_false, Int.not_lt, Int.not_le, ne_eq, Decidable.not_not] at hc18
    refine st_seq ?_
    refine st_region ?_
    refine st_v (rv_assign rfl) (by decide) ?_
    refine st_nil ?_
    refine st_then ?_
    refine st_ret ?_
    refine st_then_ret ?_
    exact st_done rfl rfl (fun w hM => ⟨by first | (simp; done) | rfl, hM.sublist (List.nil_sublist _)⟩)
  · -- t18 False
    try simp only [decide_eq_true_eq, decide_eq_false_iff_not, Bool.and_eq_true, Bool.or_eq_true, Bool.and_eq_false_iff, Bool.or_eq_false_iff, Bool.not_eq_true, Bool.not_eq_eq_eq_not, Bool.not_true, Bool.not_false, Int.not_lt, Int.not_le, ne_eq, Decidable.not_not] at hc18
    refine st_skip ?_
    refine st_then ?_
    refine st_seq ?_
    refine st_region ?_
    refine st_v (rv_move rfl) (by decide) ?_
    refine st_v (rv_assign rfl) (by decide) ?_
    refine st_nil ?_
    refine st_then ?_
    refine st_seq ?_
    refine st_region ?_
    refine st_v (rv_move rfl) (by decide) ?_
    refine st_callV cal12 rfl (fun w hM => lent_calls _ (by omega) w) (by decide) (fun v1 => ?_)
    refine st_v (rv_assign rfl) (by decide) ?_
    refine st_nil ?_
    refine st_then ?_
    refine st_seq ?_
    refine st_region ?_
    refine st_v (rv_move rfl) (by decide) ?_
    refine st_v (rv_move rfl) (by decide) ?_
    refine st_v (rv_move rfl) (by decide) ?_
    refine st_v (rv_lenB Tryd.underlying9 rfl) (by decide) ?_
    refine st_v (rv_sliceR (rd_rd (i := 0) rfl) Tryd.underlying22 sz5 rfl evB_none (evB_some rfl rfl) (by first | omega | (simp [length_lentL] <;> omega)) (by first | omega | (simp [length_lentL] <;> omega))) (by decide) ?_
    refine st_call1 (ρ := Value) (fun r => .tuple #[r, vI 0]) (fun _ => True) (fun r => [own r 5 1 (hsize 0) ((hsum 0 s).map U8)]) cal32 rfl (fun w hM => ((Sum_ok 0 (by decide) _ s (by omega) w (hL.at hM) (lentRd (((rd_rd (i := 0) rfl) w hM).part8 (by first | omega | (simp [length_lentL] <;> omega)) (by first | omega | (simp [length_lentL] <;> omega)))))).mono fun e w' ⟨r, h1, h2⟩ => ⟨r, h1, trivial, h2⟩) (by decide) (fun r2 _ => ?_)
    refine st_v (rv_move rfl) (by decide) ?_
    refine st_v (rv_extract rfl rfl) (by decide) ?_
    refine st_v (rv_extract rfl rfl) (by decide) ?_
    refine st_v (rv_assign rfl) (by decide) ?_
    refine st_v (rv_assign rfl) (by decide) ?_
    refine st_nil ?_
    refine st_then ?_
    refine st_seq ?_
    refine st_region ?_
    refine st_v (rv_move rfl) (by decide) ?_
    refine st_v (rv_move rfl) (by decide) ?_
    refine st_call0 cal14 rfl (fun w hM => (still_calls _ s (by omega) w ((rd_rd (i := 1) rfl) w hM))) (by decide) ?_
    refine st_v (rv_assign rfl) (by decide) ?_
    refine st_nil ?_
    refine st_then ?_
    refine st_seq ?_
    refine st_region ?_
    refine st_v (rv_move rfl) (by decide) ?_
    refine st_call0 cal34 rfl (fun w hM => (Size_ok 0 (by decide) w (hL.at hM))) (by decide) ?_
    refine st_v (rv_assign rfl) (by decide) ?_
    refine st_nil ?_
    refine st_then ?_
    refine st_seq ?_
    refine st_region ?_
    refine st_v (rv_move rfl) (by decide) ?_
    refine st_call0 cal35 rfl (fun w hM => (BlockSize_ok 0 (by decide) w (hL.at hM))) (by decide) ?_
    refine st_v (rv_assign rfl) (by decide) ?_
    refine st_nil ?_
    refine st_then ?_
    refine st_seq ?_
    refine st_region ?_
    refine st_v (rv_move rfl) (by decide) ?_
    refine st_call0 cal36 rfl (fun w hM => (rSize_ok 0 (by decide) w)) (by decide) ?_
    refine st_v (rv_assign rfl) (by decide) ?_
    refine st_nil ?_
    refine st_then ?_
    refine st_seq ?_
    refine st_region ?_
    refine st_v (rv_move rfl) (by decide) ?_
    refine st_call0 cal37 rfl (fun w hM => (rBlockSize_ok 0 (by decide) w)) (by decide) ?_
    refine st_v (rv_assign rfl) (by decide) ?_
    refine st_nil ?_
    refine st_then ?_
    refine st_seq ?_
    refine st_seq ?_
    refine st_region ?_
    refine st_v (rv_move rfl) (by decide) ?_
    refine st_v (rv_move rfl) (by decide) ?_
    refine st_v (rv_neqZ rfl rfl) (by decide) ?_
    refine st_v (rv_move rfl) (by decide) ?_
    refine' st_or 4 (L := _) (s := 45) (d := 49) [1, 5, 7, 8, 9] rfl (fun hg4 => ?_) (fun _ => ?_) ?_; rotate_left
    · -- true
      refine st_gskip rfl rfl rfl (by decide) ?_
      refine st_gskip rfl rfl rfl (by decide) ?_
      refine st_gskip rfl rfl rfl (by decide) ?_
      first | refine st_v (rv_pick_true rfl rfl) (by decide) ?_ | refine st_v (rv_pick_false rfl rfl) (by decide) ?_ | refine st_v (rv_pick rfl rfl rfl) (by decide) ?_
      refine st_nil ?_
      exact st_meet_b (SubE.cons rfl (SubE.cons rfl (SubE.cons rfl (SubE.cons rfl (SubE.cons rfl (SubE.cons rfl (SubE.nil _)))))))
    · -- false
      refine st_gon rfl rfl ?_
      refine st_v (rv_move rfl) (by decide) ?_
      refine st_gon rfl rfl ?_
      refine st_v (rv_move rfl) (by decide) ?_
      refine st_gon rfl rfl ?_
      refine st_v (rv_neqZ rfl rfl) (by decide) ?_
      first | refine st_v (rv_pick_true rfl rfl) (by decide) ?_ | refine st_v (rv_pick_false rfl rfl) (by decide) ?_ | refine st_v (rv_pick rfl rfl rfl) (by decide) ?_
      refine st_nil ?_
      exact st_meet_b (SubE.cons rfl (SubE.cons rfl (SubE.cons rfl (SubE.cons rfl (SubE.cons rfl (SubE.cons rfl (SubE.nil _)))))))
    refine st_v (rv_move rfl) (by decide) ?_
    refine' st_or 3 (L := _) (s := 50) (d := 53) [1, 5, 7, 8] rfl (fun hg9 => ?_) (fun _ => ?_) ?_; rotate_left
    · -- true
      refine st_gskip rfl rfl rfl (by decide) ?_
      refine st_gskip rfl rfl rfl (by decide) ?_
      first | refine st_v (rv_pick_true rfl rfl) (by decide) ?_ | refine st_v (rv_pick_false rfl rfl) (by decide) ?_ | refine st_v (rv_pick rfl rfl rfl) (by decide) ?_
      refine st_nil ?_
      exact st_meet_b (SubE.cons rfl (SubE.cons rfl (SubE.cons rfl (SubE.cons rfl (SubE.cons rfl (SubE.nil _))))))
    · -- false
      refine st_gon rfl rfl ?_
      refine st_v (rv_move rfl) (by decide) ?_
      refine st_gon rfl rfl ?_
      refine st_v (rv_not rfl) (by decide) ?_
      first | refine st_v (rv_pick_true rfl rfl) (by decide) ?_ | refine st_v (rv_pick_false rfl rfl) (by decide) ?_ | refine st_v (rv_pick rfl rfl rfl) (by decide) ?_
      refine st_nil ?_
      exact st_meet_b (SubE.cons rfl (SubE.cons rfl (SubE.cons rfl (SubE.cons rfl (SubE.cons rfl (SubE.nil _))))))
    refine st_nil ?_
    refine st_then ?_
    refine st_false rfl ?_
    refine st_skip ?_
    refine st_then ?_
    refine st_seq ?_
    refine st_region ?_
    refine st_v (rv_move rfl) (by decide) ?_
    refine st_call0 cal28 rfl (fun w hM => (rKnown_ok (k := 0) (by decide) w)) (by decide) ?_
    refine st_v (rv_assign rfl) (by decide) ?_
    refine st_nil ?_
    refine st_then ?_
    refine st_seq ?_
    refine st_seq ?_
    refine st_region ?_
    refine st_v (rv_move rfl) (by decide) ?_
    refine st_v (rv_not rfl) (by decide) ?_
    refine st_nil ?_
    refine st_then ?_
    refine st_false rfl ?_
    refine st_skip ?_
    refine st_then ?_
    refine st_seq ?_
    refine st_region ?_
    refine st_v (rv_move rfl) (by decide) ?_
    refine st_v (rv_move rfl) (by decide) ?_
    refine st_call0 cal33 rfl (fun w hM => (rSum0_calls s (by omega) w)) (by decide) ?_
    refine st_v (rv_assign rfl) (by decide) ?_
    refine st_nil ?_
    refine st_then ?_
    refine st_seq ?_
    refine st_region ?_
    refine st_v (rv_move rfl) (by decide) ?_
    refine st_v (rv_string (rd_own (i := 0) rfl) Tryd.underlying22 Tryd.underlying9 Tryd.underlying5 rfl) (by decide) ?_
    refine st_v (rv_move rfl) (by decide) ?_
    refine st_v (rv_eqlB rfl rfl) (by decide) ?_
    refine st_v (rv_move rfl) (by decide) ?_
    refine' st_and 3 (L := _) (s := 72) (d := 75) [] rfl (fun hg5 => ?_) (fun _ => ?_) ?_; rotate_left
    · -- true
      try simp only [decide_eq_true_eq, decide_eq_false_iff_not, Bool.and_eq_true, Bool.not_eq_true] at hg5
      refine st_gon rfl rfl ?_
      refine st_v (rv_move rfl) (by decide) ?_
      refine st_gon rfl rfl ?_
      refine st_v (rv_eqlZ rfl rfl) (by decide) ?_
      first | refine st_v (rv_pick_true rfl rfl) (by decide) ?_ | refine st_v (rv_pick_false rfl rfl) (by decide) ?_ | refine st_v (rv_pick rfl rfl rfl) (by decide) ?_
      refine st_nil ?_
      exact st_meet_b (SubE.cons rfl (SubE.nil _))
    · -- false
      refine st_gskip rfl rfl rfl (by decide) ?_
      refine st_gskip rfl rfl rfl (by decide) ?_
      first | refine st_v (rv_pick_true rfl rfl) (by decide) ?_ | refine st_v (rv_pick_false rfl rfl) (by decide) ?_ | refine st_v (rv_pick rfl rfl rfl) (by decide) ?_
      refine st_nil ?_
      exact st_meet_b (SubE.cons rfl (SubE.nil _))
    refine st_v (rv_assign rfl) (by decide) ?_
    refine st_nil ?_
    refine st_then ?_
    refine st_ret ?_
    exact st_done rfl rfl (fun w hM => ⟨by first | (simp; done) | rfl, hM.sublist (List.nil_sublist _)⟩)
set_option maxRecDepth 20000 in
theorem hashSums1 (s : List (BitVec 8)) (w : World) (hL : LaidH w) : Calls Tryd.prog 7 #[vI (1 : Nat), vS s] w (fun e w' => e = .returned (.bool true) ∧ Mem (All w) w w' []) := by
  refine calls_of_st (n := 76) (args := [vI (1 : Nat), vS s]) Tryd.func7 rfl Tryd.ntmps7 (Nat.le_of_ble_eq_true rfl) (Mem.all w) ?_
  refine st_seq ?_
  refine st_region ?_
  refine st_v (rv_assign rfl) (by decide) ?_
  refine st_nil ?_
  refine st_then ?_
  refine st_seq ?_
  refine st_seq ?_
  refine st_region ?_
  refine st_v (rv_move rfl) (by decide) ?_
  refine st_v (rv_lenB Tryd.underlying9 rfl) (by decide) ?_
  refine st_v (rv_gtrZ rfl rfl) (by decide) ?_
  refine st_nil ?_
  refine st_then ?_
  refine st_cond rfl (fun hc18 => ?_) (fun hc18 => ?_)
  · -- t18 True
    try simp only [decide_eq_true_eq, decide_eq_false_iff_not, Bool.and_eq_true, Bool.or_eq_true, Bool.and_eq_false_iff, Bool.or_eq_false_iff, Bool.not_eq_true, Bool.not_eq_eq_eq_not, Bool.not_true, Bool.not_false, Int.not_lt, Int.not_le, ne_eq, Decidable.not_not] at hc18
    refine st_seq ?_
    refine st_region ?_
    refine st_v (rv_assign rfl) (by decide) ?_
    refine st_nil ?_
    refine st_then ?_
    refine st_ret ?_
    refine st_then_ret ?_
    exact st_done rfl rfl (fun w hM => ⟨by first | (simp; done) | rfl, hM.sublist (List.nil_sublist _)⟩)
  · -- t18 False
    try simp only [decide_eq_true_eq, decide_eq_false_iff_not, Bool.and_eq_true, Bool.or_eq_true, Bool.and_eq_false_iff, Bool.or_eq_false_iff, Bool.not_eq_true, Bool.not_eq_eq_eq_not, Bool.not_true, Bool.not_false, Int.not_lt, Int.not_le, ne_eq, Decidable.not_not] at hc18
    refine st_skip ?_
    refine st_then ?_
    refine st_seq ?_
    refine st_region ?_
    refine st_v (rv_move rfl) (by decide) ?_
    refine st_v (rv_assign rfl) (by decide) ?_
    refine st_nil ?_
    refine st_then ?_
    refine st_seq ?_
    refine st_region ?_
    refine st_v (rv_move rfl) (by decide) ?_
    refine st_callV cal12 rfl (fun w hM => lent_calls _ (by omega) w) (by decide) (fun v1 => ?_)
    refine st_v (rv_assign rfl) (by decide) ?_
    refine st_nil ?_
    refine st_then ?_
    refine st_seq ?_
    refine st_region ?_
    refine st_v (rv_move rfl) (by decide) ?_
    refine st_v (rv_move rfl) (by decide) ?_
    refine st_v (rv_move rfl) (by decide) ?_
    refine st_v (rv_lenB Tryd.underlying9 rfl) (by decide) ?_
    refine st_v (rv_sliceR (rd_rd (i := 0) rfl) Tryd.underlying22 sz5 rfl evB_none (evB_some rfl rfl) (by first | omega | (simp [length_lentL] <;> omega)) (by first | omega | (simp [length_lentL] <;> omega))) (by decide) ?_
    refine st_call1 (ρ := Value) (fun r => .tuple #[r, vI 0]) (fun _ => True) (fun r => [own r 5 1 (hsize 1) ((hsum 1 s).map U8)]) cal32 rfl (fun w hM => ((Sum_ok 1 (by decide) _ s (by omega) w (hL.at hM) (lentRd (((rd_rd (i := 0) rfl) w hM).part8 (by first | omega | (simp [length_lentL] <;> omega)) (by first | omega | (simp [length_lentL] <;> omega)))))).mono fun e w' ⟨r, h1, h2⟩ => ⟨r, h1, trivial, h2⟩) (by decide) (fun r2 _ => ?_)
    refine st_v (rv_move rfl) (by decide) ?_
    refine st_v (rv_extract rfl rfl) (by decide) ?_
    refine st_v (rv_extract rfl rfl) (by decide) ?_
    refine st_v (rv_assign rfl) (by decide) ?_
    refine st_v (rv_assign rfl) (by decide) ?_
    refine st_nil ?_
    refine st_then ?_
    refine st_seq ?_
    refine st_region ?_
    refine st_v (rv_move rfl) (by decide) ?_
    refine st_v (rv_move rfl) (by decide) ?_
    refine st_call0 cal14 rfl (fun w hM => (still_calls _ s (by omega) w ((rd_rd (i := 1) rfl) w hM))) (by decide) ?_
    refine st_v (rv_assign rfl) (by decide) ?_
    refine st_nil ?_
    refine st_then ?_
    refine st_seq ?_
    refine st_region ?_
    refine st_v (rv_move rfl) (by decide) ?_
    refine st_call0 cal34 rfl (fun w hM => (Size_ok 1 (by decide) w (hL.at hM))) (by decide) ?_
    refine st_v (rv_assign rfl) (by decide) ?_
    refine st_nil ?_
    refine st_then ?_
    refine st_seq ?_
    refine st_region ?_
    refine st_v (rv_move rfl) (by decide) ?_
    refine st_call0 cal35 rfl (fun w hM => (BlockSize_ok 1 (by decide) w (hL.at hM))) (by decide) ?_
    refine st_v (rv_assign rfl) (by decide) ?_
    refine st_nil ?_
    refine st_then ?_
    refine st_seq ?_
    refine st_region ?_
    refine st_v (rv_move rfl) (by decide) ?_
    refine st_call0 cal36 rfl (fun w hM => (rSize_ok 1 (by decide) w)) (by decide) ?_
    refine st_v (rv_assign rfl) (by decide) ?_
    refine st_nil ?_
    refine st_then ?_
    refine st_seq ?_
    refine st_region ?_
    refine st_v (rv_move rfl) (by decide) ?_
    refine st_call0 cal37 rfl (fun w hM => (rBlockSize_ok 1 (by decide) w)) (by decide) ?_
    refine st_v (rv_assign rfl) (by decide) ?_
    refine st_nil ?_
    refine st_then ?_
    refine st_seq ?_
    refine st_seq ?_
    refine st_region ?_
    refine st_v (rv_move rfl) (by decide) ?_
    refine st_v (rv_move rfl) (by decide) ?_
    refine st_v (rv_neqZ rfl rfl) (by decide) ?_
    refine st_v (rv_move rfl) (by decide) ?_
    refine' st_or 4 (L := _) (s := 45) (d := 49) [1, 5, 7, 8, 9] rfl (fun hg4 => ?_) (fun _ => ?_) ?_; rotate_left
    · -- true
      refine st_gskip rfl rfl rfl (by decide) ?_
      refine st_gskip rfl rfl rfl (by decide) ?_
      refine st_gskip rfl rfl rfl (by decide) ?_
      first | refine st_v (rv_pick_true rfl rfl) (by decide) ?_ | refine st_v (rv_pick_false rfl rfl) (by decide) ?_ | refine st_v (rv_pick rfl rfl rfl) (by decide) ?_
      refine st_nil ?_
      exact st_meet_b (SubE.cons rfl (SubE.cons rfl (SubE.cons rfl (SubE.cons rfl (SubE.cons rfl (SubE.cons rfl (SubE.nil _)))))))
    · -- false
      refine st_gon rfl rfl ?_
      refine st_v (rv_move rfl) (by decide) ?_
      refine st_gon rfl rfl ?_
      refine st_v (rv_move rfl) (by decide) ?_
      refine st_gon rfl rfl ?_
      refine st_v (rv_neqZ rfl rfl) (by decide) ?_
      first | refine st_v (rv_pick_true rfl rfl) (by decide) ?_ | refine st_v (rv_pick_false rfl rfl) (by decide) ?_ | refine st_v (rv_pick rfl rfl rfl) (by decide) ?_
      refine st_nil ?_
      exact st_meet_b (SubE.cons rfl (SubE.cons rfl (SubE.cons rfl (SubE.cons rfl (SubE.cons rfl (SubE.cons rfl (SubE.nil _)))))))
    refine st_v (rv_move rfl) (by decide) ?_
    refine' st_or 3 (L := _) (s := 50) (d := 53) [1, 5, 7, 8] rfl (fun hg9 => ?_) (fun _ => ?_) ?_; rotate_left
    · -- true
      refine st_gskip rfl rfl rfl (by decide) ?_
      refine st_gskip rfl rfl rfl (by decide) ?_
      first | refine st_v (rv_pick_true rfl rfl) (by decide) ?_ | refine st_v (rv_pick_false rfl rfl) (by decide) ?_ | refine st_v (rv_pick rfl rfl rfl) (by decide) ?_
      refine st_nil ?_
      exact st_meet_b (SubE.cons rfl (SubE.cons rfl (SubE.cons rfl (SubE.cons rfl (SubE.cons rfl (SubE.nil _))))))
    · -- false
      refine st_gon rfl rfl ?_
      refine st_v (rv_move rfl) (by decide) ?_
      refine st_gon rfl rfl ?_
      refine st_v (rv_not rfl) (by decide) ?_
      first | refine st_v (rv_pick_true rfl rfl) (by decide) ?_ | refine st_v (rv_pick_false rfl rfl) (by decide) ?_ | refine st_v (rv_pick rfl rfl rfl) (by decide) ?_
      refine st_nil ?_
      exact st_meet_b (SubE.cons rfl (SubE.cons rfl (SubE.cons rfl (SubE.cons rfl (SubE.cons rfl (SubE.nil _))))))
    refine st_nil ?_
    refine st_then ?_
    refine st_false rfl ?_
    refine st_skip ?_
    refine st_then ?_
    refine st_seq ?_
    refine st_region ?_
    refine st_v (rv_move rfl) (by decide) ?_
    refine st_call0 cal28 rfl (fun w hM => (rKnown_ok (k := 1) (by decide) w)) (by decide) ?_
    refine st_v (rv_assign rfl) (by decide) ?_
    refine st_nil ?_
    refine st_then ?_
    refine st_seq ?_
    refine st_seq ?_
    refine st_region ?_
    refine st_v (rv_move rfl) (by decide) ?_
    refine st_v (rv_not rfl) (by decide) ?_
    refine st_nil ?_
    refine st_then ?_
    refine st_false rfl ?_
    refine st_skip ?_
    refine st_then ?_
    refine st_seq ?_
    refine st_region ?_
    refine st_v (rv_move rfl) (by decide) ?_
    refine st_v (rv_move rfl) (by decide) ?_
    refine st_call0 cal33 rfl (fun w hM => (rSum1_calls s (by omega) w)) (by decide) ?_
    refine st_v (rv_assign rfl) (by decide) ?_
    refine st_nil ?_
    refine st_then ?_
    refine st_seq ?_
    refine st_region ?_
    refine st_v (rv_move rfl) (by decide) ?_
    refine st_v (rv_string (rd_own (i := 0) rfl) Tryd.underlying22 Tryd.underlying9 Tryd.underlying5 rfl) (by decide) ?_
    refine st_v (rv_move rfl) (by decide) ?_
    refine st_v (rv_eqlB rfl rfl) (by decide) ?_
    refine st_v (rv_move rfl) (by decide) ?_
    refine' st_and 3 (L := _) (s := 72) (d := 75) [] rfl (fun hg5 => ?_) (fun _ => ?_) ?_; rotate_left
    · -- true
      try simp only [decide_eq_true_eq, decide_eq_false_iff_not, Bool.and_eq_true, Bool.not_eq_true] at hg5
      refine st_gon rfl rfl ?_
      refine st_v (rv_move rfl) (by decide) ?_
      refine st_gon rfl rfl ?_
      refine st_v (rv_eqlZ rfl rfl) (by decide) ?_
      first | refine st_v (rv_pick_true rfl rfl) (by decide) ?_ | refine st_v (rv_pick_false rfl rfl) (by decide) ?_ | refine st_v (rv_pick rfl rfl rfl) (by decide) ?_
      refine st_nil ?_
      exact st_meet_b (SubE.cons rfl (SubE.nil _))
    · -- false
      refine st_gskip rfl rfl rfl (by decide) ?_
      refine st_gskip rfl rfl rfl (by decide) ?_
      first | refine st_v (rv_pick_true rfl rfl) (by decide) ?_ | refine st_v (rv_pick_false rfl rfl) (by decide) ?_ | refine st_v (rv_pick rfl rfl rfl) (by decide) ?_
      refine st_nil ?_
      exact st_meet_b (SubE.cons rfl (SubE.nil _))
    refine st_v (rv_assign rfl) (by decide) ?_
    refine st_nil ?_
    refine st_then ?_
    refine st_ret ?_
    exact st_done rfl rfl (fun w hM => ⟨by first | (simp; done) | rfl, hM.sublist (List.nil_sublist _)⟩)
set_option maxRecDepth 20000 in
theorem hashSums2 (s : List (BitVec 8)) (w : World) (hL : LaidH w) : Calls Tryd.prog 7 #[vI (2 : Nat), vS s] w (fun e w' => e = .returned (.bool true) ∧ Mem (All w) w w' []) := by
  refine calls_of_st (n := 76) (args := [vI (2 : Nat), vS s]) Tryd.func7 rfl Tryd.ntmps7 (Nat.le_of_ble_eq_true rfl) (Mem.all w) ?_
  refine st_seq ?_
  refine st_region ?_
  refine st_v (rv_assign rfl) (by decide) ?_
  refine st_nil ?_
  refine st_then ?_
  refine st_seq ?_
  refine st_seq ?_
  refine st_region ?_
  refine st_v (rv_move rfl) (by decide) ?_
  refine st_v (rv_lenB Tryd.underlying9 rfl) (by decide) ?_
  refine st_v (rv_gtrZ rfl rfl) (by decide) ?_
  refine st_nil ?_
  refine st_then ?_
  refine st_cond rfl (fun hc18 => ?_) (fun hc18 => ?_)
  · -- t18 True
    try simp only [decide_eq_true_eq, decide_eq_false_iff_not, Bool.and_eq_true, Bool.or_eq_true, Bool.and_eq_false_iff, Bool.or_eq_false_iff, Bool.not_eq_true, Bool.not_eq_eq_eq_not, Bool.not_true, Bool.not_false, Int.not_lt, Int.not_le, ne_eq, Decidable.not_not] at hc18
    refine st_seq ?_
    refine st_region ?_
    refine st_v (rv_assign rfl) (by decide) ?_
    refine st_nil ?_
    refine st_then ?_
    refine st_ret ?_
    refine st_then_ret ?_
    exact st_done rfl rfl (fun w hM => ⟨by first | (simp; done) | rfl, hM.sublist (List.nil_sublist _)⟩)
  · -- t18 False
    try simp only [decide_eq_true_eq, decide_eq_false_iff_not, Bool.and_eq_true, Bool.or_eq_true, Bool.and_eq_false_iff, Bool.or_eq_false_iff, Bool.not_eq_true, Bool.not_eq_eq_eq_not, Bool.not_true, Bool.not_false, Int.not_lt, Int.not_le, ne_eq, Decidable.not_not] at hc18
    refine st_skip ?_
    refine st_then ?_
    refine st_seq ?_
    refine st_region ?_
    refine st_v (rv_move rfl) (by decide) ?_
    refine st_v (rv_assign rfl) (by decide) ?_
    refine st_nil ?_
    refine st_then ?_
    refine st_seq ?_
    refine st_region ?_
    refine st_v (rv_move rfl) (by decide) ?_
    refine st_callV cal12 rfl (fun w hM => lent_calls _ (by omega) w) (by decide) (fun v1 => ?_)
    refine st_v (rv_assign rfl) (by decide) ?_
    refine st_nil ?_
    refine st_then ?_
    refine st_seq ?_
    refine st_region ?_
    refine st_v (rv_move rfl) (by decide) ?_
    refine st_v (rv_move rfl) (by decide) ?_
    refine st_v (rv_move rfl) (by decide) ?_
    refine st_v (rv_lenB Tryd.underlying9 rfl) (by decide) ?_
    refine st_v (rv_sliceR (rd_rd (i := 0) rfl) Tryd.underlying22 sz5 rfl evB_none (evB_some rfl rfl) (by first | omega | (simp [length_lentL] <;> omega)) (by first | omega | (simp [length_lentL] <;> omega))) (by decide) ?_
    refine st_call1 (ρ := Value) (fun r => .tuple #[r, vI 0]) (fun _ => True) (fun r => [own r 5 1 (hsize 2) ((hsum 2 s).map U8)]) cal32 rfl (fun w hM => ((Sum_ok 2 (by decide) _ s (by omega) w (hL.at hM) (lentRd (((rd_rd (i := 0) rfl) w hM).part8 (by first | omega | (simp [length_lentL] <;> omega)) (by first | omega | (simp [length_lentL] <;> omega)))))).mono fun e w' ⟨r, h1, h2⟩ => ⟨r, h1, trivial, h2⟩) (by decide) (fun r2 _ => ?_)
    refine st_v (rv_move rfl) (by decide) ?_
    refine st_v (rv_extract rfl rfl) (by decide) ?_
    refine st_v (rv_extract rfl rfl) (by decide) ?_
    refine st_v (rv_assign rfl) (by decide) ?_
    refine st_v (rv_assign rfl) (by decide) ?_
    refine st_nil ?_
    refine st_then ?_
    refine st_seq ?_
    refine st_region ?_
    refine st_v (rv_move rfl) (by decide) ?_
    refine st_v (rv_move rfl) (by decide) ?_
    refine st_call0 cal14 rfl (fun w hM => (still_calls _ s (by omega) w ((rd_rd (i := 1) rfl) w hM))) (by decide) ?_
    refine st_v (rv_assign rfl) (by decide) ?_
    refine st_nil ?_
    refine st_then ?_
    refine st_seq ?_
    refine st_region ?_
    refine st_v (rv_move rfl) (by decide) ?_
    refine st_call0 cal34 rfl (fun w hM => (Size_ok 2 (by decide) w (hL.at hM))) (by decide) ?_
    refine st_v (rv_assign rfl) (by decide) ?_
    refine st_nil ?_
    refine st_then ?_
    refine st_seq ?_
    refine st_region ?_
    refine st_v (rv_move rfl) (by decide) ?_
    refine st_call0 cal35 rfl (fun w hM => (BlockSize_ok 2 (by decide) w (hL.at hM))) (by decide) ?_
    refine st_v (rv_assign rfl) (by decide) ?_
    refine st_nil ?_
    refine st_then ?_
    refine st_seq ?_
    refine st_region ?_
    refine st_v (rv_move rfl) (by decide) ?_
    refine st_call0 cal36 rfl (fun w hM => (rSize_ok 2 (by decide) w)) (by decide) ?_
    refine st_v (rv_assign rfl) (by decide) ?_
    refine st_nil ?_
    refine st_then ?_
    refine st_seq ?_
    refine st_region ?_
    refine st_v (rv_move rfl) (by decide) ?_
    refine st_call0 cal37 rfl (fun w hM => (rBlockSize_ok 2 (by decide) w)) (by decide) ?_
    refine st_v (rv_assign rfl) (by decide) ?_
    refine st_nil ?_
    refine st_then ?_
    refine st_seq ?_
    refine st_seq ?_
    refine st_region ?_
    refine st_v (rv_move rfl) (by decide) ?_
    refine st_v (rv_move rfl) (by decide) ?_
    refine st_v (rv_neqZ rfl rfl) (by decide) ?_
    refine st_v (rv_move rfl) (by decide) ?_
    refine' st_or 4 (L := _) (s := 45) (d := 49) [1, 5, 7, 8, 9] rfl (fun hg4 => ?_) (fun _ => ?_) ?_; rotate_left
    · -- true
      refine st_gskip rfl rfl rfl (by decide) ?_
      refine st_gskip rfl rfl rfl (by decide) ?_
      refine st_gskip rfl rfl rfl (by decide) ?_
      first | refine st_v (rv_pick_true rfl rfl) (by decide) ?_ | refine st_v (rv_pick_false rfl rfl) (by decide) ?_ | refine st_v (rv_pick rfl rfl rfl) (by decide) ?_
      refine st_nil ?_
      exact st_meet_b (SubE.cons rfl (SubE.cons rfl (SubE.cons rfl (SubE.cons rfl (SubE.cons rfl (SubE.cons rfl (SubE.nil _)))))))
    · -- false
      refine st_gon rfl rfl ?_
      refine st_v (rv_move rfl) (by decide) ?_
      refine st_gon rfl rfl ?_
      refine st_v (rv_move rfl) (by decide) ?_
      refine st_gon rfl rfl ?_
      refine st_v (rv_neqZ rfl rfl) (by decide) ?_
      first | refine st_v (rv_pick_true rfl rfl) (by decide) ?_ | refine st_v (rv_pick_false rfl rfl) (by decide) ?_ | refine st_v (rv_pick rfl rfl rfl) (by decide) ?_
      refine st_nil ?_
      exact st_meet_b (SubE.cons rfl (SubE.cons rfl (SubE.cons rfl (SubE.cons rfl (SubE.cons rfl (SubE.cons rfl (SubE.nil _)))))))
    refine st_v (rv_move rfl) (by decide) ?_
    refine' st_or 3 (L := _) (s := 50) (d := 53) [1, 5, 7, 8] rfl (fun hg9 => ?_) (fun _ => ?_) ?_; rotate_left
    · -- true
      refine st_gskip rfl rfl rfl (by decide) ?_
      refine st_gskip rfl rfl rfl (by decide) ?_
      first | refine st_v (rv_pick_true rfl rfl) (by decide) ?_ | refine st_v (rv_pick_false rfl rfl) (by decide) ?_ | refine st_v (rv_pick rfl rfl rfl) (by decide) ?_
      refine st_nil ?_
      exact st_meet_b (SubE.cons rfl (SubE.cons rfl (SubE.cons rfl (SubE.cons rfl (SubE.cons rfl (SubE.nil _))))))
    · -- false
      refine st_gon rfl rfl ?_
      refine st_v (rv_move rfl) (by decide) ?_
      refine st_gon rfl rfl ?_
      refine st_v (rv_not rfl) (by decide) ?_
      first | refine st_v (rv_pick_true rfl rfl) (by decide) ?_ | refine st_v (rv_pick_false rfl rfl) (by decide) ?_ | refine st_v (rv_pick rfl rfl rfl) (by decide) ?_
      refine st_nil ?_
      exact st_meet_b (SubE.cons rfl (SubE.cons rfl (SubE.cons rfl (SubE.cons rfl (SubE.cons rfl (SubE.nil _))))))
    refine st_nil ?_
    refine st_then ?_
    refine st_false rfl ?_
    refine st_skip ?_
    refine st_then ?_
    refine st_seq ?_
    refine st_region ?_
    refine st_v (rv_move rfl) (by decide) ?_
    refine st_call0 cal28 rfl (fun w hM => (rKnown_ok (k := 2) (by decide) w)) (by decide) ?_
    refine st_v (rv_assign rfl) (by decide) ?_
    refine st_nil ?_
    refine st_then ?_
    refine st_seq ?_
    refine st_seq ?_
    refine st_region ?_
    refine st_v (rv_move rfl) (by decide) ?_
    refine st_v (rv_not rfl) (by decide) ?_
    refine st_nil ?_
    refine st_then ?_
    refine st_false rfl ?_
    refine st_skip ?_
    refine st_then ?_
    refine st_seq ?_
    refine st_region ?_
    refine st_v (rv_move rfl) (by decide) ?_
    refine st_v (rv_move rfl) (by decide) ?_
    refine st_call0 cal33 rfl (fun w hM => (rSum2_calls s (by omega) w)) (by decide) ?_
    refine st_v (rv_assign rfl) (by decide) ?_
    refine st_nil ?_
    refine st_then ?_
    refine st_seq ?_
    refine st_region ?_
    refine st_v (rv_move rfl) (by decide) ?_
    refine st_v (rv_string (rd_own (i := 0) rfl) Tryd.underlying22 Tryd.underlying9 Tryd.underlying5 rfl) (by decide) ?_
    refine st_v (rv_move rfl) (by decide) ?_
    refine st_v (rv_eqlB rfl rfl) (by decide) ?_
    refine st_v (rv_move rfl) (by decide) ?_
    refine' st_and 3 (L := _) (s := 72) (d := 75) [] rfl (fun hg5 => ?_) (fun _ => ?_) ?_; rotate_left
    · -- true
      try simp only [decide_eq_true_eq, decide_eq_false_iff_not, Bool.and_eq_true, Bool.not_eq_true] at hg5
      refine st_gon rfl rfl ?_
      refine st_v (rv_move rfl) (by decide) ?_
      refine st_gon rfl rfl ?_
      refine st_v (rv_eqlZ rfl rfl) (by decide) ?_
      first | refine st_v (rv_pick_true rfl rfl) (by decide) ?_ | refine st_v (rv_pick_false rfl rfl) (by decide) ?_ | refine st_v (rv_pick rfl rfl rfl) (by decide) ?_
      refine st_nil ?_
      exact st_meet_b (SubE.cons rfl (SubE.nil _))
    · -- false
      refine st_gskip rfl rfl rfl (by decide) ?_
      refine st_gskip rfl rfl rfl (by decide) ?_
      first | refine st_v (rv_pick_true rfl rfl) (by decide) ?_ | refine st_v (rv_pick_false rfl rfl) (by decide) ?_ | refine st_v (rv_pick rfl rfl rfl) (by decide) ?_
      refine st_nil ?_
      exact st_meet_b (SubE.cons rfl (SubE.nil _))
    refine st_v (rv_assign rfl) (by decide) ?_
    refine st_nil ?_
    refine st_then ?_
    refine st_ret ?_
    exact st_done rfl rfl (fun w hM => ⟨by first | (simp; done) | rfl, hM.sublist (List.nil_sublist _)⟩)
theorem hashSums_walk (z : Int) (s : List (BitVec 8)) (w : World) (hL : LaidH w) : Calls Tryd.prog 7 #[vI z, vS s] w (fun e w' => e = .returned (.bool true) ∧ Mem (All w) w w' []) := by
  cases h : knownZ z with
  | false => exact hashSums_bad z h s w hL
  | true =>
    obtain ⟨k, hk, rfl⟩ := knownZ_true h
    match k, hk with
    | 0, _ => exact hashSums0 s w hL
    | 1, _ => exact hashSums1 s w hL
    | 2, _ => exact hashSums2 s w hL
end Go.Proofs.YtjhjjhpfjadjpaaDoor
