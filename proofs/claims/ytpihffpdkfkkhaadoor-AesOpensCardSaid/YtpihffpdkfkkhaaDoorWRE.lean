/- Walks: what functions of the given program do, operation by operation. Written by wip/gen. -/
import Derived.Test.YtpihffpdkfkkhaaDoorWRD
namespace Go.Proofs.YtpihffpdkfkkhaaDoor
set_option linter.all false
open Go
set_option maxHeartbeats 600000 in
theorem renc_calls (c : Nat) (vk vb : Value) (vs : List Value) (ws : List (List (BitVec 8))) (bx s : List (BitVec 8)) (R : Nat) (hs : s.length = 16) (hvs : vs.length = ws.length) (hL : ∀ k, k < ws.length → (ws.getD k []).length = 4) (hR : ws.length = 4 * (R + 1)) (hR1 : 1 ≤ R) (hR2 : R ≤ 100) (hbx : bx.length = 256) (w : World) (hC : (cipA c 48 vk vb vs ws bx).holds w) : Calls Tryd.prog 11 #[pt c 0, vS s] w (fun r w' => r = .returned (vS (encQ s ws bx R R)) ∧ Mem (All w) w w' []) := by
  have hS : ∀ b, (cipA c 48 vk vb vs ws bx).foot b → All w b := fun b hb => ⟨(cipA c 48 vk vb vs ws bx).live w hC b hb, fun h => h⟩
  obtain ⟨fr, hrow⟩ := cip_row hC
  refine calls_of_st (n := 112) (args := [pt c 0, vS s]) Tryd.func11 rfl Tryd.ntmps11 (Nat.le_of_ble_eq_true rfl) (Mem.all w) ?_
  refine st_seq ?_
  refine st_region ?_
  refine st_v (rv_assign rfl) (by decide) ?_
  refine st_nil ?_
  refine st_then ?_
  refine st_seq ?_
  refine st_region ?_
  refine st_v (rv_move rfl) (by decide) ?_
  refine st_bytes Tryd.underlying9 Tryd.underlying22 Tryd.underlying5 rfl (by decide) (fun v1 => ?_)
  rw [hs]
  refine st_v (rv_assign rfl) (by decide) ?_
  refine st_nil ?_
  refine st_then ?_
  refine st_seq ?_
  refine st_region ?_
  refine st_v (rv_move rfl) (by decide) ?_
  refine st_v (rv_move rfl) (by decide) ?_
  refine st_callO cal21 rfl (i := 0) rfl (fun w hM => radd_calls _ _ _ _ _ _ _ _ 0 (by first | exact hs | simp [length_encQ, length_rndR, hs]) hvs hL (by omega) (by omega) w (cip_at hC hS hM) (cip_sep hC hS hM (i := 0) rfl) (hM.ownAt (i := 0) rfl)) (by decide) (l' := [_]) rfl ?_
  refine st_nil ?_
  refine st_then ?_
  refine st_seq ?_
  refine st_region ?_
  refine st_v (rv_move rfl) (by decide) ?_
  refine st_v (rv_nilCheck rfl) (by decide) ?_
  refine st_v (rv_fieldAddr Tryd.underlying48 (fs := _) rfl sz46 rfl rfl) (by decide) ?_
  refine st_v (rv_load_old tyS46 rfl hrow (hS c (.inl rfl)) rfl) (by decide) ?_
  refine st_v (rv_lenR (cip_keys hC hS) Tryd.underlying46 rfl) (by decide) ?_
  refine st_v (rv_quoN (b := 4) rfl rfl (by first | omega | (simp <;> omega))) (by decide) ?_
  refine st_v (rv_to (u := vI R) (rv_subN (b := 1) rfl rfl (by omega)) (by rw [show vs.length / 4 - 1 = R by omega])) (by decide) ?_
  refine st_v (rv_assign rfl) (by decide) ?_
  refine st_nil ?_
  refine st_then ?_
  refine st_seq ?_
  refine st_seq ?_
  refine st_region ?_
  refine st_v (rv_assign rfl) (by decide) ?_
  refine st_nil ?_
  refine st_then ?_
  refine st_block ?_
  refine st_loopA (σ := Nat × Value) [(0, kst _), (5, fun (r, u) => u), (6, kst _), (7, fun (r, u) => vI (r + 1 : Nat))] [fun (r, u) => own u 5 1 16 ((encQ s ws bx R r).map U8)] (fun (r, u) => r ≤ R) (fun (r, u) => R - r) (0, _) (by omega) (SubE.cons rfl (SubE.cons rfl (SubE.cons rfl (SubE.cons rfl (SubE.nil _))))) (fun _ hM => hM) ?_
  intro ⟨r, u⟩ hI
  try dsimp only at hI
  dsimp only [List.map, kst]
  refine st_seq ?_
  refine st_seq ?_
  refine st_region ?_
  refine st_v (rv_move rfl) (by decide) ?_
  refine st_v (rv_move rfl) (by decide) ?_
  refine st_v (rv_leqZ rfl rfl) (by decide) ?_
  refine st_nil ?_
  refine st_then ?_
  refine st_cond rfl (fun hc29 => ?_) (fun hc29 => ?_)
  · -- t29 True
    try simp only [decide_eq_true_eq, decide_eq_false_iff_not, Bool.and_eq_true, Bool.or_eq_true, Bool.and_eq_false_iff, Bool.or_eq_false_iff, Bool.not_eq_true, Bool.not_eq_eq_eq_not, Bool.not_true, Bool.not_false, Int.not_lt, Int.not_le, ne_eq, Decidable.not_not] at hc29
    refine st_skip ?_
    refine st_then ?_
    refine st_seq ?_
    refine st_block ?_
    refine st_seq ?_
    refine st_region ?_
    refine st_v (rv_move rfl) (by decide) ?_
    refine st_v (rv_move rfl) (by decide) ?_
    refine st_v (rv_nilCheck rfl) (by decide) ?_
    refine st_v (rv_fieldAddr Tryd.underlying48 (fs := _) rfl sz22 rfl rfl) (by decide) ?_
    refine st_v (rv_load_old tyS22 rfl hrow (hS c (.inl rfl)) rfl) (by decide) ?_
    refine st_callV cal19 rfl (fun w hM => each16_calls _ _ (encQ s ws bx R r) bx (by simp [length_encQ, hs]) hbx w ((rd_own (i := 0) rfl) w hM) ((cip_box8 hbx hC hS) w hM)) (by decide) (fun v2 => ?_)
    refine st_v (rv_assign rfl) (by decide) ?_
    refine st_nil ?_
    refine st_then ?_
    refine st_seq ?_
    refine st_region ?_
    refine st_makeO8 Tryd.underlying22 tyZ5 (len := 16) rfl rfl (by omega) (by omega) (by decide) (fun v3 => ?_)
    refine st_v (rv_assign rfl) (by decide) ?_
    refine st_nil ?_
    refine st_then ?_
    refine st_seq ?_
    refine st_seq ?_
    refine st_region ?_
    refine st_v (rv_assign rfl) (by decide) ?_
    refine st_nil ?_
    refine st_then ?_
    refine st_block ?_
    refine st_loopA (σ := Nat) [(0, kst _), (6, kst _), (7, kst _), (8, kst _), (9, kst _), (10, fun i => vI i)] [fun i => own v3 5 1 16 ((rowR (eachR (encQ s ws bx R r) bx 16) i).map U8), kst _, kst _] (fun i => i ≤ 16) (fun i => 16 - i) 0 (by omega) (SubE.cons rfl (SubE.cons rfl (SubE.cons rfl (SubE.cons rfl (SubE.cons rfl (SubE.cons rfl (SubE.nil _))))))) (fun _ hM => hM) ?_
    intro i hI
    try dsimp only at hI
    dsimp only [List.map, kst]
    refine st_seq ?_
    refine st_seq ?_
    refine st_region ?_
    refine st_v (rv_move rfl) (by decide) ?_
    refine st_v (rv_lssZ rfl rfl) (by decide) ?_
    refine st_nil ?_
    refine st_then ?_
    refine st_cond rfl (fun hc40 => ?_) (fun hc40 => ?_)
    · -- t40 True
      try simp only [decide_eq_true_eq, decide_eq_false_iff_not, Bool.and_eq_true, Bool.or_eq_true, Bool.and_eq_false_iff, Bool.or_eq_false_iff, Bool.not_eq_true, Bool.not_eq_eq_eq_not, Bool.not_true, Bool.not_false, Int.not_lt, Int.not_le, ne_eq, Decidable.not_not] at hc40
      refine st_skip ?_
      refine st_then ?_
      refine st_seq ?_
      refine st_block ?_
      refine st_region ?_
      refine st_v (rv_move rfl) (by decide) ?_
      refine st_v (rv_move rfl) (by decide) ?_
      refine st_v (rv_move rfl) (by decide) ?_
      refine st_v (rv_move rfl) (by decide) ?_
      refine st_v (rv_move rfl) (by decide) ?_
      refine st_v (rv_remN (b := 4) rfl rfl (by first | omega | (simp <;> omega))) (by decide) ?_
      first | refine st_v (rv_mulN (a := 4) rfl rfl (by first | omega | (simp <;> omega))) (by decide) ?_ | refine st_v (rv_mulZ rfl rfl (by first | omega | (simp <;> omega))) (by decide) ?_
      first | refine st_v (rv_addN rfl rfl (by first | omega | (simp <;> omega))) (by decide) ?_ | refine st_v (rv_addZ rfl rfl (by first | omega | (simp <;> omega))) (by decide) ?_
      refine st_v (rv_remN (b := 16) rfl rfl (by first | omega | (simp <;> omega))) (by decide) ?_
      refine st_v (rv_indexR1 (rd_rd (i := 1) rfl) Tryd.underlying22 sz5 rfl rfl rfl (by first | omega | (simp [length_encQ, length_rowR, length_mixR, length_eachR, hs] <;> omega))) (by decide) ?_
      refine st_v (rv_load_rd (rd_rd (i := 1) rfl) tyS5 rfl (get8 (by first | omega | (simp [length_encQ, length_rowR, length_mixR, length_eachR, hs] <;> omega)))) (by decide) ?_
      refine st_v (rv_indexR1 (rd_own (i := 0) rfl) Tryd.underlying22 sz5 rfl rfl rfl (by first | omega | (simp [length_encQ, length_rowR, length_mixR, length_eachR, hs] <;> omega))) (by decide) ?_
      refine st_storeOwn8 rfl rfl (i := 0) rfl sz5 (by first | omega | (simp [length_encQ, length_rowR, length_mixR, length_eachR, hs] <;> omega)) rfl ?_
      refine st_nil ?_
      refine st_in_normal ?_
      refine st_then ?_
      refine st_region ?_
      refine st_v (rv_move rfl) (by decide) ?_
      first | refine st_v (rv_addN (b := 1) rfl rfl (by first | omega | (simp <;> omega))) (by decide) ?_ | refine st_v (rv_addZ rfl rfl (by first | omega | (simp <;> omega))) (by decide) ?_
      refine st_v (rv_assign rfl) (by decide) ?_
      refine st_nil ?_
      refine st_then ?_
      exact st_again (i + 1) (by omega) (by omega) (SubE.cons rfl (SubE.cons rfl (SubE.cons rfl (SubE.cons rfl (SubE.cons rfl (SubE.cons rfl (SubE.nil _))))))) (fun _ hM => hM)
    · -- t40 False
      try simp only [decide_eq_true_eq, decide_eq_false_iff_not, Bool.and_eq_true, Bool.or_eq_true, Bool.and_eq_false_iff, Bool.or_eq_false_iff, Bool.not_eq_true, Bool.not_eq_eq_eq_not, Bool.not_true, Bool.not_false, Int.not_lt, Int.not_le, ne_eq, Decidable.not_not] at hc40
      obtain rfl : i = 16 := by omega
      refine st_exit ?_
      refine st_then_exit ?_
      refine st_then_exit ?_
      refine st_in_exit ?_
      refine st_then ?_
      refine st_cut (σ := Value) (fun x => [(0, pt c 0), (6, vI R), (7, vI (r + 1 : Nat)), (9, x)]) (fun x => [own x 5 1 16 ((rndR (encQ s ws bx R r) bx (decide (R ≤ r + 1))).map U8)]) (fun x => True) ?_ ?_
      · -- up to the cut
        refine st_seq ?_
        refine st_region ?_
        refine st_v (rv_move rfl) (by decide) ?_
        refine st_v (rv_move rfl) (by decide) ?_
        refine st_v (rv_lssZ rfl rfl) (by decide) ?_
        refine st_nil ?_
        refine st_then ?_
        refine st_cond rfl (fun hc57 => ?_) (fun hc57 => ?_)
        · -- t57 True
          try simp only [decide_eq_true_eq, decide_eq_false_iff_not, Bool.and_eq_true, Bool.or_eq_true, Bool.and_eq_false_iff, Bool.or_eq_false_iff, Bool.not_eq_true, Bool.not_eq_eq_eq_not, Bool.not_true, Bool.not_false, Int.not_lt, Int.not_le, ne_eq, Decidable.not_not] at hc57
          refine st_seq ?_
          refine st_region ?_
          refine st_makeO8 Tryd.underlying22 tyZ5 (len := 16) rfl rfl (by omega) (by omega) (by decide) (fun v4 => ?_)
          refine st_v (rv_assign rfl) (by decide) ?_
          refine st_nil ?_
          refine st_then ?_
          refine st_seq ?_
          refine st_seq ?_
          refine st_region ?_
          refine st_v (rv_assign rfl) (by decide) ?_
          refine st_nil ?_
          refine st_then ?_
          refine st_block ?_
          refine st_loopA (σ := Nat) [(0, kst _), (6, kst _), (7, kst _), (9, kst _), (11, kst _), (12, fun i => vI i)] [fun i => own v4 5 1 16 ((mixR (rowR (eachR (encQ s ws bx R r) bx 16) 16) i).map U8), kst _, kst _, kst _] (fun i => i ≤ 16) (fun i => 16 - i) 0 (by omega) (SubE.cons rfl (SubE.cons rfl (SubE.cons rfl (SubE.cons rfl (SubE.cons rfl (SubE.cons rfl (SubE.nil _))))))) (fun _ hM => hM) ?_
          intro i hI
          try dsimp only at hI
          dsimp only [List.map, kst]
          refine st_seq ?_
          refine st_seq ?_
          refine st_region ?_
          refine st_v (rv_move rfl) (by decide) ?_
          refine st_v (rv_lssZ rfl rfl) (by decide) ?_
          refine st_nil ?_
          refine st_then ?_
          refine st_cond rfl (fun hc60 => ?_) (fun hc60 => ?_)
          · -- t60 True
            try simp only [decide_eq_true_eq, decide_eq_false_iff_not, Bool.and_eq_true, Bool.or_eq_true, Bool.and_eq_false_iff, Bool.or_eq_false_iff, Bool.not_eq_true, Bool.not_eq_eq_eq_not, Bool.not_true, Bool.not_false, Int.not_lt, Int.not_le, ne_eq, Decidable.not_not] at hc60
            refine st_skip ?_
            refine st_then ?_
            refine st_seq ?_
            refine st_block ?_
            refine st_seq ?_
            refine st_region ?_
            refine st_v (rv_move rfl) (by decide) ?_
            refine st_v (rv_quoN (b := 4) rfl rfl (by first | omega | (simp <;> omega))) (by decide) ?_
            first | refine st_v (rv_mulN (b := 4) rfl rfl (by first | omega | (simp <;> omega))) (by decide) ?_ | refine st_v (rv_mulZ rfl rfl (by first | omega | (simp <;> omega))) (by decide) ?_
            refine st_v (rv_assign rfl) (by decide) ?_
            refine st_nil ?_
            refine st_then ?_
            refine st_seq ?_
            refine st_region ?_
            refine st_v (rv_move rfl) (by decide) ?_
            refine st_v (rv_remN (b := 4) rfl rfl (by first | omega | (simp <;> omega))) (by decide) ?_
            refine st_v (rv_assign rfl) (by decide) ?_
            refine st_nil ?_
            refine st_then ?_
            refine st_drawStart mixed ?_
            refine st_drawSeg1 (E0 := [(0, _), (6, _), (7, _), (9, _), (11, _), (12, _), (13, _), (14, _)]) [kpeq _, kpeq _, kpeq _, kpeq _, kpeq _, kpeq _, kpeq _, kpeq _, kpeq _, kpeq _, kpeq _, kpeq _, kpeq _, kpeq _, kpeq _, kpeq _, kpeq _, kpeq _, kpeq _, kpeq _, kpeq _, kpeq _, kpeq _, kpeq _, kpeq _, kpeq _, kpeq _, kpeq _, kpeq _, kpeq _, kpeq _, kpeq _, kpeq _, kpeq _, kpeq _] 0 35 [0, 0, 0, 0, 12, 28, 60, 0, 0, 0, 512, 1536, 3840, 8064, 16256, 32764, 65532, 0, 0, 0, 524288, 1572864, 3932160, 8257536, 16646144, 33554428, 0, 0, 0, 268435456, 805306368, 2013265920, 4227858432, 8522825728, 17179869180, 34359738367, 68719476735] [0, 6, 7, 9, 11, 12, 13, 14] (by kernel_rfl) (by decide) (by kernel_rfl) (SubE.cons rfl (SubE.cons rfl (SubE.cons rfl (SubE.cons rfl (SubE.cons rfl (SubE.cons rfl (SubE.cons rfl (SubE.cons rfl (SubE.nil _))))))))) rfl rfl (hall_cons (hop_val [] [] rfl rfl rfl (by decide) rfl (jnil) (xnil) (fun _ _ _ _ => does_v (rv_move rfl))) (hall_cons (hop_val [] [] rfl rfl rfl (by decide) rfl (jnil) (xnil) (fun _ _ _ _ => does_v (rv_move rfl))) (hall_cons (hop_val [] [] rfl rfl rfl (by decide) rfl (jnil) (xnil) (fun _ _ _ _ => does_v (rv_move rfl))) (hall_cons (hop_val [] [] rfl rfl rfl (by decide) rfl (jnil) (xnil) (fun _ _ _ _ => does_v (rv_move rfl))) (hall_cons (hop_val [(2, 70, _), (3, 71, _)] [] rfl rfl rfl (by decide) rfl (jcons rfl rfl rfl rfl rfl (jcons rfl rfl rfl rfl rfl (jnil))) (xnil) (fun _ _ _ _ => does_v (rv_indexR1 (rd_own (i := 1) rfl) Tryd.underlying22 sz5 rfl rfl rfl (by first | omega | (simp [length_encQ, length_rowR, length_mixR, length_eachR, hs] <;> omega))))) (hall_cons (hop_val [(4, 72, _)] [] rfl rfl rfl (by decide) rfl (jcons rfl rfl rfl rfl rfl (jnil)) (xnil) (fun _ _ _ _ => does_v (rv_load_rd (rd_own (i := 1) rfl) tyS5 rfl (get8 (by first | omega | (simp [length_encQ, length_rowR, length_mixR, length_eachR, hs] <;> omega)))))) (hall_cons (hop_val [(5, 73, _)] [] rfl rfl rfl (by decide) rfl (jcons rfl rfl rfl rfl rfl (jnil)) (xnil) (fun _ _ _ _ => does_call0 cal20 rfl (fun w hM => prod_calls 2#8 _ w))) (hall_cons (hop_val [] [] rfl rfl rfl (by decide) rfl (jnil) (xnil) (fun _ _ _ _ => does_v (rv_move rfl))) (hall_cons (hop_val [] [] rfl rfl rfl (by decide) rfl (jnil) (xnil) (fun _ _ _ _ => does_v (rv_move rfl))) (hall_cons (hop_val [] [] rfl rfl rfl (by decide) rfl (jnil) (xnil) (fun _ _ _ _ => does_v (rv_move rfl))) (hall_cons (hop_val [(9, 77, _)] [] rfl rfl rfl (by decide) rfl (jcons rfl rfl rfl rfl rfl (jnil)) (xnil) (fun _ _ _ _ => does_v (rv_addN (b := 1) rfl rfl (by first | omega | (simp <;> omega))))) (hall_cons (hop_val [(10, 78, _)] [] rfl rfl rfl (by decide) rfl (jcons rfl rfl rfl rfl rfl (jnil)) (xnil) (fun _ _ _ _ => does_v (rv_remN (b := 4) rfl rfl (by first | omega | (simp <;> omega))))) (hall_cons (hop_val [(8, 76, _), (11, 79, _)] [] rfl rfl rfl (by decide) rfl (jcons rfl rfl rfl rfl rfl (jcons rfl rfl rfl rfl rfl (jnil))) (xnil) (fun _ _ _ _ => does_v (rv_addN rfl rfl (by first | omega | (simp <;> omega))))) (hall_cons (hop_val [(7, 75, _), (12, 80, _)] [] rfl rfl rfl (by decide) rfl (jcons rfl rfl rfl rfl rfl (jcons rfl rfl rfl rfl rfl (jnil))) (xnil) (fun _ _ _ _ => does_v (rv_indexR1 (rd_own (i := 1) rfl) Tryd.underlying22 sz5 rfl rfl rfl (by first | omega | (simp [length_encQ, length_rowR, length_mixR, length_eachR, hs] <;> omega))))) (hall_cons (hop_val [(13, 81, _)] [] rfl rfl rfl (by decide) rfl (jcons rfl rfl rfl rfl rfl (jnil)) (xnil) (fun _ _ _ _ => does_v (rv_load_rd (rd_own (i := 1) rfl) tyS5 rfl (get8 (by first | omega | (simp [length_encQ, length_rowR, length_mixR, length_eachR, hs] <;> omega)))))) (hall_cons (hop_val [(14, 82, _)] [] rfl rfl rfl (by decide) rfl (jcons rfl rfl rfl rfl rfl (jnil)) (xnil) (fun _ _ _ _ => does_call0 cal20 rfl (fun w hM => prod_calls 3#8 _ w))) (hall_cons (hop_val [(6, 74, _), (15, 83, _)] [] rfl rfl rfl (by decide) rfl (jcons rfl rfl rfl rfl rfl (jcons rfl rfl rfl rfl rfl (jnil))) (xnil) (fun _ _ _ _ => does_v (rv_xor8 rfl rfl))) (hall_cons (hop_val [] [] rfl rfl rfl (by decide) rfl (jnil) (xnil) (fun _ _ _ _ => does_v (rv_move rfl))) (hall_cons (hop_val [] [] rfl rfl rfl (by decide) rfl (jnil) (xnil) (fun _ _ _ _ => does_v (rv_move rfl))) (hall_cons (hop_val [] [] rfl rfl rfl (by decide) rfl (jnil) (xnil) (fun _ _ _ _ => does_v (rv_move rfl))) (hall_cons (hop_val [(19, 87, _)] [] rfl rfl rfl (by decide) rfl (jcons rfl rfl rfl rfl rfl (jnil)) (xnil) (fun _ _ _ _ => does_v (rv_addN (b := 2) rfl rfl (by first | omega | (simp <;> omega))))) (hall_cons (hop_val [(20, 88, _)] [] rfl rfl rfl (by decide) rfl (jcons rfl rfl rfl rfl rfl (jnil)) (xnil) (fun _ _ _ _ => does_v (rv_remN (b := 4) rfl rfl (by first | omega | (simp <;> omega))))) (hall_cons (hop_val [(18, 86, _), (21, 89, _)] [] rfl rfl rfl (by decide) rfl (jcons rfl rfl rfl rfl rfl (jcons rfl rfl rfl rfl rfl (jnil))) (xnil) (fun _ _ _ _ => does_v (rv_addN rfl rfl (by first | omega | (simp <;> omega))))) (hall_cons (hop_val [(17, 85, _), (22, 90, _)] [] rfl rfl rfl (by decide) rfl (jcons rfl rfl rfl rfl rfl (jcons rfl rfl rfl rfl rfl (jnil))) (xnil) (fun _ _ _ _ => does_v (rv_indexR1 (rd_own (i := 1) rfl) Tryd.underlying22 sz5 rfl rfl rfl (by first | omega | (simp [length_encQ, length_rowR, length_mixR, length_eachR, hs] <;> omega))))) (hall_cons (hop_val [(23, 91, _)] [] rfl rfl rfl (by decide) rfl (jcons rfl rfl rfl rfl rfl (jnil)) (xnil) (fun _ _ _ _ => does_v (rv_load_rd (rd_own (i := 1) rfl) tyS5 rfl (get8 (by first | omega | (simp [length_encQ, length_rowR, length_mixR, length_eachR, hs] <;> omega)))))) (hall_cons (hop_val [(16, 84, _), (24, 92, _)] [] rfl rfl rfl (by decide) rfl (jcons rfl rfl rfl rfl rfl (jcons rfl rfl rfl rfl rfl (jnil))) (xnil) (fun _ _ _ _ => does_v (rv_xor8 rfl rfl))) (hall_cons (hop_val [] [] rfl rfl rfl (by decide) rfl (jnil) (xnil) (fun _ _ _ _ => does_v (rv_move rfl))) (hall_cons (hop_val [] [] rfl rfl rfl (by decide) rfl (jnil) (xnil) (fun _ _ _ _ => does_v (rv_move rfl))) (hall_cons (hop_val [] [] rfl rfl rfl (by decide) rfl (jnil) (xnil) (fun _ _ _ _ => does_v (rv_move rfl))) (hall_cons (hop_val [(28, 96, _)] [] rfl rfl rfl (by decide) rfl (jcons rfl rfl rfl rfl rfl (jnil)) (xnil) (fun _ _ _ _ => does_v (rv_addN (b := 3) rfl rfl (by first | omega | (simp <;> omega))))) (hall_cons (hop_val [(29, 97, _)] [] rfl rfl rfl (by decide) rfl (jcons rfl rfl rfl rfl rfl (jnil)) (xnil) (fun _ _ _ _ => does_v (rv_remN (b := 4) rfl rfl (by first | omega | (simp <;> omega))))) (hall_cons (hop_val [(27, 95, _), (30, 98, _)] [] rfl rfl rfl (by decide) rfl (jcons rfl rfl rfl rfl rfl (jcons rfl rfl rfl rfl rfl (jnil))) (xnil) (fun _ _ _ _ => does_v (rv_addN rfl rfl (by first | omega | (simp <;> omega))))) (hall_cons (hop_val [(26, 94, _), (31, 99, _)] [] rfl rfl rfl (by decide) rfl (jcons rfl rfl rfl rfl rfl (jcons rfl rfl rfl rfl rfl (jnil))) (xnil) (fun _ _ _ _ => does_v (rv_indexR1 (rd_own (i := 1) rfl) Tryd.underlying22 sz5 rfl rfl rfl (by first | omega | (simp [length_encQ, length_rowR, length_mixR, length_eachR, hs] <;> omega))))) (hall_cons (hop_val [(32, 100, _)] [] rfl rfl rfl (by decide) rfl (jcons rfl rfl rfl rfl rfl (jnil)) (xnil) (fun _ _ _ _ => does_v (rv_load_rd (rd_own (i := 1) rfl) tyS5 rfl (get8 (by first | omega | (simp [length_encQ, length_rowR, length_mixR, length_eachR, hs] <;> omega)))))) (hall_cons (hop_val [(25, 93, _), (33, 101, _)] [] rfl rfl rfl (by decide) rfl (jcons rfl rfl rfl rfl rfl (jcons rfl rfl rfl rfl rfl (jnil))) (xnil) (fun _ _ _ _ => does_v (rv_xor8 rfl rfl))) (hall_nil)))))))))))))))))))))))))))))))))))) (draw_end1 [(0, 68, _), (1, 69, _), (34, 102, _)] (jcons rfl rfl rfl rfl rfl (jcons rfl rfl rfl rfl rfl (jcons rfl rfl rfl rfl rfl (jnil)))) ?_)
            refine st_drawTail (N := 35) [0, 0, 0, 0, 12, 28, 60, 0, 0, 0, 512, 1536, 3840, 8064, 16256, 32764, 65532, 0, 0, 0, 524288, 1572864, 3932160, 8257536, 16646144, 33554428, 0, 0, 0, 268435456, 805306368, 2013265920, 4227858432, 8522825728, 17179869180, 34359738367, 68719476735] (by kernel_rfl) (by kernel_rfl) ?_
            refine st_v (rv_indexR1 (rd_own (i := 0) rfl) Tryd.underlying22 sz5 rfl rfl rfl (by first | omega | (simp [length_encQ, length_rowR, length_mixR, length_eachR, hs] <;> omega))) (by decide) ?_
            refine st_storeOwn8 rfl rfl (i := 0) rfl sz5 (by first | omega | (simp [length_encQ, length_rowR, length_mixR, length_eachR, hs] <;> omega)) rfl ?_
            refine st_nil ?_
            refine st_in_normal ?_
            refine st_then ?_
            refine st_region ?_
            refine st_v (rv_move rfl) (by decide) ?_
            first | refine st_v (rv_addN (b := 1) rfl rfl (by first | omega | (simp <;> omega))) (by decide) ?_ | refine st_v (rv_addZ rfl rfl (by first | omega | (simp <;> omega))) (by decide) ?_
            refine st_v (rv_assign rfl) (by decide) ?_
            refine st_nil ?_
            refine st_then ?_
            exact st_again (i + 1) (by omega) (by omega) (SubE.cons rfl (SubE.cons rfl (SubE.cons rfl (SubE.cons rfl (SubE.cons rfl (SubE.cons rfl (SubE.nil _))))))) (fun _ hM => hM)
          · -- t60 False
            try simp only [decide_eq_true_eq, decide_eq_false_iff_not, Bool.and_eq_true, Bool.or_eq_true, Bool.and_eq_false_iff, Bool.or_eq_false_iff, Bool.not_eq_true, Bool.not_eq_eq_eq_not, Bool.not_true, Bool.not_false, Int.not_lt, Int.not_le, ne_eq, Decidable.not_not] at hc60
            obtain rfl : i = 16 := by omega
            refine st_exit ?_
            refine st_then_exit ?_
            refine st_then_exit ?_
            refine st_in_exit ?_
            refine st_then ?_
            refine st_region ?_
            refine st_v (rv_move rfl) (by decide) ?_
            refine st_v (rv_assign rfl) (by decide) ?_
            refine st_nil ?_
            refine st_then ?_
            exact st_meet _ (trivial) (SubE.cons rfl (SubE.cons rfl (SubE.cons rfl (SubE.cons rfl (SubE.nil _))))) (by intro w hM; have hM := hM.sublist (List.cons_sublist_cons.2 (List.nil_sublist _)); first | (rw [show decide (R ≤ r + 1) = false from decide_eq_false (by omega)]; exact hM) | (rw [show decide (R ≤ r + 1) = true from decide_eq_true (by omega)]; exact hM))
        · -- t57 False
          try simp only [decide_eq_true_eq, decide_eq_false_iff_not, Bool.and_eq_true, Bool.or_eq_true, Bool.and_eq_false_iff, Bool.or_eq_false_iff, Bool.not_eq_true, Bool.not_eq_eq_eq_not, Bool.not_true, Bool.not_false, Int.not_lt, Int.not_le, ne_eq, Decidable.not_not] at hc57
          refine st_skip ?_
          refine st_then ?_
          exact st_meet _ (trivial) (SubE.cons rfl (SubE.cons rfl (SubE.cons rfl (SubE.cons rfl (SubE.nil _))))) (by intro w hM; have hM := hM.sublist (List.cons_sublist_cons.2 (List.nil_sublist _)); first | (rw [show decide (R ≤ r + 1) = false from decide_eq_false (by omega)]; exact hM) | (rw [show decide (R ≤ r + 1) = true from decide_eq_true (by omega)]; exact hM))
      · -- behind the cut
        intro x hI
        refine st_seq ?_
        refine st_region ?_
        refine st_v (rv_move rfl) (by decide) ?_
        refine st_v (rv_move rfl) (by decide) ?_
        refine st_v (rv_move rfl) (by decide) ?_
        refine st_callO cal21 rfl (i := 0) rfl (fun w hM => radd_calls _ _ _ _ _ _ _ _ (r + 1) (by first | exact hs | simp [length_encQ, length_rndR, hs]) hvs hL (by omega) (by omega) w (cip_at hC hS hM) (cip_sep hC hS hM (i := 0) rfl) (hM.ownAt (i := 0) rfl)) (by decide) (l' := [_]) rfl ?_
        refine st_nil ?_
        refine st_then ?_
        refine st_region ?_
        refine st_v (rv_move rfl) (by decide) ?_
        refine st_v (rv_assign rfl) (by decide) ?_
        refine st_nil ?_
        refine st_in_normal ?_
        refine st_then ?_
        refine st_region ?_
        refine st_v (rv_move rfl) (by decide) ?_
        first | refine st_v (rv_addN (b := 1) rfl rfl (by first | omega | (simp <;> omega))) (by decide) ?_ | refine st_v (rv_addZ rfl rfl (by first | omega | (simp <;> omega))) (by decide) ?_
        refine st_v (rv_assign rfl) (by decide) ?_
        refine st_nil ?_
        refine st_then ?_
        exact st_again (r + 1, _) (by omega) (by omega) (SubE.cons rfl (SubE.cons rfl (SubE.cons rfl (SubE.cons rfl (SubE.nil _))))) (fun _ hM => hM)
  · -- t29 False
    try simp only [decide_eq_true_eq, decide_eq_false_iff_not, Bool.and_eq_true, Bool.or_eq_true, Bool.and_eq_false_iff, Bool.or_eq_false_iff, Bool.not_eq_true, Bool.not_eq_eq_eq_not, Bool.not_true, Bool.not_false, Int.not_lt, Int.not_le, ne_eq, Decidable.not_not] at hc29
    obtain rfl : R = r := by omega
    refine st_exit ?_
    refine st_then_exit ?_
    refine st_then_exit ?_
    refine st_in_exit ?_
    refine st_then ?_
    refine st_seq ?_
    refine st_region ?_
    refine st_v (rv_move rfl) (by decide) ?_
    refine st_v (rv_string (rd_own (i := 0) rfl) Tryd.underlying22 Tryd.underlying9 Tryd.underlying5 rfl) (by decide) ?_
    refine st_v (rv_assign rfl) (by decide) ?_
    refine st_nil ?_
    refine st_then ?_
    refine st_ret ?_
    exact st_done rfl rfl (fun w hM => ⟨rfl, hM.sublist (List.nil_sublist _)⟩)
end Go.Proofs.YtpihffpdkfkkhaaDoor
