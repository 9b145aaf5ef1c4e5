/- Walks: what functions of the given program do, operation by operation. Written by wip/gen. -/
import Derived.Test.YtjhjjhpfjadjpaaDoorHE
namespace Go.Proofs.YtjhjjhpfjadjpaaDoor
set_option linter.all false
open Go
set_option maxRecDepth 20000 in
theorem clone64_calls (sb fp : Nat) (vb kv : Value) (F : Fam 64) (hF : FamOk F) (h0 : List (BitVec 64)) (x : List (BitVec 8)) (hh : h0.length = 8) (hx : x.length ≤ 900000) (w : World) (hX : (stM U64 165 F 128 h0 sb fp vb x).holds w) (hA : (famA U64 187 fp kv F).holds w) : Calls Tryd.prog 173 #[pt sb 0] w (fun e w' => ∃ r : Nat × Value, e = .returned (.iface 160 (pt r.1 0)) ∧ Mem (All w) w w' [stM U64 165 F 128 h0 r.1 fp r.2 x]) := by
  have hB := hX.1 _ (List.mem_cons_self (l := [own vb 5 1 (restB 128 x).length ((restB 128 x).map U8)]))
  have hO0 : (own vb 5 1 (restB 128 x).length ((restB 128 x).map U8)).holds w := hX.1 _ (List.mem_cons_of_mem _ List.mem_cons_self)
  obtain ⟨fr, hrow, _⟩ := hB
  have hO := own_rd hO0
  have hSb : All w sb := ⟨(Array.getElem?_eq_some_iff.1 hrow).1, fun h => h⟩
  have hr := length_restB 128 x
  have hz : (zcount (restB 128 x).length 16 128) = (128 - ((restB 128 x).length + 1 + 16) % 128) % 128 := rfl
  have hAS : ∀ b, (famA U64 187 fp kv F).foot b → All w b := fun b hb => ⟨(famA U64 187 fp kv F).live w hA b hb, fun h => h⟩
  refine calls_of_st (n := 14) (args := [pt sb 0]) Tryd.func173 rfl Tryd.ntmps173 (Nat.le_of_ble_eq_true rfl) (Mem.all w) ?_
  refine st_seq ?_
  refine st_region ?_
  refine st_v (rv_assign rfl) (by decide) ?_
  refine st_nil ?_
  refine st_then ?_
  refine st_seq ?_
  refine st_region ?_
  refine st_v (rv_move rfl) (by decide) ?_
  refine st_v (rv_nilCheck rfl) (by decide) ?_
  refine st_v (rv_loadW_old tyA165 rfl hrow hSb (size_stC (by simp only [length_fdH]; exact hh))) (by decide) ?_
  refine st_alloc tyZ165 (by decide) (cs := #[.pointer none, .int .u64 0, .int .u64 0, .int .u64 0, .int .u64 0, .int .u64 0, .int .u64 0, .int .u64 0, .int .u64 0, .slice none 0 0, .int .u64 0]) (rfl) (fun b1 hb1 => ?_)
  refine st_storeAll rfl rfl (i := 0) rfl (by rw [size_stC (by simp only [length_fdH]; exact hh)]; exact sz165) (size_stC (by simp only [length_fdH]; exact hh)).symm (one_stC (fun _ => rfl) (rd_one hO)) (l' := [_]) rfl ?_
  refine st_nil ?_
  refine st_then ?_
  refine st_seq ?_
  refine st_region ?_
  refine st_v (rv_move rfl) (by decide) ?_
  refine st_v (rv_nilCheck rfl) (by decide) ?_
  refine st_v (rv_fieldAddr Tryd.underlying165 (fs := _) rfl sz22 rfl rfl) (by decide) ?_
  refine st_v (rv_load_old tyS22 rfl hrow hSb (stC_9 (by simp only [length_fdH]; exact hh))) (by decide) ?_
  refine st_ownNil8 5 1 ?_
  refine st_append8 Tryd.underlying22 Tryd.underlying22 (.inr ⟨_, rfl⟩) tyZ5 rfl rfl rfl (i := 0) rfl (fun w hM => src_rd ((rd_old hO hO.all) w hM) (one8 _)) (by first | omega | simp) (by first | omega | simp) (by decide) (fun v2 => ?_)
  refine st_v (rv_fieldAddr Tryd.underlying165 (fs := _) rfl sz22 rfl rfl) (by decide) ?_
  rw [Nat.zero_add (restB 128 x).length, List.nil_append (restB 128 x)]
  refine St.know (fun w hM => And.intro (ownCells (i := 0) rfl hM) (ownOne (i := 0) rfl hM)) (fun hst34 => ?_)
  refine st_store (vs := [_]) rfl rfl (i := 1) rfl sz22 hst34.1 (by rw [size_stC (by simp only [length_fdH]; exact hh)]; exact Nat.le_of_ble_eq_true rfl) (one1 hst34.2) (stC_set9 (by simp only [length_fdH]; exact hh)) (l' := [_, _]) rfl ?_
  refine st_nil ?_
  refine st_then ?_
  refine st_seq ?_
  refine st_region ?_
  refine st_v (rv_makeIface Tryd.underlying160 rfl) (by decide) ?_
  refine st_v (rv_assign rfl) (by decide) ?_
  refine st_nil ?_
  refine st_then ?_
  refine st_ret ?_
  exact st_done rfl rfl (fun w hM => ⟨(b1, v2), rfl, Mem.pack (lm := stL U64 165 F 128 h0 b1 fp v2 x) (lf := []) (Mem.front hM (i := 1) rfl)⟩)
set_option maxRecDepth 20000 in
set_option maxHeartbeats 2000000 in
theorem sum64_calls (sb fp : Nat) (vb kv : Value) (F : Fam 64) (hF : FamOk F) (h0 : List (BitVec 64)) (x : List (BitVec 8)) (hh : h0.length = 8) (hx : x.length ≤ 900000) (w : World) (hX : (stM U64 165 F 128 h0 sb fp vb x).holds w) (hA : (famA U64 187 fp kv F).holds w) : Calls Tryd.prog 175 #[pt sb 0] w (fun e w' => ∃ v, e = .returned v ∧ Mem (All w) w w' [own v 5 1 (8 * 8) ((sumW F 128 16 h0 x).map U8)]) := by
  have hB := hX.1 _ (List.mem_cons_self (l := [own vb 5 1 (restB 128 x).length ((restB 128 x).map U8)]))
  have hO0 : (own vb 5 1 (restB 128 x).length ((restB 128 x).map U8)).holds w := hX.1 _ (List.mem_cons_of_mem _ List.mem_cons_self)
  obtain ⟨fr, hrow, _⟩ := hB
  have hO := own_rd hO0
  have hSb : All w sb := ⟨(Array.getElem?_eq_some_iff.1 hrow).1, fun h => h⟩
  have hr := length_restB 128 x
  have hz : (zcount (restB 128 x).length 16 128) = (128 - ((restB 128 x).length + 1 + 16) % 128) % 128 := rfl
  have hAS : ∀ b, (famA U64 187 fp kv F).foot b → All w b := fun b hb => ⟨(famA U64 187 fp kv F).live w hA b hb, fun h => h⟩
  have hel : (endB x 128 16).length = (zcount (restB 128 x).length 16 128) + 1 + 16 := by (rw [endB, length_lpad, length_zpad])
  refine calls_of_st (n := 93) (args := [pt sb 0]) Tryd.func175 rfl Tryd.ntmps175 (Nat.le_of_ble_eq_true rfl) (Mem.all w) ?_
  refine st_seq ?_
  refine st_region ?_
  refine st_v (rv_assign rfl) (by decide) ?_
  refine st_nil ?_
  refine st_then ?_
  refine st_seq ?_
  refine st_region ?_
  refine st_v (rv_move rfl) (by decide) ?_
  refine st_v (rv_nilCheck rfl) (by decide) ?_
  refine st_v (rv_loadW_old tyA165 rfl hrow hSb (size_stC (by simp only [length_fdH]; exact hh))) (by decide) ?_
  refine st_alloc tyZ165 (by decide) (cs := #[.pointer none, .int .u64 0, .int .u64 0, .int .u64 0, .int .u64 0, .int .u64 0, .int .u64 0, .int .u64 0, .int .u64 0, .slice none 0 0, .int .u64 0]) (rfl) (fun b1 hb1 => ?_)
  refine st_storeAll rfl rfl (i := 0) rfl (by rw [size_stC (by simp only [length_fdH]; exact hh)]; exact sz165) (size_stC (by simp only [length_fdH]; exact hh)).symm (one_stC (fun _ => rfl) (rd_one hO)) (l' := [_]) rfl ?_
  refine st_nil ?_
  refine st_then ?_
  refine st_seq ?_
  refine st_region ?_
  refine st_v (rv_move rfl) (by decide) ?_
  refine st_v (rv_nilCheck rfl) (by decide) ?_
  refine st_v (rv_fieldAddr Tryd.underlying165 (fs := _) rfl sz22 rfl rfl) (by decide) ?_
  refine st_v (rv_load_old tyS22 rfl hrow hSb (stC_9 (by simp only [length_fdH]; exact hh))) (by decide) ?_
  refine st_ownNil8 5 1 ?_
  refine st_append8 Tryd.underlying22 Tryd.underlying22 (.inr ⟨_, rfl⟩) tyZ5 rfl rfl rfl (i := 0) rfl (fun w hM => src_rd ((rd_old hO hO.all) w hM) (one8 _)) (by first | omega | simp) (by first | omega | simp) (by decide) (fun v2 => ?_)
  refine st_v (rv_fieldAddr Tryd.underlying165 (fs := _) rfl sz22 rfl rfl) (by decide) ?_
  rw [Nat.zero_add (restB 128 x).length, List.nil_append (restB 128 x)]
  refine St.know (fun w hM => And.intro (ownCells (i := 0) rfl hM) (ownOne (i := 0) rfl hM)) (fun hst35 => ?_)
  refine st_store (vs := [_]) rfl rfl (i := 1) rfl sz22 hst35.1 (by rw [size_stC (by simp only [length_fdH]; exact hh)]; exact Nat.le_of_ble_eq_true rfl) (one1 hst35.2) (stC_set9 (by simp only [length_fdH]; exact hh)) (l' := [_, _]) rfl ?_
  refine st_nil ?_
  refine st_then ?_
  refine st_seq ?_
  refine st_region ?_
  refine st_v (rv_move rfl) (by decide) ?_
  refine st_v (rv_nilCheck rfl) (by decide) ?_
  refine st_v (rv_fieldAddr Tryd.underlying165 (fs := _) rfl sz77 rfl rfl) (by decide) ?_
  refine st_v (rv_load_old tyS77 rfl hrow hSb (stC_10 (by simp only [length_fdH]; exact hh))) (by decide) ?_
  refine st_v (rv_assign rfl) (by decide) ?_
  refine st_nil ?_
  refine st_then ?_
  refine st_seq ?_
  refine st_region ?_
  refine st_call0 cal177 rfl (fun w hM => width64_calls w) (by decide) ?_
  refine st_v (rv_to (u := vI (16 : Nat)) (rv_quoN (a := 64) (b := 4) rfl rfl (by omega)) (by rfl)) (by decide) ?_
  refine st_v (rv_assign rfl) (by decide) ?_
  refine st_nil ?_
  refine st_then ?_
  refine st_seq ?_
  refine st_region ?_
  refine st_buildO Tryd.underlying22 tyZ5 rfl rfl (by decide) (cs := #[.int .u8 128]) rfl rfl (by decide) (fun v3 => ?_)
  refine st_v (rv_assign rfl) (by decide) ?_
  refine st_nil ?_
  refine st_then ?_
  refine st_seq ?_
  refine st_block ?_
  refine st_loopA (σ := Nat × Value) [(0, kst _), (3, kst _), (4, kst _), (5, kst _), (6, fun (k, u) => u)] [fun (k, u) => own u 5 1 (k + 1) ((zpad k).map U8), kst _, kst _] (fun (k, u) => k ≤ (zcount (restB 128 x).length 16 128)) (fun (k, u) => (zcount (restB 128 x).length 16 128) - k) (0, _) (by omega) (.cons rfl (.cons rfl (.cons rfl (.cons rfl (.cons rfl (.nil _)))))) (fun _ hM => hM) ?_
  intro ⟨k, u⟩ hI
  try dsimp only at hI
  dsimp only [List.map, kst]
  refine st_seq ?_
  refine st_seq ?_
  refine st_drawStart mixed ?_
  refine st_drawSeg1 (E0 := [(0, _), (3, _), (4, _), (5, _), (6, _)]) [kpeq _, kpeq _, kpeq _, kpeq _, kpeq _, kpeq _, kpeq _, kpeq _, kpeq _, kpeq _, kpeq _, kpeq _] 0 12 [0, 1, 3, 7, 15, 0, 32, 127, 0, 511, 0, 1024, 4095, 8191] [0, 3, 4, 5, 6] (by kernel_rfl) (by decide) (by kernel_rfl) (.cons rfl (.cons rfl (.cons rfl (.cons rfl (.cons rfl (.nil _)))))) rfl rfl (hall_cons (hop_mv rfl (by decide) rfl rfl) (hall_cons (hop_val [(0, 29, _)] [] rfl rfl rfl (by decide) rfl (jcons rfl rfl rfl rfl rfl (jnil)) (xnil) (fun _ _ _ _ => does_v (rv_nilCheck rfl))) (hall_cons (hop_val [(1, 30, _)] [] rfl rfl rfl (by decide) rfl (jcons rfl rfl rfl rfl rfl (jnil)) (xnil) (fun _ _ _ _ => does_v (rv_fieldAddr Tryd.underlying165 (fs := _) rfl sz22 rfl rfl))) (hall_cons (hop_val [(2, 31, _)] [] rfl rfl rfl (by decide) rfl (jcons rfl rfl rfl rfl rfl (jnil)) (xnil) (fun _ _ _ _ => does_v (rv_load_old tyS22 rfl hrow hSb (stC_9 (by simp only [length_fdH]; exact hh))))) (hall_cons (hop_val [(3, 32, _)] [] rfl rfl rfl (by decide) rfl (jcons rfl rfl rfl rfl rfl (jnil)) (xnil) (fun _ _ _ _ => does_v (rv_lenR (rd_old hO hO.all) Tryd.underlying22 rfl))) (hall_cons (hop_mv rfl (by decide) rfl rfl) (hall_cons (hop_val [(5, 34, _)] [] rfl rfl rfl (by decide) rfl (jcons rfl rfl rfl rfl rfl (jnil)) (xnil) (fun _ _ _ _ => does_v (rv_lenR (rd_own (i := 0) rfl) Tryd.underlying22 rfl))) (hall_cons (hop_val [(4, 33, _), (6, 35, _)] [] rfl rfl rfl (by decide) rfl (jcons rfl rfl rfl rfl rfl (jcons rfl rfl rfl rfl rfl (jnil))) (xnil) (fun _ _ _ _ => does_v (rv_addN rfl rfl (by first | omega | (simp; done) | (simp; omega))))) (hall_cons (hop_mv rfl (by decide) rfl rfl) (hall_cons (hop_val [(7, 36, _), (8, 37, _)] [] rfl rfl rfl (by decide) rfl (jcons rfl rfl rfl rfl rfl (jcons rfl rfl rfl rfl rfl (jnil))) (xnil) (fun _ _ _ _ => does_v (rv_addN rfl rfl (by first | omega | (simp; done) | (simp; omega))))) (hall_cons (hop_mv rfl (by decide) rfl rfl) (hall_cons (hop_val [(10, 39, _)] [] rfl rfl rfl (by decide) rfl (jcons rfl rfl rfl rfl rfl (jnil)) (xnil) (fun _ _ _ _ => does_call0 cal174 rfl (fun w hM => size64_calls _ w))) (hall_nil))))))))))))) (draw_end1 [(9, 38, _), (11, 40, _)] (jcons rfl rfl rfl rfl rfl (jcons rfl rfl rfl rfl rfl (jnil))) ?_)
  refine st_drawTail (N := 12) [0, 1, 3, 7, 15, 0, 32, 127, 0, 511, 0, 1024, 4095, 8191] (by kernel_rfl) (by kernel_rfl) ?_
  refine st_v (rv_remN rfl rfl (by first | omega | (simp; done) | (simp; omega))) (by decide) ?_
  refine st_v (rv_neqZ rfl rfl) (by decide) ?_
  refine st_nil ?_
  refine st_then ?_
  refine st_cond rfl (fun hc42 => ?_) (fun hc42 => ?_)
  · -- t42 True
    try simp only [z1, z2, z3, z4, z5, z6, z7, z8, z9, z10, z11, z12, z13, z14] at hc42
    refine st_skip ?_
    refine st_then ?_
    refine st_block ?_
    refine st_region ?_
    refine st_v (rv_move rfl) (by decide) ?_
    refine st_buildSlice Tryd.underlying22 tyZ5 rfl rfl (by decide) (cs := #[U8 0#8]) rfl (by decide) (fun b4 hb4 => ?_)
    refine st_append8 Tryd.underlying22 Tryd.underlying22 (.inr ⟨_, rfl⟩) tyZ5 rfl rfl rfl (i := 1) rfl (fun w hM => src_rd ((rd_l8 (q := [_]) (len := 1) (i := 0) rfl rfl rfl (by omega)) w hM) (one8 _)) (by first | omega | simp) (by first | omega | simp) (by decide) (fun v3 => ?_)
    refine st_v (rv_assign rfl) (by decide) ?_
    refine st_nil ?_
    refine st_in_normal ?_
    refine st_then ?_
    exact st_again (k + 1, _) (by omega) (by omega) (.cons rfl (.cons rfl (.cons rfl (.cons rfl (.cons rfl (.nil _)))))) (fun _ hM => hM.sublist (List.Sublist.cons _ (List.Sublist.cons_cons _ (List.Sublist.cons_cons _ (List.Sublist.cons_cons _ (List.Sublist.slnil))))))
  · -- t42 False
    try simp only [z1, z2, z3, z4, z5, z6, z7, z8, z9, z10, z11, z12, z13, z14] at hc42
    obtain rfl : k = (zcount (restB 128 x).length 16 128) := by omega
    have hZ : (zcount (restB 128 x).length 16 128) ≤ 128 := by omega
    have hR : (restB 128 x).length ≤ 900000 := by omega
    clear hc42 hz hr
    refine st_exit ?_
    refine st_then_exit ?_
    refine st_then_exit ?_
    refine st_in_exit ?_
    refine st_then ?_
    refine st_seq ?_
    refine st_seq ?_
    refine st_region ?_
    refine st_v (rv_move rfl) (by decide) ?_
    first | refine st_v (rv_subN (b := 1) rfl rfl (by first | omega | (simp; done) | (simp; omega))) (by decide) ?_ | refine st_v (rv_subZ rfl rfl (by first | omega | (simp; done) | (simp; omega))) (by decide) ?_
    refine st_v (rv_assign rfl) (by decide) ?_
    refine st_nil ?_
    refine st_then ?_
    refine st_block ?_
    refine st_loopA (σ := Nat × Value) [(3, kst _), (4, kst _), (6, fun (j, u) => u), (7, fun (j, u) => vI ((16 : Int) - 1 - j))] [fun (j, u) => own u 5 1 ((zcount (restB 128 x).length 16 128) + 1 + j) ((lpad (zpad (zcount (restB 128 x).length 16 128)) (BitVec.ofNat 64 x.length) 16 j).map U8), kst _, kst _] (fun (j, u) => j ≤ 16) (fun (j, u) => 16 - j) (0, _) (by omega) (.cons rfl (.cons rfl (.cons rfl (SubE.cons (congrArg some (congrArg (fun z : Int => vI z) (by first | rfl | omega))) (.nil _))))) (fun _ hM => hM) ?_
    intro ⟨j, u⟩ hI
    try dsimp only at hI
    dsimp only [List.map, kst]
    refine st_seq ?_
    refine st_seq ?_
    refine st_region ?_
    refine st_v (rv_move rfl) (by decide) ?_
    refine st_v (rv_geqZ rfl rfl) (by decide) ?_
    refine st_nil ?_
    refine st_then ?_
    refine st_cond rfl (fun hc49 => ?_) (fun hc49 => ?_)
    · -- t49 True
      try simp only [z1, z2, z3, z4, z5, z6, z7, z8, z9, z10, z11, z12, z13, z14] at hc49
      rw [show ((16 : Int) - 1 - j) = ((16 - 1 - j : Nat) : Int) by omega]
      refine st_skip ?_
      refine st_then ?_
      refine st_seq ?_
      refine st_block ?_
      refine st_seq ?_
      refine st_region ?_
      refine st_v (rv_assign rfl) (by decide) ?_
      refine st_nil ?_
      refine st_then ?_
      refine st_cutB (σ := Unit) [(3, _), (4, _), (6, _), (7, _)] [_, _, _] (.cons rfl (.cons rfl (.cons rfl (.cons rfl (.nil _))))) (fun w hM => hM.sublist (List.Sublist.cons_cons _ (List.Sublist.cons_cons _ (List.Sublist.cons_cons _ (List.Sublist.slnil))))) [(8, fun _ => U8 (lbyte (BitVec.ofNat 64 x.length) (16 - 1 - j)))] [] (fun _ => True) ?_ ?_
      · -- up to the cut
        refine st_block ?_
        refine st_seq ?_
        refine st_region ?_
        refine st_v (rv_move rfl) (by decide) ?_
        refine st_v (rv_lssZ rfl rfl) (by decide) ?_
        refine st_v (rv_assign rfl) (by decide) ?_
        refine st_nil ?_
        refine st_then ?_
        refine st_cond rfl (fun hc52 => ?_) (fun hc52 => ?_)
        · -- t52 True
          try simp only [z1, z2, z3, z4, z5, z6, z7, z8, z9, z10, z11, z12, z13, z14] at hc52
          refine st_region ?_
          refine st_v (rv_move rfl) (by decide) ?_
          refine st_v (rv_shl64 (s := 3) rfl rfl rfl) (by decide) ?_
          refine st_v (rv_move rfl) (by decide) ?_
          first | refine st_v (rv_mulN (a := 8) rfl rfl (by first | omega | (simp; done) | (simp; omega))) (by decide) ?_ | refine st_v (rv_mulZ rfl rfl (by first | omega | (simp; done) | (simp; omega))) (by decide) ?_
          refine st_v (rv_shr64 rfl rfl rfl) (by decide) ?_
          refine st_v (rv_conv64to8 Tryd.underlying77 Tryd.underlying5 rfl) (by decide) ?_
          refine st_v (rv_assign rfl) (by decide) ?_
          refine st_nil ?_
          refine st_in_normal ?_
          refine st_then ?_
          exact st_meet () (trivial) (SubE.cons (by first | (exfalso; omega) | exact congrArg some (congrArg U8 (by rw [lbyte, if_pos (by omega)])) | exact congrArg some (congrArg U8 (by rw [lbyte, if_neg (by omega), if_pos (by omega)])) | exact congrArg some (show Value.int .u8 0 = U8 (lbyte (BitVec.ofNat 64 x.length) (16 - 1 - j)) by rw [lbyte, if_neg (by omega), if_neg (by omega)]; rfl)) (.cons rfl (.cons rfl (.cons rfl (.cons rfl (.nil _)))))) (fun _ hM => hM)
        · -- t52 False
          try simp only [z1, z2, z3, z4, z5, z6, z7, z8, z9, z10, z11, z12, z13, z14] at hc52
          refine st_seq ?_
          refine st_region ?_
          refine st_v (rv_move rfl) (by decide) ?_
          refine st_v (rv_eqlZ rfl rfl) (by decide) ?_
          refine st_v (rv_assign rfl) (by decide) ?_
          refine st_nil ?_
          refine st_then ?_
          refine st_cond rfl (fun hc61 => ?_) (fun hc61 => ?_)
          · -- t61 True
            try simp only [z1, z2, z3, z4, z5, z6, z7, z8, z9, z10, z11, z12, z13, z14] at hc61
            refine st_region ?_
            refine st_v (rv_move rfl) (by decide) ?_
            refine st_v (rv_shr64 (s := 61) rfl rfl rfl) (by decide) ?_
            refine st_v (rv_conv64to8 Tryd.underlying77 Tryd.underlying5 rfl) (by decide) ?_
            refine st_v (rv_assign rfl) (by decide) ?_
            refine st_nil ?_
            refine st_in_normal ?_
            refine st_then ?_
            exact st_meet () (trivial) (SubE.cons (by first | (exfalso; omega) | exact congrArg some (congrArg U8 (by rw [lbyte, if_pos (by omega)])) | exact congrArg some (congrArg U8 (by rw [lbyte, if_neg (by omega), if_pos (by omega)])) | exact congrArg some (show Value.int .u8 0 = U8 (lbyte (BitVec.ofNat 64 x.length) (16 - 1 - j)) by rw [lbyte, if_neg (by omega), if_neg (by omega)]; rfl)) (.cons rfl (.cons rfl (.cons rfl (.cons rfl (.nil _)))))) (fun _ hM => hM)
          · -- t61 False
            try simp only [z1, z2, z3, z4, z5, z6, z7, z8, z9, z10, z11, z12, z13, z14] at hc61
            refine st_skip ?_
            refine st_in_normal ?_
            refine st_then ?_
            exact st_meet () (trivial) (SubE.cons (by first | (exfalso; omega) | exact congrArg some (congrArg U8 (by rw [lbyte, if_pos (by omega)])) | exact congrArg some (congrArg U8 (by rw [lbyte, if_neg (by omega), if_pos (by omega)])) | exact congrArg some (show Value.int .u8 0 = U8 (lbyte (BitVec.ofNat 64 x.length) (16 - 1 - j)) by rw [lbyte, if_neg (by omega), if_neg (by omega)]; rfl)) (.cons rfl (.cons rfl (.cons rfl (.cons rfl (.nil _)))))) (fun _ hM => hM)
      · -- behind the cut
        intro _ hI
        try dsimp only at hI
        dsimp only [List.map, List.cons_append, List.nil_append]
        refine st_region ?_
        refine st_v (rv_move rfl) (by decide) ?_
        refine st_v (rv_move rfl) (by decide) ?_
        refine st_buildSlice Tryd.underlying22 tyZ5 rfl rfl (by decide) (cs := #[_]) rfl (by decide) (fun b5 hb5 => ?_)
        refine st_append8 Tryd.underlying22 Tryd.underlying22 (.inr ⟨_, rfl⟩) tyZ5 rfl rfl rfl (i := 1) rfl (fun w hM => src_rd ((rd_l8 (q := [_]) (len := 1) (i := 0) rfl rfl rfl (by omega)) w hM) (one8 _)) (by first | omega | simp) (by first | omega | simp) (by decide) (fun v3 => ?_)
        refine st_v (rv_assign rfl) (by decide) ?_
        refine st_nil ?_
        refine st_in_normal ?_
        refine st_then ?_
        refine st_region ?_
        refine st_v (rv_move rfl) (by decide) ?_
        first | refine st_v (rv_subN (b := 1) rfl rfl (by first | omega | (simp; done) | (simp; omega))) (by decide) ?_ | refine st_v (rv_subZ rfl rfl (by first | omega | (simp; done) | (simp; omega))) (by decide) ?_
        refine st_v (rv_assign rfl) (by decide) ?_
        refine st_nil ?_
        refine st_then ?_
        exact st_again (j + 1, _) (by omega) (by omega) (.cons rfl (.cons rfl (.cons rfl (SubE.cons (congrArg some (congrArg (fun z : Int => vI z) (by first | rfl | omega))) (.nil _))))) (fun _ hM => hM.sublist (List.Sublist.cons _ (List.Sublist.cons_cons _ (List.Sublist.cons_cons _ (List.Sublist.cons_cons _ (List.Sublist.slnil))))))
    · -- t49 False
      try simp only [z1, z2, z3, z4, z5, z6, z7, z8, z9, z10, z11, z12, z13, z14] at hc49
      obtain rfl : j = 16 := by omega
      refine st_exit ?_
      refine st_then_exit ?_
      refine st_then_exit ?_
      refine st_in_exit ?_
      refine st_then ?_
      refine st_seq ?_
      refine st_region ?_
      refine st_v (rv_move rfl) (by decide) ?_
      refine St.mem ?_ (fun w hM => Mem.pack (lm := stL U64 165 F 128 h0 b1 fp v2 x) (lf := [_]) (Mem.front (Mem.front hM (i := 1) rfl) (i := 2) rfl))
      refine st_callE (ρ := Value) (fun _ => .tuple #[]) (fun _ => True) (fun u => stM U64 165 F 128 h0 b1 fp u (x ++ endB x 128 16)) (fun _ => []) (i := 0) cal176 rfl rfl (fun w hM => (write64_calls b1 fp _ kv _ F hF h0 x (endB x 128 16) hh (by rw [hel]; omega) w (hM.at (i := 0) rfl) (famA_at hA hAS hM) (fun b hb => hM.offS (i := 0) rfl b (hAS b hb)) (Rd.n_eq ((rd_own (i := 1) rfl) w hM) hel.symm) (fun b hb => hM.offOf (i := 0) (j := 1) rfl rfl (by decide) b hb)).mono fun e w' ⟨u, h1, h2⟩ => ⟨u, h1, trivial, h2⟩) (by decide) (fun vz _ => ?_)
      refine St.mem ?_ (fun w hM => Mem.unpack (lm := stL U64 165 F 128 h0 b1 fp vz (x ++ endB x 128 16)) (lf := [_]) hM)
      refine st_nil ?_
      refine st_then ?_
      refine st_seq ?_
      refine st_region ?_
      refine st_v (rv_assign rfl) (by decide) ?_
      refine st_nil ?_
      refine st_then ?_
      refine st_seq ?_
      refine st_seq ?_
      refine st_region ?_
      refine st_v (rv_fieldAddr Tryd.underlying165 (fs := _) rfl sz163 rfl rfl) (by decide) ?_
      refine st_v (rv_loadA_blk tyA163 rfl (i := 0) rfl (by rw [size_stC (by simp only [length_fdH]; exact hh)]; decide) (stC_h (by simp only [length_fdH]; exact hh))) (by decide) ?_
      refine st_v (rv_move rfl) (by decide) ?_
      refine st_nil ?_
      refine st_then ?_
      refine st_block ?_
      refine st_ownNil8 5 1 ?_
      refine st_loopA (σ := Nat × Value) [(9, fun (i, u) => u), (74, kst _), (75, fun (i, u) => vI i)] [fun (i, u) => own u 5 1 (8 * i) ((hout (fdH F 128 h0 (x ++ endB x 128 16) ((x ++ endB x 128 16).length / 128)) i).map U8), kst _, kst _, kst _] (fun (i, u) => i ≤ 8) (fun (i, u) => 8 - i) (0, nilS) (by omega) (.cons rfl (.cons rfl (.cons rfl (.nil _)))) (fun _ hM => hM) ?_
      intro ⟨i, u⟩ hI
      try dsimp only at hI
      dsimp only [List.map, kst]
      refine st_seq ?_
      refine st_region ?_
      refine st_v (rv_lssZ rfl rfl) (by decide) ?_
      refine st_nil ?_
      refine st_then ?_
      refine st_seq ?_
      refine st_cond rfl (fun hc76 => ?_) (fun hc76 => ?_)
      · -- t76 True
        try simp only [z1, z2, z3, z4, z5, z6, z7, z8, z9, z10, z11, z12, z13, z14] at hc76
        refine st_skip ?_
        refine st_then ?_
        refine st_seq ?_
        refine st_block ?_
        refine st_seq ?_
        refine st_region ?_
        refine st_v (rv_indexV Tryd.underlying163 tyS77 rfl rfl rfl (by first | omega | (simp [length_fdH, hh] <;> omega)) (cell64 (by first | omega | (simp [length_fdH, hh] <;> omega)))) (by decide) ?_
        refine st_v (rv_assign rfl) (by decide) ?_
        refine st_nil ?_
        refine st_then ?_
        refine st_seq ?_
        refine st_region ?_
        refine st_call0 cal177 rfl (fun w hM => width64_calls w) (by decide) ?_
        first | refine st_v (rv_subN (b := 8) rfl rfl (by first | omega | (simp; done) | (simp; omega))) (by decide) ?_ | refine st_v (rv_subZ rfl rfl (by first | omega | (simp; done) | (simp; omega))) (by decide) ?_
        refine st_v (rv_assign rfl) (by decide) ?_
        refine st_nil ?_
        refine st_then ?_
        refine st_block ?_
        refine st_loopA (σ := Nat × Value) [(9, fun (j, y) => y), (11, kst _), (12, fun (j, y) => vI ((64 : Int) - 8 - 8 * j)), (74, kst _), (75, kst _)] [fun (j, y) => own y 5 1 (8 * i + j) ((wout (hout (fdH F 128 h0 (x ++ endB x 128 16) ((x ++ endB x 128 16).length / 128)) i) ((fdH F 128 h0 (x ++ endB x 128 16) ((x ++ endB x 128 16).length / 128)).getD i 0#64) j).map U8), kst _, kst _, kst _] (fun (j, y) => j ≤ 8) (fun (j, y) => 8 - j) (0, _) (by omega) (.cons rfl (.cons rfl (SubE.cons (congrArg some (congrArg (fun z : Int => vI z) (by first | rfl | omega))) (.cons rfl (.cons rfl (.nil _)))))) (fun _ hM => hM) ?_
        intro ⟨j, y⟩ hI
        try dsimp only at hI
        dsimp only [List.map, kst]
        refine st_seq ?_
        refine st_seq ?_
        refine st_region ?_
        refine st_v (rv_move rfl) (by decide) ?_
        refine st_v (rv_geqZ rfl rfl) (by decide) ?_
        refine st_nil ?_
        refine st_then ?_
        refine st_cond rfl (fun hc81 => ?_) (fun hc81 => ?_)
        · -- t81 True
          try simp only [z1, z2, z3, z4, z5, z6, z7, z8, z9, z10, z11, z12, z13, z14] at hc81
          rw [show ((64 : Int) - 8 - 8 * j) = ((64 - 8 - 8 * j : Nat) : Int) by omega]
          refine st_skip ?_
          refine st_then ?_
          refine st_seq ?_
          refine st_block ?_
          refine st_region ?_
          refine st_v (rv_move rfl) (by decide) ?_
          refine st_v (rv_move rfl) (by decide) ?_
          refine st_v (rv_move rfl) (by decide) ?_
          refine st_v (rv_shr64 rfl rfl rfl) (by decide) ?_
          refine st_v (rv_conv64to8 Tryd.underlying77 Tryd.underlying5 rfl) (by decide) ?_
          refine st_buildSlice Tryd.underlying22 tyZ5 rfl rfl (by decide) (cs := #[_]) rfl (by decide) (fun b6 hb6 => ?_)
          refine st_append8 Tryd.underlying22 Tryd.underlying22 (.inr ⟨_, rfl⟩) tyZ5 rfl rfl rfl (i := 1) rfl (fun w hM => src_rd ((rd_l8 (q := [_]) (len := 1) (i := 0) rfl rfl rfl (by omega)) w hM) (one8 _)) (by first | omega | simp) (by first | omega | simp) (by decide) (fun vo => ?_)
          refine st_v (rv_assign rfl) (by decide) ?_
          refine st_nil ?_
          refine st_in_normal ?_
          refine st_then ?_
          refine st_region ?_
          refine st_v (rv_move rfl) (by decide) ?_
          first | refine st_v (rv_subN (b := 8) rfl rfl (by first | omega | (simp; done) | (simp; omega))) (by decide) ?_ | refine st_v (rv_subZ rfl rfl (by first | omega | (simp; done) | (simp; omega))) (by decide) ?_
          refine st_v (rv_assign rfl) (by decide) ?_
          refine st_nil ?_
          refine st_then ?_
          exact st_again (j + 1, _) (by omega) (by omega) (.cons rfl (.cons rfl (SubE.cons (congrArg some (congrArg (fun z : Int => vI z) (by first | rfl | omega))) (.cons rfl (.cons rfl (.nil _)))))) (fun _ hM => hM.sublist (List.Sublist.cons _ (List.Sublist.cons_cons _ (List.Sublist.cons_cons _ (List.Sublist.cons_cons _ (List.Sublist.cons_cons _ (List.Sublist.slnil)))))))
        · -- t81 False
          try simp only [z1, z2, z3, z4, z5, z6, z7, z8, z9, z10, z11, z12, z13, z14] at hc81
          obtain rfl : j = 8 := by omega
          refine st_exit ?_
          refine st_then_exit ?_
          refine st_then_exit ?_
          refine st_in_exit ?_
          refine st_in_normal ?_
          refine st_then ?_
          refine st_region ?_
          first | refine st_v (rv_addN (b := 1) rfl rfl (by first | omega | (simp; done) | (simp; omega))) (by decide) ?_ | refine st_v (rv_addZ rfl rfl (by first | omega | (simp; done) | (simp; omega))) (by decide) ?_
          refine st_v (rv_move rfl) (by decide) ?_
          refine st_nil ?_
          refine st_then ?_
          exact st_again (i + 1, _) (by omega) (by omega) (.cons rfl (.cons rfl (.cons rfl (.nil _)))) (fun _ hM => hM)
      · -- t76 False
        try simp only [z1, z2, z3, z4, z5, z6, z7, z8, z9, z10, z11, z12, z13, z14] at hc76
        obtain rfl : i = 8 := by omega
        refine st_exit ?_
        refine st_then_exit ?_
        refine st_then_exit ?_
        refine st_in_exit ?_
        refine st_then ?_
        refine st_seq ?_
        refine st_region ?_
        refine st_v (rv_move rfl) (by decide) ?_
        refine st_v (rv_assign rfl) (by decide) ?_
        refine st_nil ?_
        refine st_then ?_
        refine st_ret ?_
        exact st_done rfl rfl (fun w hM => ⟨_, rfl, hM.sublist (List.cons_sublist_cons.2 (List.nil_sublist _))⟩)
end Go.Proofs.YtjhjjhpfjadjpaaDoor
