/- Walks: what functions of the given program do, operation by operation. Written by wip/gen. -/
import Derived.Test.YtjhjjhpfjadjpaaDoorRC
namespace Go.Proofs.YtjhjjhpfjadjpaaDoor
set_option linter.all false
open Go
theorem e255 : 2 ^ 255 - 19 = pP := by decide +kernel
theorem lt255 : (2 : Nat) ^ 255 < W32 ^ 8 := by decide +kernel
theorem le255 : 19 ≤ (2 : Nat) ^ 255 := by decide +kernel
set_option maxRecDepth 20000 in
theorem rMakeP_calls (w : World) : Calls Tryd.prog 104 #[vI (0 : Nat)] w (fun e w' => ∃ r, e = .returned (.agg #[r]) ∧ Mem (All w) w w' [own r 91 1 (8) ((n32 (8) (pP)).map U32)]) := by
  refine calls_of_st (n := 38) (args := [vI (0 : Nat)]) Tryd.func104 rfl Tryd.ntmps104 (Nat.le_of_ble_eq_true rfl) (Mem.all w) ?_
  refine st_seq ?_
  refine st_region ?_
  refine st_alloc tyZ93 (by decide) (cs := #[.slice none 0 0]) (rfl) (fun b1 hb1 => ?_)
  refine st_nil ?_
  refine st_then ?_
  refine st_seq ?_
  refine st_region ?_
  refine st_v (rv_assign rfl) (by decide) ?_
  refine st_nil ?_
  refine st_then ?_
  refine st_seq ?_
  refine st_seq ?_
  refine st_region ?_
  refine st_v (rv_move rfl) (by decide) ?_
  refine st_nil ?_
  refine st_then ?_
  refine st_block ?_
  refine st_seq ?_
  refine st_region ?_
  refine st_v (rv_eqlZ rfl rfl) (by decide) ?_
  refine st_v (rv_assign rfl) (by decide) ?_
  refine st_nil ?_
  refine st_then ?_
  refine st_true rfl ?_
  refine st_region ?_
  refine st_call1 (ρ := Value) (fun r => r) (fun _ => True) (fun r => [own r 91 1 (8) ((n32 (8) (2 ^ 255)).map U32)]) cal131 rfl (fun w hM => ((power255_calls w)).mono fun e w' ⟨r, h1, h2⟩ => ⟨r, h1, trivial, h2⟩) (by decide) (fun r2 _ => ?_)
  refine st_buildSlice Tryd.underlying36 tyZ91 rfl rfl (by decide) (cs := #[U32 19#32]) rfl (by decide) (fun b3 hb3 => ?_)
  refine st_call1 (ρ := Value) (fun r => r) (fun _ => True) (fun r => [own r 91 1 (8) ((n32 (8) (2 ^ 255 - 19)).map U32)]) cal108 rfl (fun w hM => ((rminus_calls _ _ 8 1 (2 ^ 255) 19 (by decide) (by decide) lt255 (by decide) le255 w ((rd_own (i := 1) rfl) w hM) ((rd_l32 (q := [_]) (len := 1) (i := 0) rfl rfl rfl (by omega)) w hM))).mono fun e w' ⟨r, h1, h2⟩ => ⟨r, h1, trivial, h2⟩) (by decide) (fun r4 _ => ?_)
  refine st_v (rv_assign rfl) (by decide) ?_
  refine st_nil ?_
  refine st_in_normal ?_
  refine st_then ?_
  refine st_seq ?_
  refine st_region ?_
  refine st_v (rv_move rfl) (by decide) ?_
  refine st_call1 (ρ := Value) (fun r => r) (fun _ => True) (fun r => [own r 91 1 (8) ((n32 (8) (pP)).map U32)]) cal133 rfl (fun w hM => ((eight_calls _ 8 pP goodP.g8 w (e255 ▸ ((rd_own (i := 0) rfl) w hM)))).mono fun e w' ⟨r, h1, h2⟩ => ⟨r, h1, trivial, h2⟩) (by decide) (fun r5 _ => ?_)
  refine St.know (fun w hM => cells_rd ((rd_own (i := 0) rfl) w hM)) (fun hcl38 => ?_)
  refine st_v (rv_buildStruct_of Tryd.underlying93 tyZ93 (places := [(0, 1)]) (by kernel_rfl) rfl (cs := #[_]) (by first | rfl | (simp only [fillL, hcl38] <;> rfl))) (by decide) ?_
  refine St.know (fun w hM => ownOne (i := 0) rfl hM) (fun hsf40 => ?_)
  refine st_store (vs := [_]) rfl rfl (i := 4) rfl sz93 rfl (Nat.le_of_ble_eq_true rfl) (one1 hsf40) (cs' := #[_]) rfl (l' := [_, _, _, _, _]) rfl ?_
  refine st_nil ?_
  refine st_then ?_
  refine st_ret ?_
  exact st_doneC tyA93 rfl rfl (i := 4) rfl (rfl) (fun w hM => ⟨_, rfl, (Mem.sublist (Mem.front hM (i := 0) rfl) (List.Sublist.cons_cons _ ((List.nil_sublist _))))⟩)
set_option maxRecDepth 20000 in
theorem rP_calls (w : World) : Calls Tryd.prog 63 #[] w (fun e w' => ∃ r, e = .returned (.agg #[r]) ∧ Mem (All w) w w' [own r 91 1 (8) ((n32 (8) (pP)).map U32)]) := by
  refine calls_of_st (n := 2) (args := []) Tryd.func63 rfl Tryd.ntmps63 (Nat.le_of_ble_eq_true rfl) (Mem.all w) ?_
  refine st_seq ?_
  refine st_region ?_
  refine st_alloc tyZ93 (by decide) (cs := #[.slice none 0 0]) (rfl) (fun b1 hb1 => ?_)
  refine st_nil ?_
  refine st_then ?_
  refine st_seq ?_
  refine st_region ?_
  refine st_call1 (ρ := Value) (fun r => .agg #[r]) (fun _ => True) (fun r => [own r 91 1 (8) ((n32 (8) (pP)).map U32)]) cal104 rfl (fun w hM => ((rMakeP_calls w)).mono fun e w' ⟨r, h1, h2⟩ => ⟨r, h1, trivial, h2⟩) (by decide) (fun r2 _ => ?_)
  refine St.know (fun w hM => ownOne (i := 0) rfl hM) (fun hsf10 => ?_)
  refine st_store (vs := [_]) rfl rfl (i := 1) rfl sz93 rfl (Nat.le_of_ble_eq_true rfl) (one1 hsf10) (cs' := #[_]) rfl (l' := [_, _]) rfl ?_
  refine st_nil ?_
  refine st_then ?_
  refine st_ret ?_
  exact st_doneC tyA93 rfl rfl (i := 1) rfl (rfl) (fun w hM => ⟨_, rfl, (Mem.sublist (Mem.front hM (i := 0) rfl) (List.Sublist.cons_cons _ ((List.nil_sublist _))))⟩)
set_option maxRecDepth 20000 in
set_option maxHeartbeats 4000000 in
theorem FInv_calls {m g : Nat} [NeZero m] (hG : Gen m g) (hg : Good m) (vp v : Value) (x : Fin m) (w : World) (hP : Rd w vp 8 1 ((n32 8 m).map U32)) (hA : Rd w v 8 1 ((n32 8 x.val).map U32)) : Calls Tryd.prog 68 #[.agg #[vp], v] w (fun e w' => ∃ r, e = .returned r ∧ Mem (All w) w w' [own r 91 1 (8) ((n32 (8) ((finv x).val)).map U32)]) := by
  have hm7 := hg.g7
  have hm8 := hg.g8
  have hmo := hg.odd
  have hx8 : x.val < W32 ^ 8 := by have := x.isLt; omega
  refine calls_of_st (n := 72) (args := [.agg #[vp], v]) Tryd.func68 rfl Tryd.ntmps68 (Nat.le_of_ble_eq_true rfl) (Mem.kept2 hA hP) ?_
  refine st_seq ?_
  refine st_region ?_
  refine st_box rfl (by decide) rfl (fun b1 hb1 => ?_)
  refine st_v (rv_assign rfl) (by decide) ?_
  refine st_nil ?_
  refine st_then ?_
  refine st_seq ?_
  refine st_region ?_
  refine st_v (rv_move rfl) (by decide) ?_
  refine st_call0 cal65 rfl (fun w hM => (rZero_calls _ 8 x.val (by decide) hx8 w ((rd_rd (i := 1) rfl) w hM))) (by decide) ?_
  refine st_v (rv_assign rfl) (by decide) ?_
  refine st_nil ?_
  refine st_then ?_
  refine st_seq ?_
  refine st_seq ?_
  refine st_region ?_
  refine st_v (rv_move rfl) (by decide) ?_
  refine st_nil ?_
  refine st_then ?_
  refine st_cond rfl (fun hc13 => ?_) (fun hc13 => ?_)
  · -- t13 True
    try simp only [z1, z2, z3, z4, z5, z6, z7, z8, z9, z10, z11, z12, z13, z14] at hc13
    have hx0 : x = 0 := Fin.ext hc13
    refine st_seq ?_
    refine st_region ?_
    refine st_call1 (ρ := Value) (fun r => r) (fun _ => True) (fun r => [own r 91 1 (8) ((n32 (8) (0)).map U32)]) cal62 rfl (fun w hM => ((rSmall_calls 0 (by decide) w)).mono fun e w' ⟨r, h1, h2⟩ => ⟨r, h1, trivial, h2⟩) (by decide) (fun r2 _ => ?_)
    refine st_v (rv_assign rfl) (by decide) ?_
    refine st_nil ?_
    refine st_then ?_
    refine st_ret ?_
    refine st_then_ret ?_
    exact st_done rfl rfl (fun w hM => ⟨_, rfl, by (have h1 := Mem.leave2 (Mem.sublist (Mem.front (Mem.front (Mem.front hM (i := 6) rfl) (i := 6) rfl) (i := 2) rfl) (List.Sublist.cons_cons _ (List.Sublist.cons_cons _ (List.Sublist.cons_cons _ ((List.nil_sublist _)))))) own_turn); rw [show 0 = (finv x).val by rw [hx0, finv_zero (by have := hg.ge; omega), val0]] at h1; exact h1⟩)
  · -- t13 False
    try simp only [z1, z2, z3, z4, z5, z6, z7, z8, z9, z10, z11, z12, z13, z14] at hc13
    have hx0 : 0 < x.val := Nat.pos_of_ne_zero hc13
    refine st_skip ?_
    refine st_then ?_
    refine st_seq ?_
    refine st_region ?_
    refine st_v (rv_move rfl) (by decide) ?_
    refine st_v (rv_assign rfl) (by decide) ?_
    refine st_nil ?_
    refine st_then ?_
    refine st_seq ?_
    refine st_region ?_
    refine st_v (rv_fieldAddr (k := 0) Tryd.underlying93 (fs := _) rfl sz36 rfl rfl) (by decide) ?_
    refine st_v (rv_load_blk tyS36 rfl (i := 0) rfl rfl) (by decide) ?_
    refine st_v (rv_assign rfl) (by decide) ?_
    refine st_nil ?_
    refine st_then ?_
    refine st_seq ?_
    refine st_region ?_
    refine st_call1 (ρ := Value) (fun r => r) (fun _ => True) (fun r => [own r 91 1 (8) ((n32 (8) (1)).map U32)]) cal62 rfl (fun w hM => ((rSmall_calls 1 (by decide) w)).mono fun e w' ⟨r, h1, h2⟩ => ⟨r, h1, trivial, h2⟩) (by decide) (fun r3 _ => ?_)
    refine st_v (rv_assign rfl) (by decide) ?_
    refine st_nil ?_
    refine st_then ?_
    refine st_seq ?_
    refine st_region ?_
    refine st_call1 (ρ := Value) (fun r => r) (fun _ => True) (fun r => [own r 91 1 (8) ((n32 (8) (0)).map U32)]) cal62 rfl (fun w hM => ((rSmall_calls 0 (by decide) w)).mono fun e w' ⟨r, h1, h2⟩ => ⟨r, h1, trivial, h2⟩) (by decide) (fun r4 _ => ?_)
    refine st_v (rv_assign rfl) (by decide) ?_
    refine st_nil ?_
    refine st_then ?_
    refine st_block ?_
    refine st_loopA (σ := Nat × Nat × Nat × Nat × Value × Value × Value × Value) [(2, kst _), (6, fun (a, b, c, d, va, vb, vu, vv) => va), (7, fun (a, b, c, d, va, vb, vu, vv) => vb), (8, fun (a, b, c, d, va, vb, vu, vv) => vu), (9, fun (a, b, c, d, va, vb, vu, vv) => vv)] [fun (a, b, c, d, va, vb, vu, vv) => own vv 91 1 (8) ((n32 (8) (d)).map U32), fun (a, b, c, d, va, vb, vu, vv) => own vu 91 1 (8) ((n32 (8) (c)).map U32), kst _, fun (a, b, c, d, va, vb, vu, vv) => rdA va 8 1 ((n32 8 a).map U32), fun (a, b, c, d, va, vb, vu, vv) => rdA vb 8 1 ((n32 8 b).map U32), kst _, kst _, kst _] (fun (a, b, c, d, va, vb, vu, vv) => InvI m x.val a b c d) (fun (a, b, c, d, va, vb, vu, vv) => a + b) (x.val, m, 1, 0, _, _, _, _) (InvI.start hG.prime hx0 x.isLt hm8) (.cons rfl (.cons rfl (.cons rfl (.cons rfl (.cons rfl (.nil _)))))) (fun _ hM => hM) ?_
    intro ⟨a, b, c, d, va, vb, vu, vv⟩ hI
    try dsimp only at hI
    dsimp only [List.map, kst]
    refine st_block ?_
    refine st_block ?_
    refine st_seq ?_
    refine st_region ?_
    refine st_v (rv_move rfl) (by decide) ?_
    refine st_v (rv_indexR1 (rd_rd (i := 3) rfl) Tryd.underlying36 sz91 rfl rfl (j := 0) rfl (by first | omega | (simp <;> omega))) (by decide) ?_
    refine st_v (rv_load_rd (rd_rd (i := 3) rfl) tyS91 rfl (get32 (by first | omega | (simp <;> omega)))) (by decide) ?_
    refine st_v (rv_eql32 (b := 1#32) rfl rfl) (by decide) ?_
    refine st_v (rv_move rfl) (by decide) ?_
    refine' st_and 4 (L := _) (s := 40) (d := 44) [2, 6, 7, 8, 9] rfl (fun hg5 => ?_) (fun _ => ?_) ?_; rotate_left
    · -- true
      try simp only [decide_eq_true_eq, decide_eq_false_iff_not, Bool.and_eq_true, Bool.not_eq_true] at hg5
      refine st_gon rfl rfl ?_
      refine st_v (rv_move rfl) (by decide) ?_
      refine st_gon rfl rfl ?_
      refine st_v (rv_sliceR (rd_rd (i := 3) rfl) Tryd.underlying36 sz91 rfl (evB_some (k := 1) rfl rfl) evB_none (by first | omega | (simp <;> omega)) (by first | omega | (simp <;> omega))) (by decide) ?_
      refine st_gon rfl rfl ?_
      refine st_call0 cal65 rfl (fun w hM => (rZero_calls _ 7 (a / W32) (by decide) (tail_lt hI.al) w (((rd_rd (i := 3) rfl) w hM).part32 (by first | omega | (simp <;> omega)) (by first | omega | (simp <;> omega))))) (by decide) ?_
      first | refine st_v (rv_pick_true rfl rfl) (by decide) ?_ | refine st_v (rv_pick_false rfl rfl) (by decide) ?_ | refine st_v (rv_pick rfl rfl rfl) (by decide) ?_
      refine st_nil ?_
      exact st_meet_b (.cons rfl (.cons rfl (.cons rfl (.cons rfl (.cons rfl (.cons rfl (.nil _)))))))
    · -- false
      refine st_gskip rfl rfl rfl (by decide) ?_
      refine st_gskip rfl rfl rfl (by decide) ?_
      refine st_gskip rfl rfl rfl (by decide) ?_
      first | refine st_v (rv_pick_true rfl rfl) (by decide) ?_ | refine st_v (rv_pick_false rfl rfl) (by decide) ?_ | refine st_v (rv_pick rfl rfl rfl) (by decide) ?_
      refine st_nil ?_
      exact st_meet_b (.cons rfl (.cons rfl (.cons rfl (.cons rfl (.cons rfl (.cons rfl (.nil _)))))))
    refine st_v (rv_assign rfl) (by decide) ?_
    refine st_nil ?_
    refine st_then ?_
    refine st_cond rfl (fun hc35 => ?_) (fun hc35 => ?_)
    · -- t35 True
      try simp only [z1, z2, z3, z4, z5, z6, z7, z8, z9, z10, z11, z12, z13, z14] at hc35
      have ha1 := (one_of hI.al).1 hc35
      subst ha1
      have hfin := hI.done hG
      refine st_seq ?_
      refine st_region ?_
      refine st_v (rv_move rfl) (by decide) ?_
      refine st_v (rv_assign rfl) (by decide) ?_
      refine st_nil ?_
      refine st_then ?_
      refine st_ret ?_
      refine st_in_ret ?_
      refine st_in_ret ?_
      refine st_then_ret ?_
      refine st_in_ret ?_
      exact st_done rfl rfl (fun w hM => ⟨_, rfl, by (have h1 := Mem.leave2 (Mem.sublist (Mem.front (Mem.front (Mem.front hM (i := 7) rfl) (i := 7) rfl) (i := 3) rfl) (List.Sublist.cons_cons _ (List.Sublist.cons_cons _ (List.Sublist.cons_cons _ ((List.nil_sublist _)))))) own_turn); rw [hfin] at h1; exact h1⟩)
    · -- t35 False
      try simp only [z1, z2, z3, z4, z5, z6, z7, z8, z9, z10, z11, z12, z13, z14] at hc35
      have ha1 : a ≠ 1 := fun e => hc35.elim (fun k => k ((one_of hI.al).2 e).1) (fun k => k ((one_of hI.al).2 e).2)
      refine st_seq ?_
      refine st_region ?_
      refine st_v (rv_move rfl) (by decide) ?_
      refine st_v (rv_indexR1 (rd_rd (i := 3) rfl) Tryd.underlying36 sz91 rfl rfl (j := 0) rfl (by first | omega | (simp <;> omega))) (by decide) ?_
      refine st_v (rv_load_rd (rd_rd (i := 3) rfl) tyS91 rfl (get32 (by first | omega | (simp <;> omega)))) (by decide) ?_
      refine st_v (rv_and32 (b := 1#32) rfl rfl) (by decide) ?_
      refine st_v (rv_eql32 (b := 0#32) rfl rfl) (by decide) ?_
      refine st_v (rv_assign rfl) (by decide) ?_
      refine st_nil ?_
      refine st_then ?_
      refine st_cond rfl (fun hc46 => ?_) (fun hc46 => ?_)
      · -- t46 True
        try simp only [z1, z2, z3, z4, z5, z6, z7, z8, z9, z10, z11, z12, z13, z14] at hc46
        have hae := (even_of hI.al).1 hc46
        refine st_seq ?_
        refine st_region ?_
        refine st_call1 (ρ := Value) (fun r => r) (fun _ => True) (fun r => [own r 91 1 (8) ((n32 (8) (0)).map U32)]) cal62 rfl (fun w hM => ((rSmall_calls 0 (by decide) w)).mono fun e w' ⟨r, h1, h2⟩ => ⟨r, h1, trivial, h2⟩) (by decide) (fun r5 _ => ?_)
        refine St.know (fun w hM => cells_rd ((rd_own (i := 0) rfl) w hM)) (fun hcl142 => ?_)
        refine st_v (rv_buildStruct_of Tryd.underlying93 tyZ93 (places := [(0, 1)]) (by kernel_rfl) rfl (cs := #[_]) (by first | rfl | (simp only [fillL, hcl142] <;> rfl))) (by decide) ?_
        refine st_v (rv_move rfl) (by decide) ?_
        refine st_call1 (ρ := Value) (fun r => r) (fun _ => True) (fun r => [own r 91 1 (8) ((n32 (8) (hlf (0) (a))).map U32)]) cal109 rfl (fun w hM => ((half_calls _ _ (0) (a) (by decide) hI.al w ((rd_own (i := 0) rfl) w hM) ((rd_rd (i := 4) rfl) w hM))).mono fun e w' ⟨r, h1, h2⟩ => ⟨r, h1, trivial, h2⟩) (by decide) (fun r6 _ => ?_)
        refine st_v (rv_assign rfl) (by decide) ?_
        refine st_nil ?_
        refine st_then ?_
        refine st_region ?_
        refine st_v (rv_loadW_blk tyA93 rfl (i := 4) rfl rfl) (by decide) ?_
        refine st_v (rv_move rfl) (by decide) ?_
        refine st_call1 (ρ := Value) (fun r => r) (fun _ => True) (fun r => [own r 91 1 (8) ((n32 (8) (hlf (m) (c))).map U32)]) cal109 rfl (fun w hM => ((half_calls _ _ (m) (c) hm8 (Nat.lt_trans hI.cl hm8) w ((rd_rd (i := 7) rfl) w hM) ((rd_own (i := 3) rfl) w hM))).mono fun e w' ⟨r, h1, h2⟩ => ⟨r, h1, trivial, h2⟩) (by decide) (fun r7 _ => ?_)
        refine st_v (rv_assign rfl) (by decide) ?_
        refine st_nil ?_
        refine st_in_normal ?_
        refine st_in_normal ?_
        refine st_then ?_
        exact st_again (a / 2, b, hlf m c, d, _, _, _, _) (hI.evenA hmo hae) (by have h1 := hI.a0; have h2 := hI.b0; dsimp only; omega) (.cons rfl (.cons rfl (.cons rfl (.cons rfl (.cons rfl (.nil _)))))) (by intro w hM; have hM := (Mem.front (Mem.front (Mem.front (Mem.front (Mem.front (Mem.front (Mem.front (Mem.front (Mem.toRd hM (i := 1) rfl) (i := 10) rfl) (i := 10) rfl) (i := 10) rfl) (i := 10) rfl) (i := 5) rfl) (i := 9) rfl) (i := 6) rfl) (i := 8) rfl); have hM := hM.sublist (List.Sublist.cons_cons _ (List.Sublist.cons_cons _ (List.Sublist.cons_cons _ (List.Sublist.cons_cons _ (List.Sublist.cons_cons _ (List.Sublist.cons_cons _ (List.Sublist.cons_cons _ (List.Sublist.cons_cons _ ((List.nil_sublist _)))))))))); (try rw [hlf_zero] at hM); exact hM)
      · -- t46 False
        try simp only [z1, z2, z3, z4, z5, z6, z7, z8, z9, z10, z11, z12, z13, z14] at hc46
        refine st_seq ?_
        refine st_region ?_
        refine st_v (rv_move rfl) (by decide) ?_
        refine st_v (rv_indexR1 (rd_rd (i := 4) rfl) Tryd.underlying36 sz91 rfl rfl (j := 0) rfl (by first | omega | (simp <;> omega))) (by decide) ?_
        refine st_v (rv_load_rd (rd_rd (i := 4) rfl) tyS91 rfl (get32 (by first | omega | (simp <;> omega)))) (by decide) ?_
        refine st_v (rv_and32 (b := 1#32) rfl rfl) (by decide) ?_
        refine st_v (rv_eql32 (b := 0#32) rfl rfl) (by decide) ?_
        refine st_v (rv_assign rfl) (by decide) ?_
        refine st_nil ?_
        refine st_then ?_
        refine st_cond rfl (fun hc59 => ?_) (fun hc59 => ?_)
        · -- t59 True
          try simp only [z1, z2, z3, z4, z5, z6, z7, z8, z9, z10, z11, z12, z13, z14] at hc59
          have hbe := (even_of hI.bl).1 hc59
          refine st_seq ?_
          refine st_region ?_
          refine st_call1 (ρ := Value) (fun r => r) (fun _ => True) (fun r => [own r 91 1 (8) ((n32 (8) (0)).map U32)]) cal62 rfl (fun w hM => ((rSmall_calls 0 (by decide) w)).mono fun e w' ⟨r, h1, h2⟩ => ⟨r, h1, trivial, h2⟩) (by decide) (fun r8 _ => ?_)
          refine St.know (fun w hM => cells_rd ((rd_own (i := 0) rfl) w hM)) (fun hcl178 => ?_)
          refine st_v (rv_buildStruct_of Tryd.underlying93 tyZ93 (places := [(0, 1)]) (by kernel_rfl) rfl (cs := #[_]) (by first | rfl | (simp only [fillL, hcl178] <;> rfl))) (by decide) ?_
          refine st_v (rv_move rfl) (by decide) ?_
          refine st_call1 (ρ := Value) (fun r => r) (fun _ => True) (fun r => [own r 91 1 (8) ((n32 (8) (hlf (0) (b))).map U32)]) cal109 rfl (fun w hM => ((half_calls _ _ (0) (b) (by decide) hI.bl w ((rd_own (i := 0) rfl) w hM) ((rd_rd (i := 5) rfl) w hM))).mono fun e w' ⟨r, h1, h2⟩ => ⟨r, h1, trivial, h2⟩) (by decide) (fun r9 _ => ?_)
          refine st_v (rv_assign rfl) (by decide) ?_
          refine st_nil ?_
          refine st_then ?_
          refine st_region ?_
          refine st_v (rv_loadW_blk tyA93 rfl (i := 4) rfl rfl) (by decide) ?_
          refine st_v (rv_move rfl) (by decide) ?_
          refine st_call1 (ρ := Value) (fun r => r) (fun _ => True) (fun r => [own r 91 1 (8) ((n32 (8) (hlf (m) (d))).map U32)]) cal109 rfl (fun w hM => ((half_calls _ _ (m) (d) hm8 (Nat.lt_trans hI.dl hm8) w ((rd_rd (i := 7) rfl) w hM) ((rd_own (i := 2) rfl) w hM))).mono fun e w' ⟨r, h1, h2⟩ => ⟨r, h1, trivial, h2⟩) (by decide) (fun r10 _ => ?_)
          refine st_v (rv_assign rfl) (by decide) ?_
          refine st_nil ?_
          refine st_in_normal ?_
          refine st_in_normal ?_
          refine st_then ?_
          exact st_again (a, b / 2, c, hlf m d, _, _, _, _) (hI.evenB hmo hbe) (by have h1 := hI.a0; have h2 := hI.b0; dsimp only; omega) (.cons rfl (.cons rfl (.cons rfl (.cons rfl (.cons rfl (.nil _)))))) (by intro w hM; have hM := (Mem.front (Mem.front (Mem.front (Mem.front (Mem.front (Mem.front (Mem.front (Mem.front (Mem.toRd hM (i := 1) rfl) (i := 10) rfl) (i := 10) rfl) (i := 10) rfl) (i := 4) rfl) (i := 9) rfl) (i := 9) rfl) (i := 9) rfl) (i := 7) rfl); have hM := hM.sublist (List.Sublist.cons_cons _ (List.Sublist.cons_cons _ (List.Sublist.cons_cons _ (List.Sublist.cons_cons _ (List.Sublist.cons_cons _ (List.Sublist.cons_cons _ (List.Sublist.cons_cons _ (List.Sublist.cons_cons _ ((List.nil_sublist _)))))))))); (try rw [hlf_zero] at hM); exact hM)
        · -- t59 False
          try simp only [z1, z2, z3, z4, z5, z6, z7, z8, z9, z10, z11, z12, z13, z14] at hc59
          refine st_seq ?_
          refine st_region ?_
          refine st_v (rv_move rfl) (by decide) ?_
          refine st_v (rv_move rfl) (by decide) ?_
          refine st_call0 cal70 rfl (fun w hM => (rLess_calls _ _ 8 8 a b (by decide) (by decide) hI.al hI.bl w ((rd_rd (i := 3) rfl) w hM) ((rd_rd (i := 4) rfl) w hM))) (by decide) ?_
          refine st_v (rv_assign rfl) (by decide) ?_
          refine st_nil ?_
          refine st_then ?_
          refine st_seq ?_
          refine st_seq ?_
          refine st_region ?_
          refine st_v (rv_move rfl) (by decide) ?_
          refine st_nil ?_
          refine st_then ?_
          refine st_cond rfl (fun hc23 => ?_) (fun hc23 => ?_)
          · -- t23 True
            try simp only [z1, z2, z3, z4, z5, z6, z7, z8, z9, z10, z11, z12, z13, z14] at hc23
            have hlt : a < b := hc23
            refine st_seq ?_
            refine st_region ?_
            refine st_v (rv_move rfl) (by decide) ?_
            refine st_v (rv_move rfl) (by decide) ?_
            refine st_v (rv_assign rfl) (by decide) ?_
            refine st_v (rv_assign rfl) (by decide) ?_
            refine st_nil ?_
            refine st_then ?_
            refine st_region ?_
            refine st_v (rv_move rfl) (by decide) ?_
            refine st_v (rv_move rfl) (by decide) ?_
            refine st_v (rv_assign rfl) (by decide) ?_
            refine st_v (rv_assign rfl) (by decide) ?_
            refine st_nil ?_
            refine st_then ?_
            refine st_seq ?_
            refine st_region ?_
            refine st_v (rv_move rfl) (by decide) ?_
            refine st_v (rv_move rfl) (by decide) ?_
            refine st_call1 (ρ := Value) (fun r => r) (fun _ => True) (fun r => [own r 91 1 (8) ((n32 (8) (b - a)).map U32)]) cal108 rfl (fun w hM => ((rminus_calls _ _ 8 8 b a (by decide) (by decide) hI.bl hI.al (Nat.le_of_lt hlt) w ((rd_rd (i := 4) rfl) w hM) ((rd_rd (i := 3) rfl) w hM))).mono fun e w' ⟨r, h1, h2⟩ => ⟨r, h1, trivial, h2⟩) (by decide) (fun r11 _ => ?_)
            refine st_v (rv_assign rfl) (by decide) ?_
            refine st_nil ?_
            refine st_then ?_
            refine st_region ?_
            refine st_v (rv_loadW_blk tyA93 rfl (i := 3) rfl rfl) (by decide) ?_
            refine st_v (rv_move rfl) (by decide) ?_
            refine st_v (rv_move rfl) (by decide) ?_
            refine st_call1 (ρ := Value) (fun r => r) (fun _ => True) (fun r => [own r 91 1 (8) ((n32 (8) ((d + (m - c)) % m)).map U32)]) cal67 rfl (fun w hM => ((FSub_calls _ _ _ m d c hm7 hm8 hI.dl hI.cl w ((rd_rd (i := 6) rfl) w hM) ((rd_own (i := 1) rfl) w hM) ((rd_own (i := 2) rfl) w hM))).mono fun e w' ⟨r, h1, h2⟩ => ⟨r, h1, trivial, h2⟩) (by decide) (fun r12 _ => ?_)
            refine st_v (rv_assign rfl) (by decide) ?_
            refine st_nil ?_
            refine st_in_normal ?_
            refine st_in_normal ?_
            refine st_then ?_
            exact st_again (b - a, a, (d + (m - c)) % m, c, _, _, _, _) (hI.swap.sub (Nat.le_of_lt hlt) (by omega)) (by have h1 := hI.a0; have h2 := hI.b0; dsimp only; omega) (.cons rfl (.cons rfl (.cons rfl (.cons rfl (.cons rfl (.nil _)))))) (by intro w hM; have hM := (Mem.front (Mem.front (Mem.front (Mem.front (Mem.front (Mem.front (Mem.front (Mem.front (Mem.toRd hM (i := 1) rfl) (i := 9) rfl) (i := 9) rfl) (i := 9) rfl) (i := 8) rfl) (i := 5) rfl) (i := 8) rfl) (i := 6) rfl) (i := 8) rfl); have hM := hM.sublist (List.Sublist.cons_cons _ (List.Sublist.cons_cons _ (List.Sublist.cons_cons _ (List.Sublist.cons_cons _ (List.Sublist.cons_cons _ (List.Sublist.cons_cons _ (List.Sublist.cons_cons _ (List.Sublist.cons_cons _ ((List.nil_sublist _)))))))))); (try rw [hlf_zero] at hM); exact hM)
          · -- t23 False
            try simp only [z1, z2, z3, z4, z5, z6, z7, z8, z9, z10, z11, z12, z13, z14] at hc23
            have hlt : ¬ a < b := hc23
            refine st_skip ?_
            refine st_then ?_
            refine st_seq ?_
            refine st_region ?_
            refine st_v (rv_move rfl) (by decide) ?_
            refine st_v (rv_move rfl) (by decide) ?_
            refine st_call1 (ρ := Value) (fun r => r) (fun _ => True) (fun r => [own r 91 1 (8) ((n32 (8) (a - b)).map U32)]) cal108 rfl (fun w hM => ((rminus_calls _ _ 8 8 a b (by decide) (by decide) hI.al hI.bl (Nat.le_of_not_lt hlt) w ((rd_rd (i := 3) rfl) w hM) ((rd_rd (i := 4) rfl) w hM))).mono fun e w' ⟨r, h1, h2⟩ => ⟨r, h1, trivial, h2⟩) (by decide) (fun r13 _ => ?_)
            refine st_v (rv_assign rfl) (by decide) ?_
            refine st_nil ?_
            refine st_then ?_
            refine st_region ?_
            refine st_v (rv_loadW_blk tyA93 rfl (i := 3) rfl rfl) (by decide) ?_
            refine st_v (rv_move rfl) (by decide) ?_
            refine st_v (rv_move rfl) (by decide) ?_
            refine st_call1 (ρ := Value) (fun r => r) (fun _ => True) (fun r => [own r 91 1 (8) ((n32 (8) ((c + (m - d)) % m)).map U32)]) cal67 rfl (fun w hM => ((FSub_calls _ _ _ m c d hm7 hm8 hI.cl hI.dl w ((rd_rd (i := 6) rfl) w hM) ((rd_own (i := 2) rfl) w hM) ((rd_own (i := 1) rfl) w hM))).mono fun e w' ⟨r, h1, h2⟩ => ⟨r, h1, trivial, h2⟩) (by decide) (fun r14 _ => ?_)
            refine st_v (rv_assign rfl) (by decide) ?_
            refine st_nil ?_
            refine st_in_normal ?_
            refine st_in_normal ?_
            refine st_then ?_
            exact st_again (a - b, b, (c + (m - d)) % m, d, _, _, _, _) (hI.sub (Nat.le_of_not_lt hlt) (hI.ne ha1)) (by have h1 := hI.a0; have h2 := hI.b0; dsimp only; omega) (.cons rfl (.cons rfl (.cons rfl (.cons rfl (.cons rfl (.nil _)))))) (by intro w hM; have hM := (Mem.front (Mem.front (Mem.front (Mem.front (Mem.front (Mem.front (Mem.front (Mem.front (Mem.toRd hM (i := 1) rfl) (i := 9) rfl) (i := 9) rfl) (i := 9) rfl) (i := 9) rfl) (i := 5) rfl) (i := 8) rfl) (i := 6) rfl) (i := 7) rfl); have hM := hM.sublist (List.Sublist.cons_cons _ (List.Sublist.cons_cons _ (List.Sublist.cons_cons _ (List.Sublist.cons_cons _ (List.Sublist.cons_cons _ (List.Sublist.cons_cons _ (List.Sublist.cons_cons _ (List.Sublist.cons_cons _ ((List.nil_sublist _)))))))))); (try rw [hlf_zero] at hM); exact hM)
end Go.Proofs.YtjhjjhpfjadjpaaDoor
