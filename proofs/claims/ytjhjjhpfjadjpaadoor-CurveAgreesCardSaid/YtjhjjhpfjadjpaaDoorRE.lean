/- Walks: what functions of the given program do, operation by operation. Written by wip/gen. -/
import Derived.Test.YtjhjjhpfjadjpaaDoorRD
import Derived.Test.YtjhjjhpfjadjpaaDoorMM
import Derived.Test.YtjhjjhpfjadjpaaDoorVV
namespace Go.Proofs.YtjhjjhpfjadjpaaDoor
set_option linter.all false
open Go
theorem FAddF_calls (vp v u : Value) (x y : Fp) (w : World) (hP : Rd w vp 8 1 ((n32 8 pP).map U32)) (hA : Rd w v 8 1 ((n32 8 x.val).map U32)) (hB : Rd w u 8 1 ((n32 8 y.val).map U32)) : Calls Tryd.prog 77 #[.agg #[vp], v, u] w (fun e w' => ∃ r, e = .returned r ∧ Mem (All w) w w' [own r 91 1 (8) ((n32 (8) ((x + y).val)).map U32)]) := by
  have h := FAdd_calls vp v u pP x.val y.val goodP.g7 goodP.g8 x.isLt y.isLt w hP hA hB
  have e : (x + y).val = (x.val + y.val) % pP := Fin.val_add x y
  rwa [← e] at h
theorem FSubF_calls (vp v u : Value) (x y : Fp) (w : World) (hP : Rd w vp 8 1 ((n32 8 pP).map U32)) (hA : Rd w v 8 1 ((n32 8 x.val).map U32)) (hB : Rd w u 8 1 ((n32 8 y.val).map U32)) : Calls Tryd.prog 67 #[.agg #[vp], v, u] w (fun e w' => ∃ r, e = .returned r ∧ Mem (All w) w w' [own r 91 1 (8) ((n32 (8) ((x - y).val)).map U32)]) := by
  have h := FSub_calls vp v u pP x.val y.val goodP.g7 goodP.g8 x.isLt y.isLt w hP hA hB
  have e : (x - y).val = (x.val + (pP - y.val)) % pP := by rw [Fin.val_sub, Nat.add_comm]
  rwa [← e] at h
theorem FMulF_calls (vp v u : Value) (x y : Fp) (w : World) (hP : Rd w vp 8 1 ((n32 8 pP).map U32)) (hA : Rd w v 8 1 ((n32 8 x.val).map U32)) (hB : Rd w u 8 1 ((n32 8 y.val).map U32)) : Calls Tryd.prog 66 #[.agg #[vp], v, u] w (fun e w' => ∃ r, e = .returned r ∧ Mem (All w) w w' [own r 91 1 (8) ((n32 (8) ((x * y).val)).map U32)]) := by
  have h := FMul_calls vp v u pP x.val y.val goodP.g7 goodP.g8 x.isLt y.isLt w hP hA hB
  have e : (x * y).val = (x.val * y.val) % pP := Fin.val_mul x y
  rwa [← e] at h
set_option maxRecDepth 20000 in
theorem rbit_calls (v : Value) (la n i : Nat) (hi : i ≤ 100000) (hn : n < W32 ^ la) (w : World) (hA : Rd w v la 1 ((n32 (la) (n)).map U32)) : Calls Tryd.prog 78 #[v, vI (i : Nat)] w (fun r w' => r = .returned (U32 (BitVec.ofNat 32 (n / 2 ^ i % 2))) ∧ Mem (All w) w w' []) := by
  refine calls_of_st (n := 19) (args := [v, vI (i : Nat)]) Tryd.func78 rfl Tryd.ntmps78 (Nat.le_of_ble_eq_true rfl) (Mem.all w) ?_
  refine st_seq ?_
  refine st_region ?_
  refine st_v (rv_assign rfl) (by decide) ?_
  refine st_nil ?_
  refine st_then ?_
  refine st_seq ?_
  refine st_seq ?_
  refine st_region ?_
  refine st_v (rv_move rfl) (by decide) ?_
  refine st_v (rv_quoN (b := 32) rfl rfl (by first | omega | (simp; done) | (simp; omega))) (by decide) ?_
  refine st_v (rv_move rfl) (by decide) ?_
  refine st_v (rv_lenR (rd_old hA hA.all) Tryd.underlying36 rfl) (by decide) ?_
  refine st_v (rv_geqZ rfl rfl) (by decide) ?_
  refine st_nil ?_
  refine st_then ?_
  refine st_cond rfl (fun hc9 => ?_) (fun hc9 => ?_)
  · -- t9 True
    try simp only [z1, z2, z3, z4, z5, z6, z7, z8, z9, z10, z11, z12, z13, z14] at hc9
    have h0 : n / 2 ^ i = 0 := Nat.div_eq_of_lt (Nat.lt_of_lt_of_le hn (by rw [W32_pow]; exact Nat.pow_le_pow_right (by decide) (by omega)))
    refine st_seq ?_
    refine st_region ?_
    refine st_v (rv_assign rfl) (by decide) ?_
    refine st_nil ?_
    refine st_then ?_
    refine st_ret ?_
    refine st_then_ret ?_
    exact st_done rfl rfl (fun w hM => ⟨by first | (rw [getD_n32 hn, bit32]; done) | (rw [h0]; rfl), hM.sublist (List.nil_sublist _)⟩)
  · -- t9 False
    try simp only [z1, z2, z3, z4, z5, z6, z7, z8, z9, z10, z11, z12, z13, z14] at hc9
    refine st_skip ?_
    refine st_then ?_
    refine st_seq ?_
    refine st_region ?_
    refine st_v (rv_move rfl) (by decide) ?_
    refine st_v (rv_move rfl) (by decide) ?_
    refine st_v (rv_quoN (b := 32) rfl rfl (by first | omega | (simp; done) | (simp; omega))) (by decide) ?_
    refine st_v (rv_indexR1 (rd_old hA hA.all) Tryd.underlying36 sz91 rfl rfl rfl (by first | omega | (simp <;> omega))) (by decide) ?_
    refine st_v (rv_load_rd (rd_old hA hA.all) tyS91 rfl (get32 (by first | omega | (simp <;> omega)))) (by decide) ?_
    refine st_v (rv_move rfl) (by decide) ?_
    refine st_v (rv_remN (b := 32) rfl rfl (by first | omega | (simp; done) | (simp; omega))) (by decide) ?_
    refine st_v (rv_shr32 rfl rfl rfl) (by decide) ?_
    refine st_v (rv_and32 (b := 1#32) rfl rfl) (by decide) ?_
    refine st_v (rv_assign rfl) (by decide) ?_
    refine st_nil ?_
    refine st_then ?_
    refine st_ret ?_
    exact st_done rfl rfl (fun w hM => ⟨by first | (rw [getD_n32 hn, bit32]; done) | (rw [h0]; rfl), hM.sublist (List.nil_sublist _)⟩)
set_option maxRecDepth 20000 in
set_option maxHeartbeats 4000000 in
theorem rProduct_calls (v y : Value) (n : Nat) (u : Fp) (hn : n < W32 ^ 8) (w : World) (hA : Rd w v 8 1 ((n32 8 n).map U32)) (hB : Rd w y 8 1 ((n32 8 u.val).map U32)) : Calls Tryd.prog 60 #[v, y] w (fun e w' => ∃ r, e = .returned r ∧ Mem (All w) w w' [own r 91 1 (8) ((n32 (8) ((ladder n u).val)).map U32)]) := by
  refine calls_of_st (n := 122) (args := [v, y]) Tryd.func60 rfl Tryd.ntmps60 (Nat.le_of_ble_eq_true rfl) (Mem.kept2 hA hB) ?_
  refine st_seq ?_
  refine st_region ?_
  refine st_v (rv_assign rfl) (by decide) ?_
  refine st_nil ?_
  refine st_then ?_
  refine st_seq ?_
  refine st_region ?_
  refine st_call1 (ρ := Value) (fun r => .agg #[r]) (fun _ => True) (fun r => [own r 91 1 (8) ((n32 (8) (pP)).map U32)]) cal63 rfl (fun w hM => ((rP_calls w)).mono fun e w' ⟨r, h1, h2⟩ => ⟨r, h1, trivial, h2⟩) (by decide) (fun r1 _ => ?_)
  refine st_alloc tyZ93 (by decide) (cs := #[.slice none 0 0]) (rfl) (fun b2 hb2 => ?_)
  refine St.know (fun w hM => ownOne (i := 1) rfl hM) (fun hsf11 => ?_)
  refine st_store (vs := [_]) rfl rfl (i := 0) rfl sz93 rfl (Nat.le_of_ble_eq_true rfl) (one1 hsf11) (cs' := #[_]) rfl (l' := [_, _, _, _, _, _, _]) rfl ?_
  refine st_nil ?_
  refine st_then ?_
  refine st_seq ?_
  refine st_region ?_
  refine st_call1 (ρ := Value) (fun r => r) (fun _ => True) (fun r => [rdA r 8 1 ((n32 8 ((1 : Fp).val)).map U32)]) cal62 rfl (fun w hM => ((asRd (rSmall_calls 1 (by decide) w))).mono fun e w' ⟨r, h1, h2⟩ => ⟨r, h1, trivial, h2⟩) (by decide) (fun r3 _ => ?_)
  refine st_v (rv_assign rfl) (by decide) ?_
  refine st_nil ?_
  refine st_then ?_
  refine st_seq ?_
  refine st_region ?_
  refine st_call1 (ρ := Value) (fun r => r) (fun _ => True) (fun r => [rdA r 8 1 ((n32 8 ((0 : Fp).val)).map U32)]) cal62 rfl (fun w hM => ((asRd (rSmall_calls 0 (by decide) w))).mono fun e w' ⟨r, h1, h2⟩ => ⟨r, h1, trivial, h2⟩) (by decide) (fun r4 _ => ?_)
  refine st_v (rv_assign rfl) (by decide) ?_
  refine st_nil ?_
  refine st_then ?_
  refine st_seq ?_
  refine st_region ?_
  refine st_v (rv_move rfl) (by decide) ?_
  refine st_v (rv_assign rfl) (by decide) ?_
  refine st_nil ?_
  refine st_then ?_
  refine st_seq ?_
  refine st_region ?_
  refine st_call1 (ρ := Value) (fun r => r) (fun _ => True) (fun r => [rdA r 8 1 ((n32 8 ((1 : Fp).val)).map U32)]) cal62 rfl (fun w hM => ((asRd (rSmall_calls 1 (by decide) w))).mono fun e w' ⟨r, h1, h2⟩ => ⟨r, h1, trivial, h2⟩) (by decide) (fun r5 _ => ?_)
  refine st_v (rv_assign rfl) (by decide) ?_
  refine st_nil ?_
  refine st_then ?_
  refine st_seq ?_
  refine st_seq ?_
  refine st_region ?_
  refine st_v (rv_assign rfl) (by decide) ?_
  refine st_nil ?_
  refine st_then ?_
  refine st_block ?_
  refine st_loopA (σ := Nat × Value × Value × Value × Value) [(0, kst _), (1, kst _), (5, kst _), (6, fun (k, v6, v7, v8, v9) => v6), (7, fun (k, v6, v7, v8, v9) => v7), (8, fun (k, v6, v7, v8, v9) => v8), (9, fun (k, v6, v7, v8, v9) => v9), (10, fun (k, v6, v7, v8, v9) => vI ((k : Nat) - 1 : Int))] [fun (k, v6, v7, v8, v9) => rdA v9 8 1 ((n32 8 ((refS n u (255 - k)).z3.val)).map U32), fun (k, v6, v7, v8, v9) => rdA v7 8 1 ((n32 8 ((refS n u (255 - k)).z2.val)).map U32), fun (k, v6, v7, v8, v9) => rdA v6 8 1 ((n32 8 ((refS n u (255 - k)).x2.val)).map U32), kst _, kst _, kst _, kst _, fun (k, v6, v7, v8, v9) => rdA v8 8 1 ((n32 8 ((refS n u (255 - k)).x3.val)).map U32), kst _, kst _] (fun (k, v6, v7, v8, v9) => k ≤ 255) (fun (k, v6, v7, v8, v9) => k) (255, _, _, _, _) (Nat.le_refl _) (.cons rfl (.cons rfl (.cons rfl (.cons rfl (.cons rfl (.cons rfl (.cons rfl (.cons rfl (.nil _))))))))) (by intro w hM; dsimp only [List.map, kst]; (first | rw [refS_0 n u] | rw [refS_00 n u]); dsimp only; exact hM) ?_
  intro ⟨k, v6, v7, v8, v9⟩ hI
  try dsimp only at hI
  dsimp only [List.map, kst]
  refine st_seq ?_
  refine st_seq ?_
  refine st_region ?_
  refine st_v (rv_move rfl) (by decide) ?_
  refine st_v (rv_geqZ rfl rfl) (by decide) ?_
  refine st_nil ?_
  refine st_then ?_
  refine st_cond rfl (fun hc29 => ?_) (fun hc29 => ?_)
  · -- t29 True
    try simp only [z1, z2, z3, z4, z5, z6, z7, z8, z9, z10, z11, z12, z13, z14] at hc29
    obtain ⟨j, rfl⟩ : ∃ j, k = j + 1 := ⟨k - 1, by omega⟩
    rw [dn_succ]
    refine st_skip ?_
    refine st_then ?_
    refine st_seq ?_
    refine st_block ?_
    refine st_seq ?_
    refine st_region ?_
    refine st_v (rv_move rfl) (by decide) ?_
    refine st_v (rv_move rfl) (by decide) ?_
    refine st_call0 cal78 rfl (fun w hM => (rbit_calls _ 8 n j (by omega) hn w ((rd_rd (i := 5) rfl) w hM))) (by decide) ?_
    refine st_v (rv_assign rfl) (by decide) ?_
    refine st_nil ?_
    refine st_then ?_
    refine st_seq ?_
    refine st_seq ?_
    refine st_region ?_
    refine st_v (rv_move rfl) (by decide) ?_
    refine st_v (rv_eql32 (b := 1#32) rfl rfl) (by decide) ?_
    refine st_nil ?_
    refine st_then ?_
    refine st_cond rfl (fun hc36 => ?_) (fun hc36 => ?_)
    · -- t36 True
      try simp only [z1, z2, z3, z4, z5, z6, z7, z8, z9, z10, z11, z12, z13, z14] at hc36
      have hst := (refS_next n u hI).trans (refStep1 (by omega) hc36)
      refine st_region ?_
      refine st_v (rv_move rfl) (by decide) ?_
      refine st_v (rv_move rfl) (by decide) ?_
      refine st_v (rv_move rfl) (by decide) ?_
      refine st_v (rv_move rfl) (by decide) ?_
      refine st_v (rv_assign rfl) (by decide) ?_
      refine st_v (rv_assign rfl) (by decide) ?_
      refine st_v (rv_assign rfl) (by decide) ?_
      refine st_v (rv_assign rfl) (by decide) ?_
      refine st_nil ?_
      refine st_then ?_
      refine st_seq ?_
      refine st_region ?_
      refine st_v (rv_loadW_blk tyA93 rfl (i := 3) rfl rfl) (by decide) ?_
      refine st_v (rv_move rfl) (by decide) ?_
      refine st_v (rv_move rfl) (by decide) ?_
      refine st_call1 (ρ := Value) (fun r => r) (fun _ => True) (fun r => [own r 91 1 (8) ((n32 (8) (((refS n u (255 - (j + 1))).x3 + (refS n u (255 - (j + 1))).z3).val)).map U32)]) cal77 rfl (fun w hM => ((FAddF_calls _ _ _ ((refS n u (255 - (j + 1))).x3) ((refS n u (255 - (j + 1))).z3) w ((rd_own (i := 4) rfl) w hM) ((rd_rd (i := 7) rfl) w hM) ((rd_rd (i := 0) rfl) w hM))).mono fun e w' ⟨r, h1, h2⟩ => ⟨r, h1, trivial, h2⟩) (by decide) (fun r6 _ => ?_)
      refine st_v (rv_assign rfl) (by decide) ?_
      refine st_nil ?_
      refine st_then ?_
      refine st_seq ?_
      refine st_region ?_
      refine st_v (rv_loadW_blk tyA93 rfl (i := 4) rfl rfl) (by decide) ?_
      refine st_v (rv_move rfl) (by decide) ?_
      refine st_v (rv_move rfl) (by decide) ?_
      refine st_call1 (ρ := Value) (fun r => r) (fun _ => True) (fun r => [own r 91 1 (8) ((n32 (8) (((refS n u (255 - (j + 1))).x3 - (refS n u (255 - (j + 1))).z3).val)).map U32)]) cal67 rfl (fun w hM => ((FSubF_calls _ _ _ ((refS n u (255 - (j + 1))).x3) ((refS n u (255 - (j + 1))).z3) w ((rd_own (i := 5) rfl) w hM) ((rd_rd (i := 8) rfl) w hM) ((rd_rd (i := 1) rfl) w hM))).mono fun e w' ⟨r, h1, h2⟩ => ⟨r, h1, trivial, h2⟩) (by decide) (fun r7 _ => ?_)
      refine st_v (rv_assign rfl) (by decide) ?_
      refine st_nil ?_
      refine st_then ?_
      refine st_seq ?_
      refine st_region ?_
      refine st_v (rv_loadW_blk tyA93 rfl (i := 5) rfl rfl) (by decide) ?_
      refine st_v (rv_move rfl) (by decide) ?_
      refine st_v (rv_move rfl) (by decide) ?_
      refine st_call1 (ρ := Value) (fun r => r) (fun _ => True) (fun r => [own r 91 1 (8) ((n32 (8) (((refS n u (255 - (j + 1))).x2 + (refS n u (255 - (j + 1))).z2).val)).map U32)]) cal77 rfl (fun w hM => ((FAddF_calls _ _ _ ((refS n u (255 - (j + 1))).x2) ((refS n u (255 - (j + 1))).z2) w ((rd_own (i := 6) rfl) w hM) ((rd_rd (i := 4) rfl) w hM) ((rd_rd (i := 3) rfl) w hM))).mono fun e w' ⟨r, h1, h2⟩ => ⟨r, h1, trivial, h2⟩) (by decide) (fun r8 _ => ?_)
      refine st_v (rv_assign rfl) (by decide) ?_
      refine st_nil ?_
      refine st_then ?_
      refine st_seq ?_
      refine st_region ?_
      refine st_v (rv_loadW_blk tyA93 rfl (i := 6) rfl rfl) (by decide) ?_
      refine st_v (rv_move rfl) (by decide) ?_
      refine st_v (rv_move rfl) (by decide) ?_
      refine st_call1 (ρ := Value) (fun r => r) (fun _ => True) (fun r => [own r 91 1 (8) ((n32 (8) (((refS n u (255 - (j + 1))).x2 - (refS n u (255 - (j + 1))).z2).val)).map U32)]) cal67 rfl (fun w hM => ((FSubF_calls _ _ _ ((refS n u (255 - (j + 1))).x2) ((refS n u (255 - (j + 1))).z2) w ((rd_own (i := 7) rfl) w hM) ((rd_rd (i := 5) rfl) w hM) ((rd_rd (i := 4) rfl) w hM))).mono fun e w' ⟨r, h1, h2⟩ => ⟨r, h1, trivial, h2⟩) (by decide) (fun r9 _ => ?_)
      refine st_v (rv_assign rfl) (by decide) ?_
      refine st_nil ?_
      refine st_then ?_
      refine st_seq ?_
      refine st_region ?_
      refine st_v (rv_loadW_blk tyA93 rfl (i := 7) rfl rfl) (by decide) ?_
      refine st_v (rv_move rfl) (by decide) ?_
      refine st_v (rv_move rfl) (by decide) ?_
      refine st_call1 (ρ := Value) (fun r => r) (fun _ => True) (fun r => [own r 91 1 (8) ((n32 (8) ((((refS n u (255 - (j + 1))).x3 + (refS n u (255 - (j + 1))).z3) * ((refS n u (255 - (j + 1))).x3 + (refS n u (255 - (j + 1))).z3)).val)).map U32)]) cal66 rfl (fun w hM => ((FMulF_calls _ _ _ (((refS n u (255 - (j + 1))).x3 + (refS n u (255 - (j + 1))).z3)) (((refS n u (255 - (j + 1))).x3 + (refS n u (255 - (j + 1))).z3)) w ((rd_own (i := 8) rfl) w hM) ((rd_own (i := 3) rfl) w hM) ((rd_own (i := 3) rfl) w hM))).mono fun e w' ⟨r, h1, h2⟩ => ⟨r, h1, trivial, h2⟩) (by decide) (fun r10 _ => ?_)
      refine st_v (rv_assign rfl) (by decide) ?_
      refine st_nil ?_
      refine st_then ?_
      refine st_seq ?_
      refine st_region ?_
      refine st_v (rv_loadW_blk tyA93 rfl (i := 8) rfl rfl) (by decide) ?_
      refine st_v (rv_move rfl) (by decide) ?_
      refine st_v (rv_move rfl) (by decide) ?_
      refine st_call1 (ρ := Value) (fun r => r) (fun _ => True) (fun r => [own r 91 1 (8) ((n32 (8) ((((refS n u (255 - (j + 1))).x3 - (refS n u (255 - (j + 1))).z3) * ((refS n u (255 - (j + 1))).x3 - (refS n u (255 - (j + 1))).z3)).val)).map U32)]) cal66 rfl (fun w hM => ((FMulF_calls _ _ _ (((refS n u (255 - (j + 1))).x3 - (refS n u (255 - (j + 1))).z3)) (((refS n u (255 - (j + 1))).x3 - (refS n u (255 - (j + 1))).z3)) w ((rd_own (i := 9) rfl) w hM) ((rd_own (i := 3) rfl) w hM) ((rd_own (i := 3) rfl) w hM))).mono fun e w' ⟨r, h1, h2⟩ => ⟨r, h1, trivial, h2⟩) (by decide) (fun r11 _ => ?_)
      refine st_v (rv_assign rfl) (by decide) ?_
      refine st_nil ?_
      refine st_then ?_
      refine st_seq ?_
      refine st_region ?_
      refine st_v (rv_loadW_blk tyA93 rfl (i := 9) rfl rfl) (by decide) ?_
      refine st_v (rv_move rfl) (by decide) ?_
      refine st_v (rv_move rfl) (by decide) ?_
      refine st_call1 (ρ := Value) (fun r => r) (fun _ => True) (fun r => [own r 91 1 (8) ((n32 (8) (((((refS n u (255 - (j + 1))).x3 + (refS n u (255 - (j + 1))).z3) * ((refS n u (255 - (j + 1))).x3 + (refS n u (255 - (j + 1))).z3)) - (((refS n u (255 - (j + 1))).x3 - (refS n u (255 - (j + 1))).z3) * ((refS n u (255 - (j + 1))).x3 - (refS n u (255 - (j + 1))).z3))).val)).map U32)]) cal67 rfl (fun w hM => ((FSubF_calls _ _ _ ((((refS n u (255 - (j + 1))).x3 + (refS n u (255 - (j + 1))).z3) * ((refS n u (255 - (j + 1))).x3 + (refS n u (255 - (j + 1))).z3))) ((((refS n u (255 - (j + 1))).x3 - (refS n u (255 - (j + 1))).z3) * ((refS n u (255 - (j + 1))).x3 - (refS n u (255 - (j + 1))).z3))) w ((rd_own (i := 10) rfl) w hM) ((rd_own (i := 1) rfl) w hM) ((rd_own (i := 0) rfl) w hM))).mono fun e w' ⟨r, h1, h2⟩ => ⟨r, h1, trivial, h2⟩) (by decide) (fun r12 _ => ?_)
      refine st_v (rv_assign rfl) (by decide) ?_
      refine st_nil ?_
      refine st_then ?_
      refine st_seq ?_
      refine st_region ?_
      refine st_v (rv_loadW_blk tyA93 rfl (i := 10) rfl rfl) (by decide) ?_
      refine st_v (rv_move rfl) (by decide) ?_
      refine st_v (rv_move rfl) (by decide) ?_
      refine st_call1 (ρ := Value) (fun r => r) (fun _ => True) (fun r => [own r 91 1 (8) ((n32 (8) ((((refS n u (255 - (j + 1))).x2 - (refS n u (255 - (j + 1))).z2) * ((refS n u (255 - (j + 1))).x3 + (refS n u (255 - (j + 1))).z3)).val)).map U32)]) cal66 rfl (fun w hM => ((FMulF_calls _ _ _ (((refS n u (255 - (j + 1))).x2 - (refS n u (255 - (j + 1))).z2)) (((refS n u (255 - (j + 1))).x3 + (refS n u (255 - (j + 1))).z3)) w ((rd_own (i := 11) rfl) w hM) ((rd_own (i := 3) rfl) w hM) ((rd_own (i := 6) rfl) w hM))).mono fun e w' ⟨r, h1, h2⟩ => ⟨r, h1, trivial, h2⟩) (by decide) (fun r13 _ => ?_)
      refine st_v (rv_assign rfl) (by decide) ?_
      refine st_nil ?_
      refine st_then ?_
      refine st_seq ?_
      refine st_region ?_
      refine st_v (rv_loadW_blk tyA93 rfl (i := 11) rfl rfl) (by decide) ?_
      refine st_v (rv_move rfl) (by decide) ?_
      refine st_v (rv_move rfl) (by decide) ?_
      refine st_call1 (ρ := Value) (fun r => r) (fun _ => True) (fun r => [own r 91 1 (8) ((n32 (8) ((((refS n u (255 - (j + 1))).x2 + (refS n u (255 - (j + 1))).z2) * ((refS n u (255 - (j + 1))).x3 - (refS n u (255 - (j + 1))).z3)).val)).map U32)]) cal66 rfl (fun w hM => ((FMulF_calls _ _ _ (((refS n u (255 - (j + 1))).x2 + (refS n u (255 - (j + 1))).z2)) (((refS n u (255 - (j + 1))).x3 - (refS n u (255 - (j + 1))).z3)) w ((rd_own (i := 12) rfl) w hM) ((rd_own (i := 5) rfl) w hM) ((rd_own (i := 6) rfl) w hM))).mono fun e w' ⟨r, h1, h2⟩ => ⟨r, h1, trivial, h2⟩) (by decide) (fun r14 _ => ?_)
      refine st_v (rv_assign rfl) (by decide) ?_
      refine st_nil ?_
      refine st_then ?_
      refine st_seq ?_
      refine st_region ?_
      refine st_v (rv_loadW_blk tyA93 rfl (i := 12) rfl rfl) (by decide) ?_
      refine st_v (rv_move rfl) (by decide) ?_
      refine st_v (rv_move rfl) (by decide) ?_
      refine st_call1 (ρ := Value) (fun r => r) (fun _ => True) (fun r => [own r 91 1 (8) ((n32 (8) (((((refS n u (255 - (j + 1))).x2 - (refS n u (255 - (j + 1))).z2) * ((refS n u (255 - (j + 1))).x3 + (refS n u (255 - (j + 1))).z3)) + (((refS n u (255 - (j + 1))).x2 + (refS n u (255 - (j + 1))).z2) * ((refS n u (255 - (j + 1))).x3 - (refS n u (255 - (j + 1))).z3))).val)).map U32)]) cal77 rfl (fun w hM => ((FAddF_calls _ _ _ ((((refS n u (255 - (j + 1))).x2 - (refS n u (255 - (j + 1))).z2) * ((refS n u (255 - (j + 1))).x3 + (refS n u (255 - (j + 1))).z3))) ((((refS n u (255 - (j + 1))).x2 + (refS n u (255 - (j + 1))).z2) * ((refS n u (255 - (j + 1))).x3 - (refS n u (255 - (j + 1))).z3))) w ((rd_own (i := 13) rfl) w hM) ((rd_own (i := 1) rfl) w hM) ((rd_own (i := 0) rfl) w hM))).mono fun e w' ⟨r, h1, h2⟩ => ⟨r, h1, trivial, h2⟩) (by decide) (fun r15 _ => ?_)
      refine st_v (rv_assign rfl) (by decide) ?_
      refine st_nil ?_
      refine st_then ?_
      refine st_seq ?_
      refine st_region ?_
      refine st_v (rv_loadW_blk tyA93 rfl (i := 13) rfl rfl) (by decide) ?_
      refine st_v (rv_move rfl) (by decide) ?_
      refine st_v (rv_move rfl) (by decide) ?_
      refine st_call1 (ρ := Value) (fun r => r) (fun _ => True) (fun r => [own r 91 1 (8) ((n32 (8) (((((refS n u (255 - (j + 1))).x2 - (refS n u (255 - (j + 1))).z2) * ((refS n u (255 - (j + 1))).x3 + (refS n u (255 - (j + 1))).z3)) - (((refS n u (255 - (j + 1))).x2 + (refS n u (255 - (j + 1))).z2) * ((refS n u (255 - (j + 1))).x3 - (refS n u (255 - (j + 1))).z3))).val)).map U32)]) cal67 rfl (fun w hM => ((FSubF_calls _ _ _ ((((refS n u (255 - (j + 1))).x2 - (refS n u (255 - (j + 1))).z2) * ((refS n u (255 - (j + 1))).x3 + (refS n u (255 - (j + 1))).z3))) ((((refS n u (255 - (j + 1))).x2 + (refS n u (255 - (j + 1))).z2) * ((refS n u (255 - (j + 1))).x3 - (refS n u (255 - (j + 1))).z3))) w ((rd_own (i := 14) rfl) w hM) ((rd_own (i := 2) rfl) w hM) ((rd_own (i := 1) rfl) w hM))).mono fun e w' ⟨r, h1, h2⟩ => ⟨r, h1, trivial, h2⟩) (by decide) (fun r16 _ => ?_)
      refine st_v (rv_assign rfl) (by decide) ?_
      refine st_nil ?_
      refine st_then ?_
      refine st_seq ?_
      refine st_region ?_
      refine st_v (rv_loadW_blk tyA93 rfl (i := 14) rfl rfl) (by decide) ?_
      refine st_v (rv_move rfl) (by decide) ?_
      refine st_v (rv_move rfl) (by decide) ?_
      refine st_call1 (ρ := Value) (fun r => r) (fun _ => True) (fun r => [own r 91 1 (8) ((n32 (8) ((((((refS n u (255 - (j + 1))).x2 - (refS n u (255 - (j + 1))).z2) * ((refS n u (255 - (j + 1))).x3 + (refS n u (255 - (j + 1))).z3)) + (((refS n u (255 - (j + 1))).x2 + (refS n u (255 - (j + 1))).z2) * ((refS n u (255 - (j + 1))).x3 - (refS n u (255 - (j + 1))).z3))) * ((((refS n u (255 - (j + 1))).x2 - (refS n u (255 - (j + 1))).z2) * ((refS n u (255 - (j + 1))).x3 + (refS n u (255 - (j + 1))).z3)) + (((refS n u (255 - (j + 1))).x2 + (refS n u (255 - (j + 1))).z2) * ((refS n u (255 - (j + 1))).x3 - (refS n u (255 - (j + 1))).z3)))).val)).map U32)]) cal66 rfl (fun w hM => ((FMulF_calls _ _ _ (((((refS n u (255 - (j + 1))).x2 - (refS n u (255 - (j + 1))).z2) * ((refS n u (255 - (j + 1))).x3 + (refS n u (255 - (j + 1))).z3)) + (((refS n u (255 - (j + 1))).x2 + (refS n u (255 - (j + 1))).z2) * ((refS n u (255 - (j + 1))).x3 - (refS n u (255 - (j + 1))).z3)))) (((((refS n u (255 - (j + 1))).x2 - (refS n u (255 - (j + 1))).z2) * ((refS n u (255 - (j + 1))).x3 + (refS n u (255 - (j + 1))).z3)) + (((refS n u (255 - (j + 1))).x2 + (refS n u (255 - (j + 1))).z2) * ((refS n u (255 - (j + 1))).x3 - (refS n u (255 - (j + 1))).z3)))) w ((rd_own (i := 15) rfl) w hM) ((rd_own (i := 1) rfl) w hM) ((rd_own (i := 1) rfl) w hM))).mono fun e w' ⟨r, h1, h2⟩ => ⟨r, h1, trivial, h2⟩) (by decide) (fun r17 _ => ?_)
      refine st_v (rv_assign rfl) (by decide) ?_
      refine st_nil ?_
      refine st_then ?_
      refine st_seq ?_
      refine st_drawStart mixed ?_
      refine st_drawSeg1 (E0 := [(0, _), (1, _), (5, _), (8, _), (9, _), (10, _), (11, _), (16, _), (17, _), (18, _), (22, _)]) [kpeq _, kpeq _, kpeq _, kpeq _, kpeq _, (fun _ v => own v 91 1 8 ((n32 8 ((((((refS n u (255 - (j + 1))).x2 - (refS n u (255 - (j + 1))).z2) * ((refS n u (255 - (j + 1))).x3 + (refS n u (255 - (j + 1))).z3)) - (((refS n u (255 - (j + 1))).x2 + (refS n u (255 - (j + 1))).z2) * ((refS n u (255 - (j + 1))).x3 - (refS n u (255 - (j + 1))).z3))) * ((((refS n u (255 - (j + 1))).x2 - (refS n u (255 - (j + 1))).z2) * ((refS n u (255 - (j + 1))).x3 + (refS n u (255 - (j + 1))).z3)) - (((refS n u (255 - (j + 1))).x2 + (refS n u (255 - (j + 1))).z2) * ((refS n u (255 - (j + 1))).x3 - (refS n u (255 - (j + 1))).z3))))).val).map U32))] 0 6 [0, 0, 0, 0, 0, 28, 63, 127] [0, 1, 5, 8, 9, 10, 11, 16, 17, 18, 22] (by kernel_rfl) (by decide) (by kernel_rfl) (.cons rfl (.cons rfl (.cons rfl (.cons rfl (.cons rfl (.cons rfl (.cons rfl (.cons rfl (.cons rfl (.cons rfl (.cons rfl (.nil _)))))))))))) rfl rfl (hall_cons (hop_val [] [] rfl rfl rfl (by decide) rfl (jnil) (xnil) (fun _ _ _ _ => does_v (rv_loadW_blk tyA93 rfl (i := 15) rfl rfl))) (hall_cons (hop_mv rfl (by decide) rfl rfl) (hall_cons (hop_val [] [] rfl rfl rfl (by decide) rfl (jnil) (xnil) (fun _ _ _ _ => does_v (rv_loadW_blk tyA93 rfl (i := 15) rfl rfl))) (hall_cons (hop_mv rfl (by decide) rfl rfl) (hall_cons (hop_mv rfl (by decide) rfl rfl) (hall_cons (hop_val [(2, 91, _), (3, 92, _), (4, 93, _)] [] rfl rfl rfl (by decide) rfl (jcons rfl rfl rfl rfl rfl (jcons rfl rfl rfl rfl rfl (jcons rfl rfl rfl rfl rfl (jnil)))) (xnil) (fun _ _ _ _ => does_call cal66 rfl (fun w hM => (FMulF_calls _ _ _ (((((refS n u (255 - (j + 1))).x2 - (refS n u (255 - (j + 1))).z2) * ((refS n u (255 - (j + 1))).x3 + (refS n u (255 - (j + 1))).z3)) - (((refS n u (255 - (j + 1))).x2 + (refS n u (255 - (j + 1))).z2) * ((refS n u (255 - (j + 1))).x3 - (refS n u (255 - (j + 1))).z3)))) (((((refS n u (255 - (j + 1))).x2 - (refS n u (255 - (j + 1))).z2) * ((refS n u (255 - (j + 1))).x3 + (refS n u (255 - (j + 1))).z3)) - (((refS n u (255 - (j + 1))).x2 + (refS n u (255 - (j + 1))).z2) * ((refS n u (255 - (j + 1))).x3 - (refS n u (255 - (j + 1))).z3)))) w ((rd_own (i := 16) rfl) w hM) ((rd_own (i := 1) rfl) w hM) ((rd_own (i := 1) rfl) w hM))))) (hall_nil))))))) (draw_end [(0, 89, _), (1, 90, _)] [(5, 94, (fun _ v => own v 91 1 8 ((n32 8 ((((((refS n u (255 - (j + 1))).x2 - (refS n u (255 - (j + 1))).z2) * ((refS n u (255 - (j + 1))).x3 + (refS n u (255 - (j + 1))).z3)) - (((refS n u (255 - (j + 1))).x2 + (refS n u (255 - (j + 1))).z2) * ((refS n u (255 - (j + 1))).x3 - (refS n u (255 - (j + 1))).z3))) * ((((refS n u (255 - (j + 1))).x2 - (refS n u (255 - (j + 1))).z2) * ((refS n u (255 - (j + 1))).x3 + (refS n u (255 - (j + 1))).z3)) - (((refS n u (255 - (j + 1))).x2 + (refS n u (255 - (j + 1))).z2) * ((refS n u (255 - (j + 1))).x3 - (refS n u (255 - (j + 1))).z3))))).val).map U32)))] rfl (jcons rfl rfl rfl rfl rfl (jcons rfl rfl rfl rfl rfl (jnil))) (xcons rfl rfl rfl rfl rfl rfl (xnil)) (fun vals => ?_))
      dsimp only [xenv, xmem]
      refine st_drawTail (N := 6) [0, 0, 0, 0, 0, 28, 63, 127] (by kernel_rfl) (by kernel_rfl) ?_
      refine st_call1 (ρ := Value) (fun r => r) (fun _ => True) (fun r => [own r 91 1 (8) ((n32 (8) ((u * (((((refS n u (255 - (j + 1))).x2 - (refS n u (255 - (j + 1))).z2) * ((refS n u (255 - (j + 1))).x3 + (refS n u (255 - (j + 1))).z3)) - (((refS n u (255 - (j + 1))).x2 + (refS n u (255 - (j + 1))).z2) * ((refS n u (255 - (j + 1))).x3 - (refS n u (255 - (j + 1))).z3))) * ((((refS n u (255 - (j + 1))).x2 - (refS n u (255 - (j + 1))).z2) * ((refS n u (255 - (j + 1))).x3 + (refS n u (255 - (j + 1))).z3)) - (((refS n u (255 - (j + 1))).x2 + (refS n u (255 - (j + 1))).z2) * ((refS n u (255 - (j + 1))).x3 - (refS n u (255 - (j + 1))).z3))))).val)).map U32)]) cal66 rfl (fun w hM => ((FMulF_calls _ _ _ (u) ((((((refS n u (255 - (j + 1))).x2 - (refS n u (255 - (j + 1))).z2) * ((refS n u (255 - (j + 1))).x3 + (refS n u (255 - (j + 1))).z3)) - (((refS n u (255 - (j + 1))).x2 + (refS n u (255 - (j + 1))).z2) * ((refS n u (255 - (j + 1))).x3 - (refS n u (255 - (j + 1))).z3))) * ((((refS n u (255 - (j + 1))).x2 - (refS n u (255 - (j + 1))).z2) * ((refS n u (255 - (j + 1))).x3 + (refS n u (255 - (j + 1))).z3)) - (((refS n u (255 - (j + 1))).x2 + (refS n u (255 - (j + 1))).z2) * ((refS n u (255 - (j + 1))).x3 - (refS n u (255 - (j + 1))).z3))))) w ((rd_own (i := 17) rfl) w hM) ((rd_rd (i := 19) rfl) w hM) ((rd_own (i := 0) rfl) w hM))).mono fun e w' ⟨r, h1, h2⟩ => ⟨r, h1, trivial, h2⟩) (by decide) (fun r19 _ => ?_)
      refine st_v (rv_assign rfl) (by decide) ?_
      refine st_nil ?_
      refine st_then ?_
      refine st_seq ?_
      refine st_region ?_
      refine st_v (rv_loadW_blk tyA93 rfl (i := 17) rfl rfl) (by decide) ?_
      refine st_v (rv_move rfl) (by decide) ?_
      refine st_v (rv_move rfl) (by decide) ?_
      refine st_call1 (ρ := Value) (fun r => r) (fun _ => True) (fun r => [own r 91 1 (8) ((n32 (8) (((((refS n u (255 - (j + 1))).x3 + (refS n u (255 - (j + 1))).z3) * ((refS n u (255 - (j + 1))).x3 + (refS n u (255 - (j + 1))).z3)) * (((refS n u (255 - (j + 1))).x3 - (refS n u (255 - (j + 1))).z3) * ((refS n u (255 - (j + 1))).x3 - (refS n u (255 - (j + 1))).z3))).val)).map U32)]) cal66 rfl (fun w hM => ((FMulF_calls _ _ _ ((((refS n u (255 - (j + 1))).x3 + (refS n u (255 - (j + 1))).z3) * ((refS n u (255 - (j + 1))).x3 + (refS n u (255 - (j + 1))).z3))) ((((refS n u (255 - (j + 1))).x3 - (refS n u (255 - (j + 1))).z3) * ((refS n u (255 - (j + 1))).x3 - (refS n u (255 - (j + 1))).z3))) w ((rd_own (i := 18) rfl) w hM) ((rd_own (i := 9) rfl) w hM) ((rd_own (i := 8) rfl) w hM))).mono fun e w' ⟨r, h1, h2⟩ => ⟨r, h1, trivial, h2⟩) (by decide) (fun r20 _ => ?_)
      refine st_v (rv_assign rfl) (by decide) ?_
      refine st_nil ?_
      refine st_then ?_
      refine st_seq ?_
      refine st_drawStart mixed ?_
      refine st_drawSeg1 (E0 := [(0, _), (1, _), (5, _), (6, _), (8, _), (9, _), (10, _), (11, _), (16, _), (18, _)]) [kpeq _, kpeq _, kpeq _, kpeq _, kpeq _, (fun _ v => own v 91 1 8 ((n32 8 (fN 121665).val).map U32)), kpeq _, (fun _ v => own v 91 1 8 ((n32 8 ((fN 121665 * ((((refS n u (255 - (j + 1))).x3 + (refS n u (255 - (j + 1))).z3) * ((refS n u (255 - (j + 1))).x3 + (refS n u (255 - (j + 1))).z3)) - (((refS n u (255 - (j + 1))).x3 - (refS n u (255 - (j + 1))).z3) * ((refS n u (255 - (j + 1))).x3 - (refS n u (255 - (j + 1))).z3))))).val).map U32)), (fun _ v => own v 91 1 8 ((n32 8 (((((refS n u (255 - (j + 1))).x3 + (refS n u (255 - (j + 1))).z3) * ((refS n u (255 - (j + 1))).x3 + (refS n u (255 - (j + 1))).z3)) + (fN 121665 * ((((refS n u (255 - (j + 1))).x3 + (refS n u (255 - (j + 1))).z3) * ((refS n u (255 - (j + 1))).x3 + (refS n u (255 - (j + 1))).z3)) - (((refS n u (255 - (j + 1))).x3 - (refS n u (255 - (j + 1))).z3) * ((refS n u (255 - (j + 1))).x3 - (refS n u (255 - (j + 1))).z3)))))).val).map U32))] 0 9 [0, 0, 0, 0, 0, 0, 0, 112, 252, 511, 1023] [0, 1, 5, 6, 8, 9, 10, 11, 16, 18] (by kernel_rfl) (by decide) (by kernel_rfl) (.cons rfl (.cons rfl (.cons rfl (.cons rfl (.cons rfl (.cons rfl (.cons rfl (.cons rfl (.cons rfl (.cons rfl (.nil _))))))))))) rfl rfl (hall_cons (hop_val [] [] rfl rfl rfl (by decide) rfl (jnil) (xnil) (fun _ _ _ _ => does_v (rv_loadW_blk tyA93 rfl (i := 18) rfl rfl))) (hall_cons (hop_mv rfl (by decide) rfl rfl) (hall_cons (hop_val [] [] rfl rfl rfl (by decide) rfl (jnil) (xnil) (fun _ _ _ _ => does_v (rv_loadW_blk tyA93 rfl (i := 18) rfl rfl))) (hall_cons (hop_mv rfl (by decide) rfl rfl) (hall_cons (hop_val [] [] rfl rfl rfl (by decide) rfl (jnil) (xnil) (fun _ _ _ _ => does_v (rv_loadW_blk tyA93 rfl (i := 18) rfl rfl))) (hall_cons (hop_val [] [] rfl rfl rfl (by decide) rfl (jnil) (xnil) (fun _ _ _ _ => does_call cal62 rfl (fun w hM => (rSmall_calls 121665 (by decide) w)))) (hall_cons (hop_mv rfl (by decide) rfl rfl) (hall_cons (hop_val [(4, 104, _), (6, 106, _)] [(5, 105, _)] rfl rfl rfl (by decide) rfl (jcons rfl rfl rfl rfl rfl (jcons rfl rfl rfl rfl rfl (jnil))) (xcons rfl rfl rfl rfl rfl rfl (xnil)) (fun _ _ _ _ => does_call cal66 rfl (fun w hM => (FMulF_calls _ _ _ (fN 121665) (((((refS n u (255 - (j + 1))).x3 + (refS n u (255 - (j + 1))).z3) * ((refS n u (255 - (j + 1))).x3 + (refS n u (255 - (j + 1))).z3)) - (((refS n u (255 - (j + 1))).x3 - (refS n u (255 - (j + 1))).z3) * ((refS n u (255 - (j + 1))).x3 - (refS n u (255 - (j + 1))).z3)))) w ((rd_own (i := 20) rfl) w hM) ((rd_own (i := 0) rfl) w hM) ((rd_own (i := 9) rfl) w hM))))) (hall_cons (hop_val [(2, 102, _), (3, 103, _)] [(7, 107, _)] rfl rfl rfl (by decide) rfl (jcons rfl rfl rfl rfl rfl (jcons rfl rfl rfl rfl rfl (jnil))) (xcons rfl rfl rfl rfl rfl rfl (xnil)) (fun _ _ _ _ => does_call cal77 rfl (fun w hM => (FAddF_calls _ _ _ ((((refS n u (255 - (j + 1))).x3 + (refS n u (255 - (j + 1))).z3) * ((refS n u (255 - (j + 1))).x3 + (refS n u (255 - (j + 1))).z3))) ((fN 121665 * ((((refS n u (255 - (j + 1))).x3 + (refS n u (255 - (j + 1))).z3) * ((refS n u (255 - (j + 1))).x3 + (refS n u (255 - (j + 1))).z3)) - (((refS n u (255 - (j + 1))).x3 - (refS n u (255 - (j + 1))).z3) * ((refS n u (255 - (j + 1))).x3 - (refS n u (255 - (j + 1))).z3))))) w ((rd_own (i := 20) rfl) w hM) ((rd_own (i := 11) rfl) w hM) ((rd_own (i := 0) rfl) w hM))))) (hall_nil)))))))))) (draw_end [(0, 100, _), (1, 101, _)] [(8, 108, (fun _ v => own v 91 1 8 ((n32 8 (((((refS n u (255 - (j + 1))).x3 + (refS n u (255 - (j + 1))).z3) * ((refS n u (255 - (j + 1))).x3 + (refS n u (255 - (j + 1))).z3)) + (fN 121665 * ((((refS n u (255 - (j + 1))).x3 + (refS n u (255 - (j + 1))).z3) * ((refS n u (255 - (j + 1))).x3 + (refS n u (255 - (j + 1))).z3)) - (((refS n u (255 - (j + 1))).x3 - (refS n u (255 - (j + 1))).z3) * ((refS n u (255 - (j + 1))).x3 - (refS n u (255 - (j + 1))).z3)))))).val).map U32)))] rfl (jcons rfl rfl rfl rfl rfl (jcons rfl rfl rfl rfl rfl (jnil))) (xcons rfl rfl rfl rfl rfl rfl (xnil)) (fun vals => ?_))
      dsimp only [xenv, xmem]
      refine st_drawTail (N := 9) [0, 0, 0, 0, 0, 0, 0, 112, 252, 511, 1023] (by kernel_rfl) (by kernel_rfl) ?_
      refine st_call1 (ρ := Value) (fun r => r) (fun _ => True) (fun r => [own r 91 1 (8) ((n32 (8) ((((((refS n u (255 - (j + 1))).x3 + (refS n u (255 - (j + 1))).z3) * ((refS n u (255 - (j + 1))).x3 + (refS n u (255 - (j + 1))).z3)) - (((refS n u (255 - (j + 1))).x3 - (refS n u (255 - (j + 1))).z3) * ((refS n u (255 - (j + 1))).x3 - (refS n u (255 - (j + 1))).z3))) * ((((refS n u (255 - (j + 1))).x3 + (refS n u (255 - (j + 1))).z3) * ((refS n u (255 - (j + 1))).x3 + (refS n u (255 - (j + 1))).z3)) + (fN 121665 * ((((refS n u (255 - (j + 1))).x3 + (refS n u (255 - (j + 1))).z3) * ((refS n u (255 - (j + 1))).x3 + (refS n u (255 - (j + 1))).z3)) - (((refS n u (255 - (j + 1))).x3 - (refS n u (255 - (j + 1))).z3) * ((refS n u (255 - (j + 1))).x3 - (refS n u (255 - (j + 1))).z3)))))).val)).map U32)]) cal66 rfl (fun w hM => ((FMulF_calls _ _ _ (((((refS n u (255 - (j + 1))).x3 + (refS n u (255 - (j + 1))).z3) * ((refS n u (255 - (j + 1))).x3 + (refS n u (255 - (j + 1))).z3)) - (((refS n u (255 - (j + 1))).x3 - (refS n u (255 - (j + 1))).z3) * ((refS n u (255 - (j + 1))).x3 - (refS n u (255 - (j + 1))).z3)))) (((((refS n u (255 - (j + 1))).x3 + (refS n u (255 - (j + 1))).z3) * ((refS n u (255 - (j + 1))).x3 + (refS n u (255 - (j + 1))).z3)) + (fN 121665 * ((((refS n u (255 - (j + 1))).x3 + (refS n u (255 - (j + 1))).z3) * ((refS n u (255 - (j + 1))).x3 + (refS n u (255 - (j + 1))).z3)) - (((refS n u (255 - (j + 1))).x3 - (refS n u (255 - (j + 1))).z3) * ((refS n u (255 - (j + 1))).x3 - (refS n u (255 - (j + 1))).z3)))))) w ((rd_own (i := 20) rfl) w hM) ((rd_own (i := 9) rfl) w hM) ((rd_own (i := 0) rfl) w hM))).mono fun e w' ⟨r, h1, h2⟩ => ⟨r, h1, trivial, h2⟩) (by decide) (fun r22 _ => ?_)
      refine st_v (rv_assign rfl) (by decide) ?_
      refine st_nil ?_
      refine st_then ?_
      refine st_seq ?_
      refine st_region ?_
      refine st_v (rv_move rfl) (by decide) ?_
      refine st_v (rv_to (u := .bool true) (rv_eql32 (b := 1#32) rfl rfl) (congrArg Value.bool (decide_eq_true hc36))) (by decide) ?_
      refine st_nil ?_
      refine st_then ?_
      refine st_true rfl ?_
      refine st_region ?_
      refine st_v (rv_move rfl) (by decide) ?_
      refine st_v (rv_move rfl) (by decide) ?_
      refine st_v (rv_move rfl) (by decide) ?_
      refine st_v (rv_move rfl) (by decide) ?_
      refine st_v (rv_assign rfl) (by decide) ?_
      refine st_v (rv_assign rfl) (by decide) ?_
      refine st_v (rv_assign rfl) (by decide) ?_
      refine st_v (rv_assign rfl) (by decide) ?_
      refine st_nil ?_
      refine st_in_normal ?_
      refine st_then ?_
      refine st_region ?_
      refine st_v (rv_move rfl) (by decide) ?_
      first | refine st_v (rv_subN (b := 1) rfl rfl (by first | omega | (simp; done) | (simp; omega))) (by decide) ?_ | refine st_v (rv_subZ rfl rfl (by first | omega | (simp; done) | (simp; omega))) (by decide) ?_
      refine st_v (rv_assign rfl) (by decide) ?_
      refine st_nil ?_
      refine st_then ?_
      exact st_again (j, _, _, _, _) (by (show j ≤ 255); omega) (by (show j < j + 1); omega) (.cons rfl (.cons rfl (.cons rfl (.cons rfl (.cons rfl (.cons rfl (.cons rfl (.cons rfl (.nil _))))))))) (by intro w hM; have hM := (Mem.front (Mem.front (Mem.front (Mem.front (Mem.front (Mem.front (Mem.front (Mem.front (Mem.front (Mem.front (Mem.toRd (Mem.toRd (Mem.toRd (Mem.toRd hM (i := 0) rfl) (i := 3) rfl) (i := 5) rfl) (i := 2) rfl) (i := 26) rfl) (i := 26) rfl) (i := 4) rfl) (i := 25) rfl) (i := 25) rfl) (i := 25) rfl) (i := 25) rfl) (i := 11) rfl) (i := 10) rfl) (i := 9) rfl); have hM := hM.sublist (List.Sublist.cons_cons _ (List.Sublist.cons_cons _ (List.Sublist.cons_cons _ (List.Sublist.cons_cons _ (List.Sublist.cons_cons _ (List.Sublist.cons_cons _ (List.Sublist.cons_cons _ (List.Sublist.cons_cons _ (List.Sublist.cons_cons _ (List.Sublist.cons_cons _ ((List.nil_sublist _)))))))))))); ((try dsimp only [List.map, kst]); rw [hst]; (try dsimp only [rung, swapL, keepL])); exact hM)
    · -- t36 False
      try simp only [z1, z2, z3, z4, z5, z6, z7, z8, z9, z10, z11, z12, z13, z14] at hc36
      have hst := (refS_next n u hI).trans (refStep0 hc36)
      refine st_skip ?_
      refine st_then ?_
      refine st_seq ?_
      refine st_region ?_
      refine st_v (rv_loadW_blk tyA93 rfl (i := 3) rfl rfl) (by decide) ?_
      refine st_v (rv_move rfl) (by decide) ?_
      refine st_v (rv_move rfl) (by decide) ?_
      refine st_call1 (ρ := Value) (fun r => r) (fun _ => True) (fun r => [own r 91 1 (8) ((n32 (8) (((refS n u (255 - (j + 1))).x2 + (refS n u (255 - (j + 1))).z2).val)).map U32)]) cal77 rfl (fun w hM => ((FAddF_calls _ _ _ ((refS n u (255 - (j + 1))).x2) ((refS n u (255 - (j + 1))).z2) w ((rd_own (i := 4) rfl) w hM) ((rd_rd (i := 2) rfl) w hM) ((rd_rd (i := 1) rfl) w hM))).mono fun e w' ⟨r, h1, h2⟩ => ⟨r, h1, trivial, h2⟩) (by decide) (fun r23 _ => ?_)
      refine st_v (rv_assign rfl) (by decide) ?_
      refine st_nil ?_
      refine st_then ?_
      refine st_seq ?_
      refine st_region ?_
      refine st_v (rv_loadW_blk tyA93 rfl (i := 4) rfl rfl) (by decide) ?_
      refine st_v (rv_move rfl) (by decide) ?_
      refine st_v (rv_move rfl) (by decide) ?_
      refine st_call1 (ρ := Value) (fun r => r) (fun _ => True) (fun r => [own r 91 1 (8) ((n32 (8) (((refS n u (255 - (j + 1))).x2 - (refS n u (255 - (j + 1))).z2).val)).map U32)]) cal67 rfl (fun w hM => ((FSubF_calls _ _ _ ((refS n u (255 - (j + 1))).x2) ((refS n u (255 - (j + 1))).z2) w ((rd_own (i := 5) rfl) w hM) ((rd_rd (i := 3) rfl) w hM) ((rd_rd (i := 2) rfl) w hM))).mono fun e w' ⟨r, h1, h2⟩ => ⟨r, h1, trivial, h2⟩) (by decide) (fun r24 _ => ?_)
      refine st_v (rv_assign rfl) (by decide) ?_
      refine st_nil ?_
      refine st_then ?_
      refine st_seq ?_
      refine st_region ?_
      refine st_v (rv_loadW_blk tyA93 rfl (i := 5) rfl rfl) (by decide) ?_
      refine st_v (rv_move rfl) (by decide) ?_
      refine st_v (rv_move rfl) (by decide) ?_
      refine st_call1 (ρ := Value) (fun r => r) (fun _ => True) (fun r => [own r 91 1 (8) ((n32 (8) (((refS n u (255 - (j + 1))).x3 + (refS n u (255 - (j + 1))).z3).val)).map U32)]) cal77 rfl (fun w hM => ((FAddF_calls _ _ _ ((refS n u (255 - (j + 1))).x3) ((refS n u (255 - (j + 1))).z3) w ((rd_own (i := 6) rfl) w hM) ((rd_rd (i := 9) rfl) w hM) ((rd_rd (i := 2) rfl) w hM))).mono fun e w' ⟨r, h1, h2⟩ => ⟨r, h1, trivial, h2⟩) (by decide) (fun r25 _ => ?_)
      refine st_v (rv_assign rfl) (by decide) ?_
      refine st_nil ?_
      refine st_then ?_
      refine st_seq ?_
      refine st_region ?_
      refine st_v (rv_loadW_blk tyA93 rfl (i := 6) rfl rfl) (by decide) ?_
      refine st_v (rv_move rfl) (by decide) ?_
      refine st_v (rv_move rfl) (by decide) ?_
      refine st_call1 (ρ := Value) (fun r => r) (fun _ => True) (fun r => [own r 91 1 (8) ((n32 (8) (((refS n u (255 - (j + 1))).x3 - (refS n u (255 - (j + 1))).z3).val)).map U32)]) cal67 rfl (fun w hM => ((FSubF_calls _ _ _ ((refS n u (255 - (j + 1))).x3) ((refS n u (255 - (j + 1))).z3) w ((rd_own (i := 7) rfl) w hM) ((rd_rd (i := 10) rfl) w hM) ((rd_rd (i := 3) rfl) w hM))).mono fun e w' ⟨r, h1, h2⟩ => ⟨r, h1, trivial, h2⟩) (by decide) (fun r26 _ => ?_)
      refine st_v (rv_assign rfl) (by decide) ?_
      refine st_nil ?_
      refine st_then ?_
      refine st_seq ?_
      refine st_region ?_
      refine st_v (rv_loadW_blk tyA93 rfl (i := 7) rfl rfl) (by decide) ?_
      refine st_v (rv_move rfl) (by decide) ?_
      refine st_v (rv_move rfl) (by decide) ?_
      refine st_call1 (ρ := Value) (fun r => r) (fun _ => True) (fun r => [own r 91 1 (8) ((n32 (8) ((((refS n u (255 - (j + 1))).x2 + (refS n u (255 - (j + 1))).z2) * ((refS n u (255 - (j + 1))).x2 + (refS n u (255 - (j + 1))).z2)).val)).map U32)]) cal66 rfl (fun w hM => ((FMulF_calls _ _ _ (((refS n u (255 - (j + 1))).x2 + (refS n u (255 - (j + 1))).z2)) (((refS n u (255 - (j + 1))).x2 + (refS n u (255 - (j + 1))).z2)) w ((rd_own (i := 8) rfl) w hM) ((rd_own (i := 3) rfl) w hM) ((rd_own (i := 3) rfl) w hM))).mono fun e w' ⟨r, h1, h2⟩ => ⟨r, h1, trivial, h2⟩) (by decide) (fun r27 _ => ?_)
      refine st_v (rv_assign rfl) (by decide) ?_
      refine st_nil ?_
      refine st_then ?_
      refine st_seq ?_
      refine st_region ?_
      refine st_v (rv_loadW_blk tyA93 rfl (i := 8) rfl rfl) (by decide) ?_
      refine st_v (rv_move rfl) (by decide) ?_
      refine st_v (rv_move rfl) (by decide) ?_
      refine st_call1 (ρ := Value) (fun r => r) (fun _ => True) (fun r => [own r 91 1 (8) ((n32 (8) ((((refS n u (255 - (j + 1))).x2 - (refS n u (255 - (j + 1))).z2) * ((refS n u (255 - (j + 1))).x2 - (refS n u (255 - (j + 1))).z2)).val)).map U32)]) cal66 rfl (fun w hM => ((FMulF_calls _ _ _ (((refS n u (255 - (j + 1))).x2 - (refS n u (255 - (j + 1))).z2)) (((refS n u (255 - (j + 1))).x2 - (refS n u (255 - (j + 1))).z2)) w ((rd_own (i := 9) rfl) w hM) ((rd_own (i := 3) rfl) w hM) ((rd_own (i := 3) rfl) w hM))).mono fun e w' ⟨r, h1, h2⟩ => ⟨r, h1, trivial, h2⟩) (by decide) (fun r28 _ => ?_)
      refine st_v (rv_assign rfl) (by decide) ?_
      refine st_nil ?_
      refine st_then ?_
      refine st_seq ?_
      refine st_region ?_
      refine st_v (rv_loadW_blk tyA93 rfl (i := 9) rfl rfl) (by decide) ?_
      refine st_v (rv_move rfl) (by decide) ?_
      refine st_v (rv_move rfl) (by decide) ?_
      refine st_call1 (ρ := Value) (fun r => r) (fun _ => True) (fun r => [own r 91 1 (8) ((n32 (8) (((((refS n u (255 - (j + 1))).x2 + (refS n u (255 - (j + 1))).z2) * ((refS n u (255 - (j + 1))).x2 + (refS n u (255 - (j + 1))).z2)) - (((refS n u (255 - (j + 1))).x2 - (refS n u (255 - (j + 1))).z2) * ((refS n u (255 - (j + 1))).x2 - (refS n u (255 - (j + 1))).z2))).val)).map U32)]) cal67 rfl (fun w hM => ((FSubF_calls _ _ _ ((((refS n u (255 - (j + 1))).x2 + (refS n u (255 - (j + 1))).z2) * ((refS n u (255 - (j + 1))).x2 + (refS n u (255 - (j + 1))).z2))) ((((refS n u (255 - (j + 1))).x2 - (refS n u (255 - (j + 1))).z2) * ((refS n u (255 - (j + 1))).x2 - (refS n u (255 - (j + 1))).z2))) w ((rd_own (i := 10) rfl) w hM) ((rd_own (i := 1) rfl) w hM) ((rd_own (i := 0) rfl) w hM))).mono fun e w' ⟨r, h1, h2⟩ => ⟨r, h1, trivial, h2⟩) (by decide) (fun r29 _ => ?_)
      refine st_v (rv_assign rfl) (by decide) ?_
      refine st_nil ?_
      refine st_then ?_
      refine st_seq ?_
      refine st_region ?_
      refine st_v (rv_loadW_blk tyA93 rfl (i := 10) rfl rfl) (by decide) ?_
      refine st_v (rv_move rfl) (by decide) ?_
      refine st_v (rv_move rfl) (by decide) ?_
      refine st_call1 (ρ := Value) (fun r => r) (fun _ => True) (fun r => [own r 91 1 (8) ((n32 (8) ((((refS n u (255 - (j + 1))).x3 - (refS n u (255 - (j + 1))).z3) * ((refS n u (255 - (j + 1))).x2 + (refS n u (255 - (j + 1))).z2)).val)).map U32)]) cal66 rfl (fun w hM => ((FMulF_calls _ _ _ (((refS n u (255 - (j + 1))).x3 - (refS n u (255 - (j + 1))).z3)) (((refS n u (255 - (j + 1))).x2 + (refS n u (255 - (j + 1))).z2)) w ((rd_own (i := 11) rfl) w hM) ((rd_own (i := 3) rfl) w hM) ((rd_own (i := 6) rfl) w hM))).mono fun e w' ⟨r, h1, h2⟩ => ⟨r, h1, trivial, h2⟩) (by decide) (fun r30 _ => ?_)
      refine st_v (rv_assign rfl) (by decide) ?_
      refine st_nil ?_
      refine st_then ?_
      refine st_seq ?_
      refine st_region ?_
      refine st_v (rv_loadW_blk tyA93 rfl (i := 11) rfl rfl) (by decide) ?_
      refine st_v (rv_move rfl) (by decide) ?_
      refine st_v (rv_move rfl) (by decide) ?_
      refine st_call1 (ρ := Value) (fun r => r) (fun _ => True) (fun r => [own r 91 1 (8) ((n32 (8) ((((refS n u (255 - (j + 1))).x3 + (refS n u (255 - (j + 1))).z3) * ((refS n u (255 - (j + 1))).x2 - (refS n u (255 - (j + 1))).z2)).val)).map U32)]) cal66 rfl (fun w hM => ((FMulF_calls _ _ _ (((refS n u (255 - (j + 1))).x3 + (refS n u (255 - (j + 1))).z3)) (((refS n u (255 - (j + 1))).x2 - (refS n u (255 - (j + 1))).z2)) w ((rd_own (i := 12) rfl) w hM) ((rd_own (i := 5) rfl) w hM) ((rd_own (i := 6) rfl) w hM))).mono fun e w' ⟨r, h1, h2⟩ => ⟨r, h1, trivial, h2⟩) (by decide) (fun r31 _ => ?_)
      refine st_v (rv_assign rfl) (by decide) ?_
      refine st_nil ?_
      refine st_then ?_
      refine st_seq ?_
      refine st_region ?_
      refine st_v (rv_loadW_blk tyA93 rfl (i := 12) rfl rfl) (by decide) ?_
      refine st_v (rv_move rfl) (by decide) ?_
      refine st_v (rv_move rfl) (by decide) ?_
      refine st_call1 (ρ := Value) (fun r => r) (fun _ => True) (fun r => [own r 91 1 (8) ((n32 (8) (((((refS n u (255 - (j + 1))).x3 - (refS n u (255 - (j + 1))).z3) * ((refS n u (255 - (j + 1))).x2 + (refS n u (255 - (j + 1))).z2)) + (((refS n u (255 - (j + 1))).x3 + (refS n u (255 - (j + 1))).z3) * ((refS n u (255 - (j + 1))).x2 - (refS n u (255 - (j + 1))).z2))).val)).map U32)]) cal77 rfl (fun w hM => ((FAddF_calls _ _ _ ((((refS n u (255 - (j + 1))).x3 - (refS n u (255 - (j + 1))).z3) * ((refS n u (255 - (j + 1))).x2 + (refS n u (255 - (j + 1))).z2))) ((((refS n u (255 - (j + 1))).x3 + (refS n u (255 - (j + 1))).z3) * ((refS n u (255 - (j + 1))).x2 - (refS n u (255 - (j + 1))).z2))) w ((rd_own (i := 13) rfl) w hM) ((rd_own (i := 1) rfl) w hM) ((rd_own (i := 0) rfl) w hM))).mono fun e w' ⟨r, h1, h2⟩ => ⟨r, h1, trivial, h2⟩) (by decide) (fun r32 _ => ?_)
      refine st_v (rv_assign rfl) (by decide) ?_
      refine st_nil ?_
      refine st_then ?_
      refine st_seq ?_
      refine st_region ?_
      refine st_v (rv_loadW_blk tyA93 rfl (i := 13) rfl rfl) (by decide) ?_
      refine st_v (rv_move rfl) (by decide) ?_
      refine st_v (rv_move rfl) (by decide) ?_
      refine st_call1 (ρ := Value) (fun r => r) (fun _ => True) (fun r => [own r 91 1 (8) ((n32 (8) (((((refS n u (255 - (j + 1))).x3 - (refS n u (255 - (j + 1))).z3) * ((refS n u (255 - (j + 1))).x2 + (refS n u (255 - (j + 1))).z2)) - (((refS n u (255 - (j + 1))).x3 + (refS n u (255 - (j + 1))).z3) * ((refS n u (255 - (j + 1))).x2 - (refS n u (255 - (j + 1))).z2))).val)).map U32)]) cal67 rfl (fun w hM => ((FSubF_calls _ _ _ ((((refS n u (255 - (j + 1))).x3 - (refS n u (255 - (j + 1))).z3) * ((refS n u (255 - (j + 1))).x2 + (refS n u (255 - (j + 1))).z2))) ((((refS n u (255 - (j + 1))).x3 + (refS n u (255 - (j + 1))).z3) * ((refS n u (255 - (j + 1))).x2 - (refS n u (255 - (j + 1))).z2))) w ((rd_own (i := 14) rfl) w hM) ((rd_own (i := 2) rfl) w hM) ((rd_own (i := 1) rfl) w hM))).mono fun e w' ⟨r, h1, h2⟩ => ⟨r, h1, trivial, h2⟩) (by decide) (fun r33 _ => ?_)
      refine st_v (rv_assign rfl) (by decide) ?_
      refine st_nil ?_
      refine st_then ?_
      refine st_seq ?_
      refine st_region ?_
      refine st_v (rv_loadW_blk tyA93 rfl (i := 14) rfl rfl) (by decide) ?_
      refine st_v (rv_move rfl) (by decide) ?_
      refine st_v (rv_move rfl) (by decide) ?_
      refine st_call1 (ρ := Value) (fun r => r) (fun _ => True) (fun r => [own r 91 1 (8) ((n32 (8) ((((((refS n u (255 - (j + 1))).x3 - (refS n u (255 - (j + 1))).z3) * ((refS n u (255 - (j + 1))).x2 + (refS n u (255 - (j + 1))).z2)) + (((refS n u (255 - (j + 1))).x3 + (refS n u (255 - (j + 1))).z3) * ((refS n u (255 - (j + 1))).x2 - (refS n u (255 - (j + 1))).z2))) * ((((refS n u (255 - (j + 1))).x3 - (refS n u (255 - (j + 1))).z3) * ((refS n u (255 - (j + 1))).x2 + (refS n u (255 - (j + 1))).z2)) + (((refS n u (255 - (j + 1))).x3 + (refS n u (255 - (j + 1))).z3) * ((refS n u (255 - (j + 1))).x2 - (refS n u (255 - (j + 1))).z2)))).val)).map U32)]) cal66 rfl (fun w hM => ((FMulF_calls _ _ _ (((((refS n u (255 - (j + 1))).x3 - (refS n u (255 - (j + 1))).z3) * ((refS n u (255 - (j + 1))).x2 + (refS n u (255 - (j + 1))).z2)) + (((refS n u (255 - (j + 1))).x3 + (refS n u (255 - (j + 1))).z3) * ((refS n u (255 - (j + 1))).x2 - (refS n u (255 - (j + 1))).z2)))) (((((refS n u (255 - (j + 1))).x3 - (refS n u (255 - (j + 1))).z3) * ((refS n u (255 - (j + 1))).x2 + (refS n u (255 - (j + 1))).z2)) + (((refS n u (255 - (j + 1))).x3 + (refS n u (255 - (j + 1))).z3) * ((refS n u (255 - (j + 1))).x2 - (refS n u (255 - (j + 1))).z2)))) w ((rd_own (i := 15) rfl) w hM) ((rd_own (i := 1) rfl) w hM) ((rd_own (i := 1) rfl) w hM))).mono fun e w' ⟨r, h1, h2⟩ => ⟨r, h1, trivial, h2⟩) (by decide) (fun r34 _ => ?_)
      refine st_v (rv_assign rfl) (by decide) ?_
      refine st_nil ?_
      refine st_then ?_
      refine st_seq ?_
      refine st_drawStart mixed ?_
      refine st_drawSeg1 (E0 := [(0, _), (1, _), (5, _), (8, _), (9, _), (10, _), (11, _), (16, _), (17, _), (18, _), (22, _)]) [kpeq _, kpeq _, kpeq _, kpeq _, kpeq _, (fun _ v => own v 91 1 8 ((n32 8 ((((((refS n u (255 - (j + 1))).x3 - (refS n u (255 - (j + 1))).z3) * ((refS n u (255 - (j + 1))).x2 + (refS n u (255 - (j + 1))).z2)) - (((refS n u (255 - (j + 1))).x3 + (refS n u (255 - (j + 1))).z3) * ((refS n u (255 - (j + 1))).x2 - (refS n u (255 - (j + 1))).z2))) * ((((refS n u (255 - (j + 1))).x3 - (refS n u (255 - (j + 1))).z3) * ((refS n u (255 - (j + 1))).x2 + (refS n u (255 - (j + 1))).z2)) - (((refS n u (255 - (j + 1))).x3 + (refS n u (255 - (j + 1))).z3) * ((refS n u (255 - (j + 1))).x2 - (refS n u (255 - (j + 1))).z2))))).val).map U32))] 0 6 [0, 0, 0, 0, 0, 28, 63, 127] [0, 1, 5, 8, 9, 10, 11, 16, 17, 18, 22] (by kernel_rfl) (by decide) (by kernel_rfl) (.cons rfl (.cons rfl (.cons rfl (.cons rfl (.cons rfl (.cons rfl (.cons rfl (.cons rfl (.cons rfl (.cons rfl (.cons rfl (.nil _)))))))))))) rfl rfl (hall_cons (hop_val [] [] rfl rfl rfl (by decide) rfl (jnil) (xnil) (fun _ _ _ _ => does_v (rv_loadW_blk tyA93 rfl (i := 15) rfl rfl))) (hall_cons (hop_mv rfl (by decide) rfl rfl) (hall_cons (hop_val [] [] rfl rfl rfl (by decide) rfl (jnil) (xnil) (fun _ _ _ _ => does_v (rv_loadW_blk tyA93 rfl (i := 15) rfl rfl))) (hall_cons (hop_mv rfl (by decide) rfl rfl) (hall_cons (hop_mv rfl (by decide) rfl rfl) (hall_cons (hop_val [(2, 91, _), (3, 92, _), (4, 93, _)] [] rfl rfl rfl (by decide) rfl (jcons rfl rfl rfl rfl rfl (jcons rfl rfl rfl rfl rfl (jcons rfl rfl rfl rfl rfl (jnil)))) (xnil) (fun _ _ _ _ => does_call cal66 rfl (fun w hM => (FMulF_calls _ _ _ (((((refS n u (255 - (j + 1))).x3 - (refS n u (255 - (j + 1))).z3) * ((refS n u (255 - (j + 1))).x2 + (refS n u (255 - (j + 1))).z2)) - (((refS n u (255 - (j + 1))).x3 + (refS n u (255 - (j + 1))).z3) * ((refS n u (255 - (j + 1))).x2 - (refS n u (255 - (j + 1))).z2)))) (((((refS n u (255 - (j + 1))).x3 - (refS n u (255 - (j + 1))).z3) * ((refS n u (255 - (j + 1))).x2 + (refS n u (255 - (j + 1))).z2)) - (((refS n u (255 - (j + 1))).x3 + (refS n u (255 - (j + 1))).z3) * ((refS n u (255 - (j + 1))).x2 - (refS n u (255 - (j + 1))).z2)))) w ((rd_own (i := 16) rfl) w hM) ((rd_own (i := 1) rfl) w hM) ((rd_own (i := 1) rfl) w hM))))) (hall_nil))))))) (draw_end [(0, 89, _), (1, 90, _)] [(5, 94, (fun _ v => own v 91 1 8 ((n32 8 ((((((refS n u (255 - (j + 1))).x3 - (refS n u (255 - (j + 1))).z3) * ((refS n u (255 - (j + 1))).x2 + (refS n u (255 - (j + 1))).z2)) - (((refS n u (255 - (j + 1))).x3 + (refS n u (255 - (j + 1))).z3) * ((refS n u (255 - (j + 1))).x2 - (refS n u (255 - (j + 1))).z2))) * ((((refS n u (255 - (j + 1))).x3 - (refS n u (255 - (j + 1))).z3) * ((refS n u (255 - (j + 1))).x2 + (refS n u (255 - (j + 1))).z2)) - (((refS n u (255 - (j + 1))).x3 + (refS n u (255 - (j + 1))).z3) * ((refS n u (255 - (j + 1))).x2 - (refS n u (255 - (j + 1))).z2))))).val).map U32)))] rfl (jcons rfl rfl rfl rfl rfl (jcons rfl rfl rfl rfl rfl (jnil))) (xcons rfl rfl rfl rfl rfl rfl (xnil)) (fun vals => ?_))
      dsimp only [xenv, xmem]
      refine st_drawTail (N := 6) [0, 0, 0, 0, 0, 28, 63, 127] (by kernel_rfl) (by kernel_rfl) ?_
      refine st_call1 (ρ := Value) (fun r => r) (fun _ => True) (fun r => [own r 91 1 (8) ((n32 (8) ((u * (((((refS n u (255 - (j + 1))).x3 - (refS n u (255 - (j + 1))).z3) * ((refS n u (255 - (j + 1))).x2 + (refS n u (255 - (j + 1))).z2)) - (((refS n u (255 - (j + 1))).x3 + (refS n u (255 - (j + 1))).z3) * ((refS n u (255 - (j + 1))).x2 - (refS n u (255 - (j + 1))).z2))) * ((((refS n u (255 - (j + 1))).x3 - (refS n u (255 - (j + 1))).z3) * ((refS n u (255 - (j + 1))).x2 + (refS n u (255 - (j + 1))).z2)) - (((refS n u (255 - (j + 1))).x3 + (refS n u (255 - (j + 1))).z3) * ((refS n u (255 - (j + 1))).x2 - (refS n u (255 - (j + 1))).z2))))).val)).map U32)]) cal66 rfl (fun w hM => ((FMulF_calls _ _ _ (u) ((((((refS n u (255 - (j + 1))).x3 - (refS n u (255 - (j + 1))).z3) * ((refS n u (255 - (j + 1))).x2 + (refS n u (255 - (j + 1))).z2)) - (((refS n u (255 - (j + 1))).x3 + (refS n u (255 - (j + 1))).z3) * ((refS n u (255 - (j + 1))).x2 - (refS n u (255 - (j + 1))).z2))) * ((((refS n u (255 - (j + 1))).x3 - (refS n u (255 - (j + 1))).z3) * ((refS n u (255 - (j + 1))).x2 + (refS n u (255 - (j + 1))).z2)) - (((refS n u (255 - (j + 1))).x3 + (refS n u (255 - (j + 1))).z3) * ((refS n u (255 - (j + 1))).x2 - (refS n u (255 - (j + 1))).z2))))) w ((rd_own (i := 17) rfl) w hM) ((rd_rd (i := 19) rfl) w hM) ((rd_own (i := 0) rfl) w hM))).mono fun e w' ⟨r, h1, h2⟩ => ⟨r, h1, trivial, h2⟩) (by decide) (fun r36 _ => ?_)
      refine st_v (rv_assign rfl) (by decide) ?_
      refine st_nil ?_
      refine st_then ?_
      refine st_seq ?_
      refine st_region ?_
      refine st_v (rv_loadW_blk tyA93 rfl (i := 17) rfl rfl) (by decide) ?_
      refine st_v (rv_move rfl) (by decide) ?_
      refine st_v (rv_move rfl) (by decide) ?_
      refine st_call1 (ρ := Value) (fun r => r) (fun _ => True) (fun r => [own r 91 1 (8) ((n32 (8) (((((refS n u (255 - (j + 1))).x2 + (refS n u (255 - (j + 1))).z2) * ((refS n u (255 - (j + 1))).x2 + (refS n u (255 - (j + 1))).z2)) * (((refS n u (255 - (j + 1))).x2 - (refS n u (255 - (j + 1))).z2) * ((refS n u (255 - (j + 1))).x2 - (refS n u (255 - (j + 1))).z2))).val)).map U32)]) cal66 rfl (fun w hM => ((FMulF_calls _ _ _ ((((refS n u (255 - (j + 1))).x2 + (refS n u (255 - (j + 1))).z2) * ((refS n u (255 - (j + 1))).x2 + (refS n u (255 - (j + 1))).z2))) ((((refS n u (255 - (j + 1))).x2 - (refS n u (255 - (j + 1))).z2) * ((refS n u (255 - (j + 1))).x2 - (refS n u (255 - (j + 1))).z2))) w ((rd_own (i := 18) rfl) w hM) ((rd_own (i := 9) rfl) w hM) ((rd_own (i := 8) rfl) w hM))).mono fun e w' ⟨r, h1, h2⟩ => ⟨r, h1, trivial, h2⟩) (by decide) (fun r37 _ => ?_)
      refine st_v (rv_assign rfl) (by decide) ?_
      refine st_nil ?_
      refine st_then ?_
      refine st_seq ?_
      refine st_drawStart mixed ?_
      refine st_drawSeg1 (E0 := [(0, _), (1, _), (5, _), (6, _), (8, _), (9, _), (10, _), (11, _), (16, _), (18, _)]) [kpeq _, kpeq _, kpeq _, kpeq _, kpeq _, (fun _ v => own v 91 1 8 ((n32 8 (fN 121665).val).map U32)), kpeq _, (fun _ v => own v 91 1 8 ((n32 8 ((fN 121665 * ((((refS n u (255 - (j + 1))).x2 + (refS n u (255 - (j + 1))).z2) * ((refS n u (255 - (j + 1))).x2 + (refS n u (255 - (j + 1))).z2)) - (((refS n u (255 - (j + 1))).x2 - (refS n u (255 - (j + 1))).z2) * ((refS n u (255 - (j + 1))).x2 - (refS n u (255 - (j + 1))).z2))))).val).map U32)), (fun _ v => own v 91 1 8 ((n32 8 (((((refS n u (255 - (j + 1))).x2 + (refS n u (255 - (j + 1))).z2) * ((refS n u (255 - (j + 1))).x2 + (refS n u (255 - (j + 1))).z2)) + (fN 121665 * ((((refS n u (255 - (j + 1))).x2 + (refS n u (255 - (j + 1))).z2) * ((refS n u (255 - (j + 1))).x2 + (refS n u (255 - (j + 1))).z2)) - (((refS n u (255 - (j + 1))).x2 - (refS n u (255 - (j + 1))).z2) * ((refS n u (255 - (j + 1))).x2 - (refS n u (255 - (j + 1))).z2)))))).val).map U32))] 0 9 [0, 0, 0, 0, 0, 0, 0, 112, 252, 511, 1023] [0, 1, 5, 6, 8, 9, 10, 11, 16, 18] (by kernel_rfl) (by decide) (by kernel_rfl) (.cons rfl (.cons rfl (.cons rfl (.cons rfl (.cons rfl (.cons rfl (.cons rfl (.cons rfl (.cons rfl (.cons rfl (.nil _))))))))))) rfl rfl (hall_cons (hop_val [] [] rfl rfl rfl (by decide) rfl (jnil) (xnil) (fun _ _ _ _ => does_v (rv_loadW_blk tyA93 rfl (i := 18) rfl rfl))) (hall_cons (hop_mv rfl (by decide) rfl rfl) (hall_cons (hop_val [] [] rfl rfl rfl (by decide) rfl (jnil) (xnil) (fun _ _ _ _ => does_v (rv_loadW_blk tyA93 rfl (i := 18) rfl rfl))) (hall_cons (hop_mv rfl (by decide) rfl rfl) (hall_cons (hop_val [] [] rfl rfl rfl (by decide) rfl (jnil) (xnil) (fun _ _ _ _ => does_v (rv_loadW_blk tyA93 rfl (i := 18) rfl rfl))) (hall_cons (hop_val [] [] rfl rfl rfl (by decide) rfl (jnil) (xnil) (fun _ _ _ _ => does_call cal62 rfl (fun w hM => (rSmall_calls 121665 (by decide) w)))) (hall_cons (hop_mv rfl (by decide) rfl rfl) (hall_cons (hop_val [(4, 104, _), (6, 106, _)] [(5, 105, _)] rfl rfl rfl (by decide) rfl (jcons rfl rfl rfl rfl rfl (jcons rfl rfl rfl rfl rfl (jnil))) (xcons rfl rfl rfl rfl rfl rfl (xnil)) (fun _ _ _ _ => does_call cal66 rfl (fun w hM => (FMulF_calls _ _ _ (fN 121665) (((((refS n u (255 - (j + 1))).x2 + (refS n u (255 - (j + 1))).z2) * ((refS n u (255 - (j + 1))).x2 + (refS n u (255 - (j + 1))).z2)) - (((refS n u (255 - (j + 1))).x2 - (refS n u (255 - (j + 1))).z2) * ((refS n u (255 - (j + 1))).x2 - (refS n u (255 - (j + 1))).z2)))) w ((rd_own (i := 20) rfl) w hM) ((rd_own (i := 0) rfl) w hM) ((rd_own (i := 9) rfl) w hM))))) (hall_cons (hop_val [(2, 102, _), (3, 103, _)] [(7, 107, _)] rfl rfl rfl (by decide) rfl (jcons rfl rfl rfl rfl rfl (jcons rfl rfl rfl rfl rfl (jnil))) (xcons rfl rfl rfl rfl rfl rfl (xnil)) (fun _ _ _ _ => does_call cal77 rfl (fun w hM => (FAddF_calls _ _ _ ((((refS n u (255 - (j + 1))).x2 + (refS n u (255 - (j + 1))).z2) * ((refS n u (255 - (j + 1))).x2 + (refS n u (255 - (j + 1))).z2))) ((fN 121665 * ((((refS n u (255 - (j + 1))).x2 + (refS n u (255 - (j + 1))).z2) * ((refS n u (255 - (j + 1))).x2 + (refS n u (255 - (j + 1))).z2)) - (((refS n u (255 - (j + 1))).x2 - (refS n u (255 - (j + 1))).z2) * ((refS n u (255 - (j + 1))).x2 - (refS n u (255 - (j + 1))).z2))))) w ((rd_own (i := 20) rfl) w hM) ((rd_own (i := 11) rfl) w hM) ((rd_own (i := 0) rfl) w hM))))) (hall_nil)))))))))) (draw_end [(0, 100, _), (1, 101, _)] [(8, 108, (fun _ v => own v 91 1 8 ((n32 8 (((((refS n u (255 - (j + 1))).x2 + (refS n u (255 - (j + 1))).z2) * ((refS n u (255 - (j + 1))).x2 + (refS n u (255 - (j + 1))).z2)) + (fN 121665 * ((((refS n u (255 - (j + 1))).x2 + (refS n u (255 - (j + 1))).z2) * ((refS n u (255 - (j + 1))).x2 + (refS n u (255 - (j + 1))).z2)) - (((refS n u (255 - (j + 1))).x2 - (refS n u (255 - (j + 1))).z2) * ((refS n u (255 - (j + 1))).x2 - (refS n u (255 - (j + 1))).z2)))))).val).map U32)))] rfl (jcons rfl rfl rfl rfl rfl (jcons rfl rfl rfl rfl rfl (jnil))) (xcons rfl rfl rfl rfl rfl rfl (xnil)) (fun vals => ?_))
      dsimp only [xenv, xmem]
      refine st_drawTail (N := 9) [0, 0, 0, 0, 0, 0, 0, 112, 252, 511, 1023] (by kernel_rfl) (by kernel_rfl) ?_
      refine st_call1 (ρ := Value) (fun r => r) (fun _ => True) (fun r => [own r 91 1 (8) ((n32 (8) ((((((refS n u (255 - (j + 1))).x2 + (refS n u (255 - (j + 1))).z2) * ((refS n u (255 - (j + 1))).x2 + (refS n u (255 - (j + 1))).z2)) - (((refS n u (255 - (j + 1))).x2 - (refS n u (255 - (j + 1))).z2) * ((refS n u (255 - (j + 1))).x2 - (refS n u (255 - (j + 1))).z2))) * ((((refS n u (255 - (j + 1))).x2 + (refS n u (255 - (j + 1))).z2) * ((refS n u (255 - (j + 1))).x2 + (refS n u (255 - (j + 1))).z2)) + (fN 121665 * ((((refS n u (255 - (j + 1))).x2 + (refS n u (255 - (j + 1))).z2) * ((refS n u (255 - (j + 1))).x2 + (refS n u (255 - (j + 1))).z2)) - (((refS n u (255 - (j + 1))).x2 - (refS n u (255 - (j + 1))).z2) * ((refS n u (255 - (j + 1))).x2 - (refS n u (255 - (j + 1))).z2)))))).val)).map U32)]) cal66 rfl (fun w hM => ((FMulF_calls _ _ _ (((((refS n u (255 - (j + 1))).x2 + (refS n u (255 - (j + 1))).z2) * ((refS n u (255 - (j + 1))).x2 + (refS n u (255 - (j + 1))).z2)) - (((refS n u (255 - (j + 1))).x2 - (refS n u (255 - (j + 1))).z2) * ((refS n u (255 - (j + 1))).x2 - (refS n u (255 - (j + 1))).z2)))) (((((refS n u (255 - (j + 1))).x2 + (refS n u (255 - (j + 1))).z2) * ((refS n u (255 - (j + 1))).x2 + (refS n u (255 - (j + 1))).z2)) + (fN 121665 * ((((refS n u (255 - (j + 1))).x2 + (refS n u (255 - (j + 1))).z2) * ((refS n u (255 - (j + 1))).x2 + (refS n u (255 - (j + 1))).z2)) - (((refS n u (255 - (j + 1))).x2 - (refS n u (255 - (j + 1))).z2) * ((refS n u (255 - (j + 1))).x2 - (refS n u (255 - (j + 1))).z2)))))) w ((rd_own (i := 20) rfl) w hM) ((rd_own (i := 9) rfl) w hM) ((rd_own (i := 0) rfl) w hM))).mono fun e w' ⟨r, h1, h2⟩ => ⟨r, h1, trivial, h2⟩) (by decide) (fun r39 _ => ?_)
      refine st_v (rv_assign rfl) (by decide) ?_
      refine st_nil ?_
      refine st_then ?_
      refine st_seq ?_
      refine st_region ?_
      refine st_v (rv_move rfl) (by decide) ?_
      refine st_v (rv_to (u := .bool false) (rv_eql32 (b := 1#32) rfl rfl) (congrArg Value.bool (decide_eq_false hc36))) (by decide) ?_
      refine st_nil ?_
      refine st_then ?_
      refine st_false rfl ?_
      refine st_skip ?_
      refine st_in_normal ?_
      refine st_then ?_
      refine st_region ?_
      refine st_v (rv_move rfl) (by decide) ?_
      first | refine st_v (rv_subN (b := 1) rfl rfl (by first | omega | (simp; done) | (simp; omega))) (by decide) ?_ | refine st_v (rv_subZ rfl rfl (by first | omega | (simp; done) | (simp; omega))) (by decide) ?_
      refine st_v (rv_assign rfl) (by decide) ?_
      refine st_nil ?_
      refine st_then ?_
      exact st_again (j, _, _, _, _) (by (show j ≤ 255); omega) (by (show j < j + 1); omega) (.cons rfl (.cons rfl (.cons rfl (.cons rfl (.cons rfl (.cons rfl (.cons rfl (.cons rfl (.nil _))))))))) (by intro w hM; have hM := (Mem.front (Mem.front (Mem.front (Mem.front (Mem.front (Mem.front (Mem.front (Mem.front (Mem.front (Mem.front (Mem.toRd (Mem.toRd (Mem.toRd (Mem.toRd hM (i := 3) rfl) (i := 0) rfl) (i := 2) rfl) (i := 5) rfl) (i := 26) rfl) (i := 26) rfl) (i := 7) rfl) (i := 25) rfl) (i := 25) rfl) (i := 25) rfl) (i := 25) rfl) (i := 9) rfl) (i := 8) rfl) (i := 10) rfl); have hM := hM.sublist (List.Sublist.cons_cons _ (List.Sublist.cons_cons _ (List.Sublist.cons_cons _ (List.Sublist.cons_cons _ (List.Sublist.cons_cons _ (List.Sublist.cons_cons _ (List.Sublist.cons_cons _ (List.Sublist.cons_cons _ (List.Sublist.cons_cons _ (List.Sublist.cons_cons _ ((List.nil_sublist _)))))))))))); ((try dsimp only [List.map, kst]); rw [hst]; (try dsimp only [rung, swapL, keepL])); exact hM)
  · -- t29 False
    try simp only [z1, z2, z3, z4, z5, z6, z7, z8, z9, z10, z11, z12, z13, z14] at hc29
    obtain rfl : k = 0 := by omega
    refine st_exit ?_
    refine st_then_exit ?_
    refine st_then_exit ?_
    refine st_in_exit ?_
    refine st_then ?_
    refine st_seq ?_
    refine st_drawStart mixed ?_
    refine st_drawSeg1 (E0 := [(5, _), (6, _), (7, _)]) [kpeq _, kpeq _, kpeq _, kpeq _, (fun _ v => own v 91 1 8 ((n32 8 (finv (refS n u 255).z2).val).map U32))] 0 5 [0, 0, 0, 0, 12, 31, 63] [5, 6, 7] (by kernel_rfl) (by decide) (by kernel_rfl) (.cons rfl (.cons rfl (.cons rfl (.nil _)))) rfl rfl (hall_cons (hop_val [] [] rfl rfl rfl (by decide) rfl (jnil) (xnil) (fun _ _ _ _ => does_v (rv_loadW_blk tyA93 rfl (i := 3) rfl rfl))) (hall_cons (hop_mv rfl (by decide) rfl rfl) (hall_cons (hop_val [] [] rfl rfl rfl (by decide) rfl (jnil) (xnil) (fun _ _ _ _ => does_v (rv_loadW_blk tyA93 rfl (i := 3) rfl rfl))) (hall_cons (hop_mv rfl (by decide) rfl rfl) (hall_cons (hop_val [(2, 118, _), (3, 119, _)] [] rfl rfl rfl (by decide) rfl (jcons rfl rfl rfl rfl rfl (jcons rfl rfl rfl rfl rfl (jnil))) (xnil) (fun _ _ _ _ => does_call cal68 rfl (fun w hM => (FInv_calls genP goodP _ _ (refS n u 255).z2 w ((rd_own (i := 4) rfl) w hM) ((rd_rd (i := 1) rfl) w hM))))) (hall_nil)))))) (draw_end [(0, 116, _), (1, 117, _)] [(4, 120, (fun _ v => own v 91 1 8 ((n32 8 (finv (refS n u 255).z2).val).map U32)))] rfl (jcons rfl rfl rfl rfl rfl (jcons rfl rfl rfl rfl rfl (jnil))) (xcons rfl rfl rfl rfl rfl rfl (xnil)) (fun vals => ?_))
    dsimp only [xenv, xmem]
    refine st_drawTail (N := 5) [0, 0, 0, 0, 12, 31, 63] (by kernel_rfl) (by kernel_rfl) ?_
    refine st_call1 (ρ := Value) (fun r => r) (fun _ => True) (fun r => [own r 91 1 (8) ((n32 (8) (((refS n u 255).x2 * finv (refS n u 255).z2).val)).map U32)]) cal66 rfl (fun w hM => ((FMulF_calls _ _ _ (refS n u 255).x2 (finv (refS n u 255).z2) w ((rd_own (i := 5) rfl) w hM) ((rd_rd (i := 3) rfl) w hM) ((rd_own (i := 0) rfl) w hM))).mono fun e w' ⟨r, h1, h2⟩ => ⟨r, h1, trivial, h2⟩) (by decide) (fun r41 _ => ?_)
    refine st_v (rv_assign rfl) (by decide) ?_
    refine st_nil ?_
    refine st_then ?_
    refine st_ret ?_
    exact st_done rfl rfl (fun w hM => ⟨_, rfl, by (have h1 := Mem.leave2 (Mem.sublist (Mem.front (Mem.front (Mem.front hM (i := 11) rfl) (i := 11) rfl) (i := 2) rfl) (List.Sublist.cons_cons _ (List.Sublist.cons_cons _ (List.Sublist.cons_cons _ ((List.nil_sublist _)))))) own_turn); rw [ladder_ref] at h1; exact h1⟩)
end Go.Proofs.YtjhjjhpfjadjpaaDoor
