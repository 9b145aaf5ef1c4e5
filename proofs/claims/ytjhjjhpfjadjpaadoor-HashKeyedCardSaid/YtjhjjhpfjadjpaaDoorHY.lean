/- Walks: what functions of the given program do, operation by operation. Written by wip/gen. -/
import Derived.Test.YtjhjjhpfjadjpaaDoorHX
import Derived.Test.YtjhjjhpfjadjpaaDoorVW
namespace Go.Proofs.YtjhjjhpfjadjpaaDoor
set_option linter.all false
open Go
set_option maxRecDepth 20000 in
theorem Info_calls (label ctx : List (BitVec 8)) (N : Nat) (hN : N ≤ 65535) (hl : label.length ≤ 249) (hc : ctx.length ≤ 255) (w : World) : Calls Tryd.prog 91 #[vS label, vS ctx, vI (N : Nat)] w (fun r w' => r = .returned (vS (infoW label ctx N)) ∧ Mem (All w) w w' []) := by
  refine calls_of_st (n := 27) (args := [vS label, vS ctx, vI (N : Nat)]) Tryd.func91 rfl Tryd.ntmps91 (Nat.le_of_ble_eq_true rfl) (Mem.all w) ?_
  refine st_seq ?_
  refine st_region ?_
  refine st_v (rv_assign rfl) (by decide) ?_
  refine st_nil ?_
  refine st_then ?_
  refine st_seq ?_
  refine st_region ?_
  refine st_v (rv_move rfl) (by decide) ?_
  refine st_v (rv_concat (a := [116#8, 108#8, 115#8, 49#8, 51#8, 32#8]) rfl rfl (by first | omega | (simp <;> omega))) (by decide) ?_
  refine st_v (rv_assign rfl) (by decide) ?_
  refine st_nil ?_
  refine st_then ?_
  refine st_seq ?_
  refine st_region ?_
  refine st_v (rv_move rfl) (by decide) ?_
  refine st_v (rv_convIto64 Tryd.underlying3 Tryd.underlying77 rfl) (by decide) ?_
  refine st_call0 cal125 rfl (fun w hM => (by have := number_calls (BitVec.ofNat 64 N) 2 (by decide) w; rwa [num2 N hN] at this)) (by decide) ?_
  refine st_v (rv_move rfl) (by decide) ?_
  refine st_v (rv_lenB Tryd.underlying9 rfl) (by decide) ?_
  refine st_v (rv_convIto64 Tryd.underlying3 Tryd.underlying77 rfl) (by decide) ?_
  refine st_call0 cal125 rfl (fun w hM => (by have := number_calls (BitVec.ofNat 64 (pre13 ++ label).length) 1 (by decide) w; rwa [num1 _ (by first | omega | (simp [pre13]; omega))] at this)) (by decide) ?_
  refine st_v (rv_concat rfl rfl (by first | omega | (simp <;> omega))) (by decide) ?_
  refine st_v (rv_move rfl) (by decide) ?_
  refine st_v (rv_concat rfl rfl (by first | omega | (simp <;> omega))) (by decide) ?_
  refine st_v (rv_move rfl) (by decide) ?_
  refine st_v (rv_lenB Tryd.underlying9 rfl) (by decide) ?_
  refine st_v (rv_convIto64 Tryd.underlying3 Tryd.underlying77 rfl) (by decide) ?_
  refine st_call0 cal125 rfl (fun w hM => (by have := number_calls (BitVec.ofNat 64 ctx.length) 1 (by decide) w; rwa [num1 _ (by first | omega | (simp [pre13]; omega))] at this)) (by decide) ?_
  refine st_v (rv_concat rfl rfl (by first | omega | (simp <;> omega))) (by decide) ?_
  refine st_v (rv_move rfl) (by decide) ?_
  refine st_v (rv_concat rfl rfl (by first | omega | (simp <;> omega))) (by decide) ?_
  refine st_v (rv_assign rfl) (by decide) ?_
  refine st_nil ?_
  refine st_then ?_
  refine st_ret ?_
  exact st_done rfl rfl (fun w hM => ⟨by rw [show (pre13 ++ label).length = 6 + label.length from by simp [pre13]; omega]; simp [infoW, pre13], hM.sublist (List.nil_sublist _)⟩)
set_option maxRecDepth 20000 in
theorem rLong_calls (k : Nat) (hk : k ≤ 2) (n : Int) (w : World) : Calls Tryd.prog 44 #[vI (k : Nat), vI n] w (fun r w' => r = .returned (.bool (longZ k n)) ∧ Mem (All w) w w' []) := by
  have h64 := hsize_le k
  refine calls_of_st (n := 14) (args := [vI (k : Nat), vI n]) Tryd.func44 rfl Tryd.ntmps44 (Nat.le_of_ble_eq_true rfl) (Mem.all w) ?_
  refine st_seq ?_
  refine st_region ?_
  refine st_v (rv_assign rfl) (by decide) ?_
  refine st_nil ?_
  refine st_then ?_
  refine st_seq ?_
  refine st_region ?_
  refine st_v (rv_move rfl) (by decide) ?_
  refine st_v (rv_lssZ rfl rfl) (by decide) ?_
  refine st_v (rv_move rfl) (by decide) ?_
  refine' st_or 6 (L := _) (s := 7) (d := 13) [4] rfl (fun hg3 => ?_) (fun _ => ?_) ?_; rotate_left
  · -- true
    refine st_gskip rfl rfl rfl (by decide) ?_
    refine st_gskip rfl rfl rfl (by decide) ?_
    refine st_gskip rfl rfl rfl (by decide) ?_
    refine st_gskip rfl rfl rfl (by decide) ?_
    refine st_gskip rfl rfl rfl (by decide) ?_
    first | refine st_v (rv_pick_true rfl rfl) (by decide) ?_ | refine st_v (rv_pick_false rfl rfl) (by decide) ?_ | refine st_v (rv_pick rfl rfl rfl) (by decide) ?_
    refine st_nil ?_
    exact st_meet_b (.cons rfl (.cons rfl (.nil _)))
  · -- false
    refine st_gon rfl rfl ?_
    refine st_v (rv_move rfl) (by decide) ?_
    refine st_gon rfl rfl ?_
    refine st_v (rv_move rfl) (by decide) ?_
    refine st_gon rfl rfl ?_
    refine st_call0 cal36 rfl (fun w hM => (rSize_ok k hk w)) (by decide) ?_
    refine st_gon rfl rfl ?_
    first | refine st_v (rv_mulN (a := 255) rfl rfl (by first | omega | (simp; done) | (simp; omega))) (by decide) ?_ | refine st_v (rv_mulZ rfl rfl (by first | omega | (simp; done) | (simp; omega))) (by decide) ?_
    refine st_gon rfl rfl ?_
    refine st_v (rv_gtrZ rfl rfl) (by decide) ?_
    first | refine st_v (rv_pick_true rfl rfl) (by decide) ?_ | refine st_v (rv_pick_false rfl rfl) (by decide) ?_ | refine st_v (rv_pick rfl rfl rfl) (by decide) ?_
    refine st_nil ?_
    exact st_meet_b (.cons rfl (.cons rfl (.nil _)))
  refine st_v (rv_assign rfl) (by decide) ?_
  refine st_nil ?_
  refine st_then ?_
  refine st_ret ?_
  exact st_done rfl rfl (fun w hM => ⟨by first | rfl | simp only [longZ], hM.sublist (List.nil_sublist _)⟩)
set_option maxRecDepth 20000 in
theorem rLongLabel_calls (k : Nat) (hk : k ≤ 2) (label ctx : List (BitVec 8)) (n : Int) (w : World) : Calls Tryd.prog 45 #[vI (k : Nat), vS label, vS ctx, vI n] w (fun r w' => r = .returned (.bool (longZ k n || elongZ n label ctx)) ∧ Mem (All w) w w' []) := by
  refine calls_of_st (n := 28) (args := [vI (k : Nat), vS label, vS ctx, vI n]) Tryd.func45 rfl Tryd.ntmps45 (Nat.le_of_ble_eq_true rfl) (Mem.all w) ?_
  refine st_seq ?_
  refine st_region ?_
  refine st_v (rv_assign rfl) (by decide) ?_
  refine st_nil ?_
  refine st_then ?_
  refine st_seq ?_
  refine st_region ?_
  refine st_v (rv_move rfl) (by decide) ?_
  refine st_v (rv_move rfl) (by decide) ?_
  refine st_call0 cal44 rfl (fun w hM => (rLong_calls k hk n w)) (by decide) ?_
  refine st_v (rv_assign rfl) (by decide) ?_
  refine st_nil ?_
  refine st_then ?_
  refine st_seq ?_
  refine st_region ?_
  refine st_v (rv_move rfl) (by decide) ?_
  refine st_v (rv_move rfl) (by decide) ?_
  refine' st_or 3 (L := _) (s := 14) (d := 17) [1, 2, 8] rfl (fun hg2 => ?_) (fun _ => ?_) ?_; rotate_left
  · -- true
    refine st_gskip rfl rfl rfl (by decide) ?_
    refine st_gskip rfl rfl rfl (by decide) ?_
    first | refine st_v (rv_pick_true rfl rfl) (by decide) ?_ | refine st_v (rv_pick_false rfl rfl) (by decide) ?_ | refine st_v (rv_pick rfl rfl rfl) (by decide) ?_
    refine st_nil ?_
    exact st_meet_b (.cons rfl (.cons rfl (.cons rfl (.cons rfl (.nil _)))))
  · -- false
    refine st_gon rfl rfl ?_
    refine st_v (rv_move rfl) (by decide) ?_
    refine st_gon rfl rfl ?_
    refine st_v (rv_gtrZ rfl rfl) (by decide) ?_
    first | refine st_v (rv_pick_true rfl rfl) (by decide) ?_ | refine st_v (rv_pick_false rfl rfl) (by decide) ?_ | refine st_v (rv_pick rfl rfl rfl) (by decide) ?_
    refine st_nil ?_
    exact st_meet_b (.cons rfl (.cons rfl (.cons rfl (.cons rfl (.nil _)))))
  refine st_v (rv_move rfl) (by decide) ?_
  refine' st_or 4 (L := _) (s := 18) (d := 22) [2, 8] rfl (fun hg6 => ?_) (fun _ => ?_) ?_; rotate_left
  · -- true
    refine st_gskip rfl rfl rfl (by decide) ?_
    refine st_gskip rfl rfl rfl (by decide) ?_
    refine st_gskip rfl rfl rfl (by decide) ?_
    first | refine st_v (rv_pick_true rfl rfl) (by decide) ?_ | refine st_v (rv_pick_false rfl rfl) (by decide) ?_ | refine st_v (rv_pick rfl rfl rfl) (by decide) ?_
    refine st_nil ?_
    exact st_meet_b (.cons rfl (.cons rfl (.cons rfl (.nil _))))
  · -- false
    refine st_gon rfl rfl ?_
    refine st_v (rv_move rfl) (by decide) ?_
    refine st_gon rfl rfl ?_
    refine st_v (rv_lenB Tryd.underlying9 rfl) (by decide) ?_
    refine st_gon rfl rfl ?_
    refine st_v (rv_gtrZ rfl rfl) (by decide) ?_
    first | refine st_v (rv_pick_true rfl rfl) (by decide) ?_ | refine st_v (rv_pick_false rfl rfl) (by decide) ?_ | refine st_v (rv_pick rfl rfl rfl) (by decide) ?_
    refine st_nil ?_
    exact st_meet_b (.cons rfl (.cons rfl (.cons rfl (.nil _))))
  refine st_v (rv_move rfl) (by decide) ?_
  refine' st_or 4 (L := _) (s := 23) (d := 27) [8] rfl (fun hg11 => ?_) (fun _ => ?_) ?_; rotate_left
  · -- true
    refine st_gskip rfl rfl rfl (by decide) ?_
    refine st_gskip rfl rfl rfl (by decide) ?_
    refine st_gskip rfl rfl rfl (by decide) ?_
    first | refine st_v (rv_pick_true rfl rfl) (by decide) ?_ | refine st_v (rv_pick_false rfl rfl) (by decide) ?_ | refine st_v (rv_pick rfl rfl rfl) (by decide) ?_
    refine st_nil ?_
    exact st_meet_b (.cons rfl (.cons rfl (.nil _)))
  · -- false
    refine st_gon rfl rfl ?_
    refine st_v (rv_move rfl) (by decide) ?_
    refine st_gon rfl rfl ?_
    refine st_v (rv_lenB Tryd.underlying9 rfl) (by decide) ?_
    refine st_gon rfl rfl ?_
    refine st_v (rv_gtrZ rfl rfl) (by decide) ?_
    first | refine st_v (rv_pick_true rfl rfl) (by decide) ?_ | refine st_v (rv_pick_false rfl rfl) (by decide) ?_ | refine st_v (rv_pick rfl rfl rfl) (by decide) ?_
    refine st_nil ?_
    exact st_meet_b (.cons rfl (.cons rfl (.nil _)))
  refine st_v (rv_assign rfl) (by decide) ?_
  refine st_nil ?_
  refine st_then ?_
  refine st_ret ?_
  exact st_done rfl rfl (fun w hM => ⟨by congr 2; rw [Bool.eq_iff_iff]; simp only [longZ, elongZ, Bool.or_eq_true, decide_eq_true_eq]; omega, hM.sublist (List.nil_sublist _)⟩)
set_option maxRecDepth 20000 in
theorem rELabel_calls (k : Nat) (hk : k ≤ 2) (xb : Nat) (vK vH : Value) (key label q : List (BitVec 8)) (N : Nat) (hN : N ≤ 255 * hsize k) (he : elongZ (N : Int) label q = false) (hkey : key.length ≤ 700000) (w : World) (hX : (hrA k xb vK vH).holds w) : Calls Tryd.prog 47 #[pt xb 0, vS key, vS label, vS q, vI (N : Nat)] w (fun r w' => r = .returned (vS (okmW k key (infoW label q N) N)) ∧ Mem (All w) w w' []) := by
  have hX0 := hX
  obtain ⟨⟨fr, hrow⟩, hKR, hHR⟩ := hX
  have hSx : All w xb := ⟨(Array.getElem?_eq_some_iff.1 hrow).1, fun h => h⟩
  have hXS : ∀ b, (hrA k xb vK vH).foot b → All w b := fun b hb => ⟨(hrA k xb vK vH).live w hX0 b hb, id⟩
  obtain ⟨hn0, hn1, hlb, hcx⟩ := elongZ_false he
  have hil : (infoW label q N).length = label.length + q.length + 10 := by simp [infoW, pre13]; omega
  refine calls_of_st (n := 19) (args := [pt xb 0, vS key, vS label, vS q, vI (N : Nat)]) Tryd.func47 rfl Tryd.ntmps47 (Nat.le_of_ble_eq_true rfl) (Mem.all w) ?_
  refine st_seq ?_
  refine st_region ?_
  refine st_v (rv_assign rfl) (by decide) ?_
  refine st_nil ?_
  refine st_then ?_
  refine st_seq ?_
  refine st_region ?_
  refine st_v (rv_move rfl) (by decide) ?_
  refine st_v (rv_move rfl) (by decide) ?_
  refine st_v (rv_move rfl) (by decide) ?_
  refine st_v (rv_move rfl) (by decide) ?_
  refine st_v (rv_move rfl) (by decide) ?_
  refine st_call0 cal91 rfl (fun w hM => (Info_calls label q N (by omega) (by omega) (by omega) w)) (by decide) ?_
  refine st_v (rv_move rfl) (by decide) ?_
  refine st_call0 cal46 rfl (fun w hM => (rExpand_calls k hk xb vK vH key (infoW label q N) N hN hkey (by omega) w (Asn.stays hX0 hXS hM))) (by decide) ?_
  refine st_v (rv_assign rfl) (by decide) ?_
  refine st_nil ?_
  refine st_then ?_
  refine st_ret ?_
  exact st_done rfl rfl (fun w hM => ⟨rfl, hM.sublist (List.nil_sublist _)⟩)
theorem longZ_false {k N : Nat} (h : longZ k N = false) : N ≤ 255 * hsize k := by
  simp only [longZ, Bool.or_eq_false_iff, decide_eq_false_iff_not] at h; omega
set_option maxRecDepth 20000 in
theorem hashKeyed_bad (z : Int) (hz : knownZ z = false) (key s : List (BitVec 8)) (w : World) (hL : LaidH w) : Calls Tryd.prog 8 #[vI z, vS key, vS s] w (fun e w' => e = .returned (.bool true) ∧ Mem (All w) w w' []) := by
  refine calls_of_st (n := 114) (args := [vI z, vS key, vS s]) Tryd.func8 rfl Tryd.ntmps8 (Nat.le_of_ble_eq_true rfl) (Mem.all w) ?_
  refine st_seq ?_
  refine st_region ?_
  refine st_v (rv_assign rfl) (by decide) ?_
  refine st_nil ?_
  refine st_then ?_
  refine st_seq ?_
  refine st_seq ?_
  refine st_region ?_
  refine st_v (rv_move rfl) (by decide) ?_
  refine st_v (rv_lenB Tryd.underlying9 rfl) (by decide) ?_
  refine st_v (rv_gtrZ rfl rfl) (by decide) ?_
  refine st_v (rv_move rfl) (by decide) ?_
  refine' st_or 4 (L := _) (s := 22) (d := 26) [0, 1, 2] rfl (fun hg4 => ?_) (fun _ => ?_) ?_; rotate_left
  · -- true
    refine st_gskip rfl rfl rfl (by decide) ?_
    refine st_gskip rfl rfl rfl (by decide) ?_
    refine st_gskip rfl rfl rfl (by decide) ?_
    first | refine st_v (rv_pick_true rfl rfl) (by decide) ?_ | refine st_v (rv_pick_false rfl rfl) (by decide) ?_ | refine st_v (rv_pick rfl rfl rfl) (by decide) ?_
    refine st_nil ?_
    exact st_meet_b (.cons rfl (.cons rfl (.cons rfl (.cons rfl (.nil _)))))
  · -- false
    refine st_gon rfl rfl ?_
    refine st_v (rv_move rfl) (by decide) ?_
    refine st_gon rfl rfl ?_
    refine st_v (rv_lenB Tryd.underlying9 rfl) (by decide) ?_
    refine st_gon rfl rfl ?_
    refine st_v (rv_gtrZ rfl rfl) (by decide) ?_
    first | refine st_v (rv_pick_true rfl rfl) (by decide) ?_ | refine st_v (rv_pick_false rfl rfl) (by decide) ?_ | refine st_v (rv_pick rfl rfl rfl) (by decide) ?_
    refine st_nil ?_
    exact st_meet_b (.cons rfl (.cons rfl (.cons rfl (.cons rfl (.nil _)))))
  refine st_nil ?_
  refine st_then ?_
  refine st_cond rfl (fun hc26 => ?_) (fun hc26 => ?_)
  · -- t26 True
    try simp only [z1, z2, z3, z4, z5, z6, z7, z8, z9, z10, z11, z12, z13, z14] at hc26
    refine st_seq ?_
    refine st_region ?_
    refine st_v (rv_assign rfl) (by decide) ?_
    refine st_nil ?_
    refine st_then ?_
    refine st_ret ?_
    refine st_then_ret ?_
    exact st_done rfl rfl (fun w hM => ⟨by first | (simp; done) | rfl, hM.sublist (List.nil_sublist _)⟩)
  · -- t26 False
    try simp only [z1, z2, z3, z4, z5, z6, z7, z8, z9, z10, z11, z12, z13, z14] at hc26
    refine st_skip ?_
    refine st_then ?_
    refine st_seq ?_
    refine st_region ?_
    refine st_v (rv_move rfl) (by decide) ?_
    refine st_v (rv_assign rfl) (by decide) ?_
    refine st_nil ?_
    refine st_then ?_
    refine st_seq ?_
    refine st_region ?_
    refine st_v (rv_move rfl) (by decide) ?_
    refine st_callV cal12 rfl (fun w hM => lent_calls _ (by omega) w) (by decide) (fun v1 => ?_)
    refine st_v (rv_assign rfl) (by decide) ?_
    refine st_nil ?_
    refine st_then ?_
    refine st_seq ?_
    refine st_region ?_
    refine st_v (rv_move rfl) (by decide) ?_
    refine st_callV cal12 rfl (fun w hM => lent_calls _ (by omega) w) (by decide) (fun v2 => ?_)
    refine st_v (rv_assign rfl) (by decide) ?_
    refine st_nil ?_
    refine st_then ?_
    refine st_seq ?_
    refine st_drawStart mixed ?_
    refine st_drawSeg1 (E0 := [(1, _), (2, _), (7, _), (8, _), (9, _)]) [kpeq _, kpeq _, kpeq _, kpeq _, kpeq _, kpeq _, kpeq _, kpeq _, kpeq _] 0 9 [0, 0, 0, 4, 14, 0, 0, 64, 224, 511, 1023, 2047, 2047, 4095, 16383] [1, 2, 7, 8, 9] (by kernel_rfl) (by decide) (by kernel_rfl) (.cons rfl (.cons rfl (.cons rfl (.cons rfl (.cons rfl (.nil _)))))) rfl rfl (hall_cons (hop_mv rfl (by decide) rfl rfl) (hall_cons (hop_mv rfl (by decide) rfl rfl) (hall_cons (hop_mv rfl (by decide) rfl rfl) (hall_cons (hop_val [(2, 35, _)] [] rfl rfl rfl (by decide) rfl (jcons rfl rfl rfl rfl rfl (jnil)) (xnil) (fun _ _ _ _ => does_v (rv_lenB Tryd.underlying9 rfl))) (hall_cons (hop_val [(1, 34, _), (3, 36, _)] [] rfl rfl rfl (by decide) rfl (jcons rfl rfl rfl rfl rfl (jcons rfl rfl rfl rfl rfl (jnil))) (xnil) (fun _ _ _ _ => does_v (rv_sliceR (rd_rd (i := 1) rfl) Tryd.underlying22 sz5 rfl evB_none (evB_some rfl rfl) (by first | omega | (simp [length_lentL] <;> omega)) (by first | omega | (simp [length_lentL] <;> omega))))) (hall_cons (hop_mv rfl (by decide) rfl rfl) (hall_cons (hop_mv rfl (by decide) rfl rfl) (hall_cons (hop_val [(6, 39, _)] [] rfl rfl rfl (by decide) rfl (jcons rfl rfl rfl rfl rfl (jnil)) (xnil) (fun _ _ _ _ => does_v (rv_lenB Tryd.underlying9 rfl))) (hall_cons (hop_val [(5, 38, _), (7, 40, _)] [] rfl rfl rfl (by decide) rfl (jcons rfl rfl rfl rfl rfl (jcons rfl rfl rfl rfl rfl (jnil))) (xnil) (fun _ _ _ _ => does_v (rv_sliceR (rd_rd (i := 0) rfl) Tryd.underlying22 sz5 rfl evB_none (evB_some rfl rfl) (by first | omega | (simp [length_lentL] <;> omega)) (by first | omega | (simp [length_lentL] <;> omega))))) (hall_nil)))))))))) (draw_end1 [(0, 33, _), (4, 37, _), (8, 41, _)] (jcons rfl rfl rfl rfl rfl (jcons rfl rfl rfl rfl rfl (jcons rfl rfl rfl rfl rfl (jnil)))) ?_)
    refine st_drawOp [0, 0, 0, 4, 14, 0, 0, 64, 224, 511, 1023, 2047, 2047, 4095, 16383] (by kernel_rfl) rfl ?_
    refine st_call0 cal38 rfl (fun w hM => (HMAC_bad z hz _ _ w)) (by decide) ?_
    refine st_nil ?_
    refine st_then ?_
    refine st_drawOp [0, 0, 0, 4, 14, 0, 0, 64, 224, 511, 1023, 2047, 2047, 4095, 16383] (by kernel_rfl) rfl ?_
    refine st_v (rv_move rfl) (by decide) ?_
    refine st_nil ?_
    refine st_then ?_
    refine st_drawSeg1 (E0 := [(1, _), (2, _), (7, _), (8, _), (9, _), (32, _)]) [kany, kany, kany, kany, kany, kany, kany, kany, kany, kany, kany, kpeq _, kpeq _, kpeq _] 11 14 [0, 0, 0, 4, 14, 0, 0, 64, 224, 511, 1023, 2047, 2047, 4095, 16383] [1, 2, 7, 8, 9, 32] (by kernel_rfl) (by decide) (by kernel_rfl) (.cons rfl (.cons rfl (.cons rfl (.cons rfl (.cons rfl (.cons rfl (.nil _))))))) rfl rfl (hall_skip rfl (hall_skip rfl (hall_skip rfl (hall_skip rfl (hall_skip rfl (hall_skip rfl (hall_skip rfl (hall_skip rfl (hall_skip rfl (hall_skip rfl (hall_skip rfl (hall_cons (hop_val [] [] rfl rfl rfl (by decide) rfl (jnil) (xnil) (fun _ _ _ _ => does_v (rv_extract rfl rfl))) (hall_cons (hop_val [] [] rfl rfl rfl (by decide) rfl (jnil) (xnil) (fun _ _ _ _ => does_v (rv_extract rfl rfl))) (hall_cons (hop_val [(11, 43, _)] [] rfl rfl rfl (by decide) rfl (jcons rfl rfl rfl rfl rfl (jnil)) (xnil) (fun _ _ _ _ => does_v (rv_assign rfl))) (hall_nil))))))))))))))) (draw_end1 [(12, 44, _), (13, 10, _)] (jcons rfl rfl rfl rfl rfl (jcons rfl rfl rfl rfl rfl (jnil))) ?_)
    refine st_drawTail (N := 14) [0, 0, 0, 4, 14, 0, 0, 64, 224, 511, 1023, 2047, 2047, 4095, 16383] (by kernel_rfl) (by kernel_rfl) ?_
    refine st_v (rv_assign rfl) (by decide) ?_
    refine st_nil ?_
    refine st_then ?_
    refine st_seq ?_
    refine st_drawStart mixed ?_
    refine st_drawSeg1 (E0 := [(1, _), (2, _), (7, _), (8, _), (9, _), (10, _), (11, _)]) [kpeq _, kpeq _, kpeq _, kpeq _, kpeq _, kpeq _, kpeq _, kpeq _, kpeq _] 0 9 [0, 0, 0, 4, 14, 0, 0, 64, 224, 511, 1023, 2047, 2047, 4095, 16383] [1, 2, 7, 8, 9, 10, 11] (by kernel_rfl) (by decide) (by kernel_rfl) (.cons rfl (.cons rfl (.cons rfl (.cons rfl (.cons rfl (.cons rfl (.cons rfl (.nil _)))))))) rfl rfl (hall_cons (hop_mv rfl (by decide) rfl rfl) (hall_cons (hop_mv rfl (by decide) rfl rfl) (hall_cons (hop_mv rfl (by decide) rfl rfl) (hall_cons (hop_val [(2, 48, _)] [] rfl rfl rfl (by decide) rfl (jcons rfl rfl rfl rfl rfl (jnil)) (xnil) (fun _ _ _ _ => does_v (rv_lenB Tryd.underlying9 rfl))) (hall_cons (hop_val [(1, 47, _), (3, 49, _)] [] rfl rfl rfl (by decide) rfl (jcons rfl rfl rfl rfl rfl (jcons rfl rfl rfl rfl rfl (jnil))) (xnil) (fun _ _ _ _ => does_v (rv_sliceR (rd_rd (i := 1) rfl) Tryd.underlying22 sz5 rfl evB_none (evB_some rfl rfl) (by first | omega | (simp [length_lentL] <;> omega)) (by first | omega | (simp [length_lentL] <;> omega))))) (hall_cons (hop_mv rfl (by decide) rfl rfl) (hall_cons (hop_mv rfl (by decide) rfl rfl) (hall_cons (hop_val [(6, 52, _)] [] rfl rfl rfl (by decide) rfl (jcons rfl rfl rfl rfl rfl (jnil)) (xnil) (fun _ _ _ _ => does_v (rv_lenB Tryd.underlying9 rfl))) (hall_cons (hop_val [(5, 51, _), (7, 53, _)] [] rfl rfl rfl (by decide) rfl (jcons rfl rfl rfl rfl rfl (jcons rfl rfl rfl rfl rfl (jnil))) (xnil) (fun _ _ _ _ => does_v (rv_sliceR (rd_rd (i := 0) rfl) Tryd.underlying22 sz5 rfl evB_none (evB_some rfl rfl) (by first | omega | (simp [length_lentL] <;> omega)) (by first | omega | (simp [length_lentL] <;> omega))))) (hall_nil)))))))))) (draw_end1 [(0, 46, _), (4, 50, _), (8, 54, _)] (jcons rfl rfl rfl rfl rfl (jcons rfl rfl rfl rfl rfl (jcons rfl rfl rfl rfl rfl (jnil)))) ?_)
    refine st_drawOp [0, 0, 0, 4, 14, 0, 0, 64, 224, 511, 1023, 2047, 2047, 4095, 16383] (by kernel_rfl) rfl ?_
    refine st_call0 cal39 rfl (fun w hM => (Extract_bad z hz _ _ w)) (by decide) ?_
    refine st_nil ?_
    refine st_then ?_
    refine st_drawOp [0, 0, 0, 4, 14, 0, 0, 64, 224, 511, 1023, 2047, 2047, 4095, 16383] (by kernel_rfl) rfl ?_
    refine st_v (rv_move rfl) (by decide) ?_
    refine st_nil ?_
    refine st_then ?_
    refine st_drawSeg1 (E0 := [(1, _), (2, _), (7, _), (8, _), (9, _), (10, _), (11, _), (45, _)]) [kany, kany, kany, kany, kany, kany, kany, kany, kany, kany, kany, kpeq _, kpeq _, kpeq _] 11 14 [0, 0, 0, 4, 14, 0, 0, 64, 224, 511, 1023, 2047, 2047, 4095, 16383] [1, 2, 7, 8, 9, 10, 11, 45] (by kernel_rfl) (by decide) (by kernel_rfl) (.cons rfl (.cons rfl (.cons rfl (.cons rfl (.cons rfl (.cons rfl (.cons rfl (.cons rfl (.nil _))))))))) rfl rfl (hall_skip rfl (hall_skip rfl (hall_skip rfl (hall_skip rfl (hall_skip rfl (hall_skip rfl (hall_skip rfl (hall_skip rfl (hall_skip rfl (hall_skip rfl (hall_skip rfl (hall_cons (hop_val [] [] rfl rfl rfl (by decide) rfl (jnil) (xnil) (fun _ _ _ _ => does_v (rv_extract rfl rfl))) (hall_cons (hop_val [] [] rfl rfl rfl (by decide) rfl (jnil) (xnil) (fun _ _ _ _ => does_v (rv_extract rfl rfl))) (hall_cons (hop_val [(11, 56, _)] [] rfl rfl rfl (by decide) rfl (jcons rfl rfl rfl rfl rfl (jnil)) (xnil) (fun _ _ _ _ => does_v (rv_assign rfl))) (hall_nil))))))))))))))) (draw_end1 [(12, 57, _), (13, 12, _)] (jcons rfl rfl rfl rfl rfl (jcons rfl rfl rfl rfl rfl (jnil))) ?_)
    refine st_drawTail (N := 14) [0, 0, 0, 4, 14, 0, 0, 64, 224, 511, 1023, 2047, 2047, 4095, 16383] (by kernel_rfl) (by kernel_rfl) ?_
    refine st_v (rv_assign rfl) (by decide) ?_
    refine st_nil ?_
    refine st_then ?_
    refine st_seq ?_
    refine st_region ?_
    refine st_v (rv_move rfl) (by decide) ?_
    refine st_v (rv_move rfl) (by decide) ?_
    refine st_call0 cal14 rfl (fun w hM => (still_calls _ key (by omega) w ((rd_rd (i := 1) rfl) w hM))) (by decide) ?_
    refine st_v (rv_assign rfl) (by decide) ?_
    refine st_nil ?_
    refine st_then ?_
    refine st_seq ?_
    refine st_region ?_
    refine st_v (rv_move rfl) (by decide) ?_
    refine st_v (rv_move rfl) (by decide) ?_
    refine st_call0 cal14 rfl (fun w hM => (still_calls _ s (by omega) w ((rd_rd (i := 0) rfl) w hM))) (by decide) ?_
    refine st_v (rv_assign rfl) (by decide) ?_
    refine st_nil ?_
    refine st_then ?_
    refine st_seq ?_
    refine st_seq ?_
    refine st_region ?_
    refine st_v (rv_move rfl) (by decide) ?_
    refine st_v (rv_not rfl) (by decide) ?_
    refine st_v (rv_move rfl) (by decide) ?_
    refine' st_or 3 (L := _) (s := 66) (d := 69) [1, 2, 7, 10, 11, 12, 13] rfl (fun hg3 => ?_) (fun _ => ?_) ?_; rotate_left
    · -- true
      refine st_gskip rfl rfl rfl (by decide) ?_
      refine st_gskip rfl rfl rfl (by decide) ?_
      first | refine st_v (rv_pick_true rfl rfl) (by decide) ?_ | refine st_v (rv_pick_false rfl rfl) (by decide) ?_ | refine st_v (rv_pick rfl rfl rfl) (by decide) ?_
      refine st_nil ?_
      exact st_meet_b (.cons rfl (.cons rfl (.cons rfl (.cons rfl (.cons rfl (.cons rfl (.cons rfl (.cons rfl (.nil _)))))))))
    · -- false
      refine st_gon rfl rfl ?_
      refine st_v (rv_move rfl) (by decide) ?_
      refine st_gon rfl rfl ?_
      refine st_v (rv_not rfl) (by decide) ?_
      first | refine st_v (rv_pick_true rfl rfl) (by decide) ?_ | refine st_v (rv_pick_false rfl rfl) (by decide) ?_ | refine st_v (rv_pick rfl rfl rfl) (by decide) ?_
      refine st_nil ?_
      exact st_meet_b (.cons rfl (.cons rfl (.cons rfl (.cons rfl (.cons rfl (.cons rfl (.cons rfl (.cons rfl (.nil _)))))))))
    refine st_nil ?_
    refine st_then ?_
    refine st_false rfl ?_
    refine st_skip ?_
    refine st_then ?_
    refine st_seq ?_
    refine st_region ?_
    refine st_v (rv_move rfl) (by decide) ?_
    refine st_call0 cal28 rfl (fun w hM => (rKnown_bad hz w)) (by decide) ?_
    refine st_v (rv_assign rfl) (by decide) ?_
    refine st_nil ?_
    refine st_then ?_
    refine st_seq ?_
    refine st_seq ?_
    refine st_region ?_
    refine st_v (rv_move rfl) (by decide) ?_
    refine st_v (rv_not rfl) (by decide) ?_
    refine st_nil ?_
    refine st_then ?_
    refine st_true rfl ?_
    refine st_seq ?_
    refine st_region ?_
    refine st_v (rv_move rfl) (by decide) ?_
    refine st_v (rv_lenS Tryd.underlying22 rfl) (by decide) ?_
    refine st_v (rv_eqlZ rfl rfl) (by decide) ?_
    refine st_v (rv_move rfl) (by decide) ?_
    refine' st_and 4 (L := _) (s := 77) (d := 81) [11, 13] rfl (fun hg4 => ?_) (fun _ => ?_) ?_; rotate_left
    · -- true
      try simp only [decide_eq_true_eq, decide_eq_false_iff_not, Bool.and_eq_true, Bool.not_eq_true] at hg4
      refine st_gon rfl rfl ?_
      refine st_v (rv_move rfl) (by decide) ?_
      refine st_gon rfl rfl ?_
      refine st_v (rv_lenS Tryd.underlying22 rfl) (by decide) ?_
      refine st_gon rfl rfl ?_
      refine st_v (rv_eqlZ rfl rfl) (by decide) ?_
      first | refine st_v (rv_pick_true rfl rfl) (by decide) ?_ | refine st_v (rv_pick_false rfl rfl) (by decide) ?_ | refine st_v (rv_pick rfl rfl rfl) (by decide) ?_
      refine st_nil ?_
      exact st_meet_b (.cons rfl (.cons rfl (.cons rfl (.nil _))))
    · -- false
      refine st_gskip rfl rfl rfl (by decide) ?_
      refine st_gskip rfl rfl rfl (by decide) ?_
      refine st_gskip rfl rfl rfl (by decide) ?_
      first | refine st_v (rv_pick_true rfl rfl) (by decide) ?_ | refine st_v (rv_pick_false rfl rfl) (by decide) ?_ | refine st_v (rv_pick rfl rfl rfl) (by decide) ?_
      refine st_nil ?_
      exact st_meet_b (.cons rfl (.cons rfl (.cons rfl (.nil _))))
    refine st_v (rv_move rfl) (by decide) ?_
    refine' st_and 3 (L := _) (s := 82) (d := 85) [13] rfl (fun hg9 => ?_) (fun _ => ?_) ?_; rotate_left
    · -- true
      try simp only [decide_eq_true_eq, decide_eq_false_iff_not, Bool.and_eq_true, Bool.not_eq_true] at hg9
      refine st_gon rfl rfl ?_
      refine st_v (rv_move rfl) (by decide) ?_
      refine st_gon rfl rfl ?_
      refine st_v (rv_eqlZ rfl rfl) (by decide) ?_
      first | refine st_v (rv_pick_true rfl rfl) (by decide) ?_ | refine st_v (rv_pick_false rfl rfl) (by decide) ?_ | refine st_v (rv_pick rfl rfl rfl) (by decide) ?_
      refine st_nil ?_
      exact st_meet_b (.cons rfl (.cons rfl (.nil _)))
    · -- false
      refine st_gskip rfl rfl rfl (by decide) ?_
      refine st_gskip rfl rfl rfl (by decide) ?_
      first | refine st_v (rv_pick_true rfl rfl) (by decide) ?_ | refine st_v (rv_pick_false rfl rfl) (by decide) ?_ | refine st_v (rv_pick rfl rfl rfl) (by decide) ?_
      refine st_nil ?_
      exact st_meet_b (.cons rfl (.cons rfl (.nil _)))
    refine st_v (rv_move rfl) (by decide) ?_
    refine' st_and 3 (L := _) (s := 86) (d := 89) [] rfl (fun hg13 => ?_) (fun _ => ?_) ?_; rotate_left
    · -- true
      try simp only [decide_eq_true_eq, decide_eq_false_iff_not, Bool.and_eq_true, Bool.not_eq_true] at hg13
      refine st_gon rfl rfl ?_
      refine st_v (rv_move rfl) (by decide) ?_
      refine st_gon rfl rfl ?_
      refine st_v (rv_eqlZ rfl rfl) (by decide) ?_
      first | refine st_v (rv_pick_true rfl rfl) (by decide) ?_ | refine st_v (rv_pick_false rfl rfl) (by decide) ?_ | refine st_v (rv_pick rfl rfl rfl) (by decide) ?_
      refine st_nil ?_
      exact st_meet_b (.cons rfl (.nil _))
    · -- false
      refine st_gskip rfl rfl rfl (by decide) ?_
      refine st_gskip rfl rfl rfl (by decide) ?_
      first | refine st_v (rv_pick_true rfl rfl) (by decide) ?_ | refine st_v (rv_pick_false rfl rfl) (by decide) ?_ | refine st_v (rv_pick rfl rfl rfl) (by decide) ?_
      refine st_nil ?_
      exact st_meet_b (.cons rfl (.nil _))
    refine st_v (rv_assign rfl) (by decide) ?_
    refine st_nil ?_
    refine st_then ?_
    refine st_ret ?_
    refine st_then_ret ?_
    exact st_done rfl rfl (fun w hM => ⟨by first | (simp; done) | rfl, hM.sublist (List.nil_sublist _)⟩)
set_option maxRecDepth 20000 in
set_option maxHeartbeats 1000000 in
theorem hashKeyed_ok (k : Nat) (hk : k ≤ 2) (key s : List (BitVec 8)) (w : World) (hL : LaidH w) : Calls Tryd.prog 8 #[vI (k : Nat), vS key, vS s] w (fun e w' => e = .returned (.bool true) ∧ Mem (All w) w w' []) := by
  refine calls_of_st (n := 114) (args := [vI (k : Nat), vS key, vS s]) Tryd.func8 rfl Tryd.ntmps8 (Nat.le_of_ble_eq_true rfl) (Mem.all w) ?_
  refine st_seq ?_
  refine st_region ?_
  refine st_v (rv_assign rfl) (by decide) ?_
  refine st_nil ?_
  refine st_then ?_
  refine st_seq ?_
  refine st_seq ?_
  refine st_region ?_
  refine st_v (rv_move rfl) (by decide) ?_
  refine st_v (rv_lenB Tryd.underlying9 rfl) (by decide) ?_
  refine st_v (rv_gtrZ rfl rfl) (by decide) ?_
  refine st_v (rv_move rfl) (by decide) ?_
  refine' st_or 4 (L := _) (s := 22) (d := 26) [0, 1, 2] rfl (fun hg4 => ?_) (fun _ => ?_) ?_; rotate_left
  · -- true
    refine st_gskip rfl rfl rfl (by decide) ?_
    refine st_gskip rfl rfl rfl (by decide) ?_
    refine st_gskip rfl rfl rfl (by decide) ?_
    first | refine st_v (rv_pick_true rfl rfl) (by decide) ?_ | refine st_v (rv_pick_false rfl rfl) (by decide) ?_ | refine st_v (rv_pick rfl rfl rfl) (by decide) ?_
    refine st_nil ?_
    exact st_meet_b (.cons rfl (.cons rfl (.cons rfl (.cons rfl (.nil _)))))
  · -- false
    refine st_gon rfl rfl ?_
    refine st_v (rv_move rfl) (by decide) ?_
    refine st_gon rfl rfl ?_
    refine st_v (rv_lenB Tryd.underlying9 rfl) (by decide) ?_
    refine st_gon rfl rfl ?_
    refine st_v (rv_gtrZ rfl rfl) (by decide) ?_
    first | refine st_v (rv_pick_true rfl rfl) (by decide) ?_ | refine st_v (rv_pick_false rfl rfl) (by decide) ?_ | refine st_v (rv_pick rfl rfl rfl) (by decide) ?_
    refine st_nil ?_
    exact st_meet_b (.cons rfl (.cons rfl (.cons rfl (.cons rfl (.nil _)))))
  refine st_nil ?_
  refine st_then ?_
  refine st_cond rfl (fun hc26 => ?_) (fun hc26 => ?_)
  · -- t26 True
    try simp only [z1, z2, z3, z4, z5, z6, z7, z8, z9, z10, z11, z12, z13, z14] at hc26
    refine st_seq ?_
    refine st_region ?_
    refine st_v (rv_assign rfl) (by decide) ?_
    refine st_nil ?_
    refine st_then ?_
    refine st_ret ?_
    refine st_then_ret ?_
    exact st_done rfl rfl (fun w hM => ⟨by first | (simp; done) | rfl, hM.sublist (List.nil_sublist _)⟩)
  · -- t26 False
    try simp only [z1, z2, z3, z4, z5, z6, z7, z8, z9, z10, z11, z12, z13, z14] at hc26
    refine st_skip ?_
    refine st_then ?_
    refine st_seq ?_
    refine st_region ?_
    refine st_v (rv_move rfl) (by decide) ?_
    refine st_v (rv_assign rfl) (by decide) ?_
    refine st_nil ?_
    refine st_then ?_
    refine st_seq ?_
    refine st_region ?_
    refine st_v (rv_move rfl) (by decide) ?_
    refine st_callV cal12 rfl (fun w hM => lent_calls _ (by omega) w) (by decide) (fun v1 => ?_)
    refine st_v (rv_assign rfl) (by decide) ?_
    refine st_nil ?_
    refine st_then ?_
    refine st_seq ?_
    refine st_region ?_
    refine st_v (rv_move rfl) (by decide) ?_
    refine st_callV cal12 rfl (fun w hM => lent_calls _ (by omega) w) (by decide) (fun v2 => ?_)
    refine st_v (rv_assign rfl) (by decide) ?_
    refine st_nil ?_
    refine st_then ?_
    refine st_seq ?_
    refine st_drawStart mixed ?_
    refine st_drawSeg1 (E0 := [(1, _), (2, _), (7, _), (8, _), (9, _)]) [kpeq _, kpeq _, kpeq _, kpeq _, kpeq _, kpeq _, kpeq _, kpeq _, kpeq _] 0 9 [0, 0, 0, 4, 14, 0, 0, 64, 224, 511, 1023, 2047, 2047, 4095, 16383] [1, 2, 7, 8, 9] (by kernel_rfl) (by decide) (by kernel_rfl) (.cons rfl (.cons rfl (.cons rfl (.cons rfl (.cons rfl (.nil _)))))) rfl rfl (hall_cons (hop_mv rfl (by decide) rfl rfl) (hall_cons (hop_mv rfl (by decide) rfl rfl) (hall_cons (hop_mv rfl (by decide) rfl rfl) (hall_cons (hop_val [(2, 35, _)] [] rfl rfl rfl (by decide) rfl (jcons rfl rfl rfl rfl rfl (jnil)) (xnil) (fun _ _ _ _ => does_v (rv_lenB Tryd.underlying9 rfl))) (hall_cons (hop_val [(1, 34, _), (3, 36, _)] [] rfl rfl rfl (by decide) rfl (jcons rfl rfl rfl rfl rfl (jcons rfl rfl rfl rfl rfl (jnil))) (xnil) (fun _ _ _ _ => does_v (rv_sliceR (rd_rd (i := 1) rfl) Tryd.underlying22 sz5 rfl evB_none (evB_some rfl rfl) (by first | omega | (simp [length_lentL] <;> omega)) (by first | omega | (simp [length_lentL] <;> omega))))) (hall_cons (hop_mv rfl (by decide) rfl rfl) (hall_cons (hop_mv rfl (by decide) rfl rfl) (hall_cons (hop_val [(6, 39, _)] [] rfl rfl rfl (by decide) rfl (jcons rfl rfl rfl rfl rfl (jnil)) (xnil) (fun _ _ _ _ => does_v (rv_lenB Tryd.underlying9 rfl))) (hall_cons (hop_val [(5, 38, _), (7, 40, _)] [] rfl rfl rfl (by decide) rfl (jcons rfl rfl rfl rfl rfl (jcons rfl rfl rfl rfl rfl (jnil))) (xnil) (fun _ _ _ _ => does_v (rv_sliceR (rd_rd (i := 0) rfl) Tryd.underlying22 sz5 rfl evB_none (evB_some rfl rfl) (by first | omega | (simp [length_lentL] <;> omega)) (by first | omega | (simp [length_lentL] <;> omega))))) (hall_nil)))))))))) (draw_end1 [(0, 33, _), (4, 37, _), (8, 41, _)] (jcons rfl rfl rfl rfl rfl (jcons rfl rfl rfl rfl rfl (jcons rfl rfl rfl rfl rfl (jnil)))) ?_)
    refine st_drawOp [0, 0, 0, 4, 14, 0, 0, 64, 224, 511, 1023, 2047, 2047, 4095, 16383] (by kernel_rfl) rfl ?_
    refine st_call1 (ρ := Value) (fun r => .tuple #[r, vI 0]) (fun _ => True) (fun r => [own r 5 1 (hsize k) ((hmacW k key s).map U8)]) cal38 rfl (fun w hM => ((HMAC_ok k hk _ _ key s (by omega) (by omega) w (hL.at hM) (lentRd (((rd_rd (i := 1) rfl) w hM).part8 (by first | omega | (simp [length_lentL] <;> omega)) (by first | omega | (simp [length_lentL] <;> omega)))) (lentRd (((rd_rd (i := 0) rfl) w hM).part8 (by first | omega | (simp [length_lentL] <;> omega)) (by first | omega | (simp [length_lentL] <;> omega)))))).mono fun e w' ⟨r, h1, h2⟩ => ⟨r, h1, trivial, h2⟩) (by decide) (fun r3 _ => ?_)
    refine st_nil ?_
    refine st_then ?_
    refine st_drawOp [0, 0, 0, 4, 14, 0, 0, 64, 224, 511, 1023, 2047, 2047, 4095, 16383] (by kernel_rfl) rfl ?_
    refine st_v (rv_move rfl) (by decide) ?_
    refine st_nil ?_
    refine st_then ?_
    refine st_drawSeg1 (E0 := [(1, _), (2, _), (7, _), (8, _), (9, _), (32, _)]) [kany, kany, kany, kany, kany, kany, kany, kany, kany, kany, kany, kpeq _, kpeq _, kpeq _] 11 14 [0, 0, 0, 4, 14, 0, 0, 64, 224, 511, 1023, 2047, 2047, 4095, 16383] [1, 2, 7, 8, 9, 32] (by kernel_rfl) (by decide) (by kernel_rfl) (.cons rfl (.cons rfl (.cons rfl (.cons rfl (.cons rfl (.cons rfl (.nil _))))))) rfl rfl (hall_skip rfl (hall_skip rfl (hall_skip rfl (hall_skip rfl (hall_skip rfl (hall_skip rfl (hall_skip rfl (hall_skip rfl (hall_skip rfl (hall_skip rfl (hall_skip rfl (hall_cons (hop_val [] [] rfl rfl rfl (by decide) rfl (jnil) (xnil) (fun _ _ _ _ => does_v (rv_extract rfl rfl))) (hall_cons (hop_val [] [] rfl rfl rfl (by decide) rfl (jnil) (xnil) (fun _ _ _ _ => does_v (rv_extract rfl rfl))) (hall_cons (hop_val [(11, 43, _)] [] rfl rfl rfl (by decide) rfl (jcons rfl rfl rfl rfl rfl (jnil)) (xnil) (fun _ _ _ _ => does_v (rv_assign rfl))) (hall_nil))))))))))))))) (draw_end1 [(12, 44, _), (13, 10, _)] (jcons rfl rfl rfl rfl rfl (jcons rfl rfl rfl rfl rfl (jnil))) ?_)
    refine st_drawTail (N := 14) [0, 0, 0, 4, 14, 0, 0, 64, 224, 511, 1023, 2047, 2047, 4095, 16383] (by kernel_rfl) (by kernel_rfl) ?_
    refine st_v (rv_assign rfl) (by decide) ?_
    refine st_nil ?_
    refine st_then ?_
    refine st_seq ?_
    refine st_drawStart mixed ?_
    refine st_drawSeg1 (E0 := [(1, _), (2, _), (7, _), (8, _), (9, _), (10, _), (11, _)]) [kpeq _, kpeq _, kpeq _, kpeq _, kpeq _, kpeq _, kpeq _, kpeq _, kpeq _] 0 9 [0, 0, 0, 4, 14, 0, 0, 64, 224, 511, 1023, 2047, 2047, 4095, 16383] [1, 2, 7, 8, 9, 10, 11] (by kernel_rfl) (by decide) (by kernel_rfl) (.cons rfl (.cons rfl (.cons rfl (.cons rfl (.cons rfl (.cons rfl (.cons rfl (.nil _)))))))) rfl rfl (hall_cons (hop_mv rfl (by decide) rfl rfl) (hall_cons (hop_mv rfl (by decide) rfl rfl) (hall_cons (hop_mv rfl (by decide) rfl rfl) (hall_cons (hop_val [(2, 48, _)] [] rfl rfl rfl (by decide) rfl (jcons rfl rfl rfl rfl rfl (jnil)) (xnil) (fun _ _ _ _ => does_v (rv_lenB Tryd.underlying9 rfl))) (hall_cons (hop_val [(1, 47, _), (3, 49, _)] [] rfl rfl rfl (by decide) rfl (jcons rfl rfl rfl rfl rfl (jcons rfl rfl rfl rfl rfl (jnil))) (xnil) (fun _ _ _ _ => does_v (rv_sliceR (rd_rd (i := 2) rfl) Tryd.underlying22 sz5 rfl evB_none (evB_some rfl rfl) (by first | omega | (simp [length_lentL] <;> omega)) (by first | omega | (simp [length_lentL] <;> omega))))) (hall_cons (hop_mv rfl (by decide) rfl rfl) (hall_cons (hop_mv rfl (by decide) rfl rfl) (hall_cons (hop_val [(6, 52, _)] [] rfl rfl rfl (by decide) rfl (jcons rfl rfl rfl rfl rfl (jnil)) (xnil) (fun _ _ _ _ => does_v (rv_lenB Tryd.underlying9 rfl))) (hall_cons (hop_val [(5, 51, _), (7, 53, _)] [] rfl rfl rfl (by decide) rfl (jcons rfl rfl rfl rfl rfl (jcons rfl rfl rfl rfl rfl (jnil))) (xnil) (fun _ _ _ _ => does_v (rv_sliceR (rd_rd (i := 1) rfl) Tryd.underlying22 sz5 rfl evB_none (evB_some rfl rfl) (by first | omega | (simp [length_lentL] <;> omega)) (by first | omega | (simp [length_lentL] <;> omega))))) (hall_nil)))))))))) (draw_end1 [(0, 46, _), (4, 50, _), (8, 54, _)] (jcons rfl rfl rfl rfl rfl (jcons rfl rfl rfl rfl rfl (jcons rfl rfl rfl rfl rfl (jnil)))) ?_)
    refine st_drawOp [0, 0, 0, 4, 14, 0, 0, 64, 224, 511, 1023, 2047, 2047, 4095, 16383] (by kernel_rfl) rfl ?_
    refine st_call1 (ρ := Value) (fun r => .tuple #[r, vI 0]) (fun _ => True) (fun r => [own r 5 1 (hsize k) ((hmacW k key s).map U8)]) cal39 rfl (fun w hM => ((Extract_ok k hk _ _ key s (by omega) (by omega) w (hL.at hM) (lentRd (((rd_rd (i := 2) rfl) w hM).part8 (by first | omega | (simp [length_lentL] <;> omega)) (by first | omega | (simp [length_lentL] <;> omega)))) (lentRd (((rd_rd (i := 1) rfl) w hM).part8 (by first | omega | (simp [length_lentL] <;> omega)) (by first | omega | (simp [length_lentL] <;> omega)))))).mono fun e w' ⟨r, h1, h2⟩ => ⟨r, h1, trivial, h2⟩) (by decide) (fun r4 _ => ?_)
    refine st_nil ?_
    refine st_then ?_
    refine st_drawOp [0, 0, 0, 4, 14, 0, 0, 64, 224, 511, 1023, 2047, 2047, 4095, 16383] (by kernel_rfl) rfl ?_
    refine st_v (rv_move rfl) (by decide) ?_
    refine st_nil ?_
    refine st_then ?_
    refine st_drawSeg1 (E0 := [(1, _), (2, _), (7, _), (8, _), (9, _), (10, _), (11, _), (45, _)]) [kany, kany, kany, kany, kany, kany, kany, kany, kany, kany, kany, kpeq _, kpeq _, kpeq _] 11 14 [0, 0, 0, 4, 14, 0, 0, 64, 224, 511, 1023, 2047, 2047, 4095, 16383] [1, 2, 7, 8, 9, 10, 11, 45] (by kernel_rfl) (by decide) (by kernel_rfl) (.cons rfl (.cons rfl (.cons rfl (.cons rfl (.cons rfl (.cons rfl (.cons rfl (.cons rfl (.nil _))))))))) rfl rfl (hall_skip rfl (hall_skip rfl (hall_skip rfl (hall_skip rfl (hall_skip rfl (hall_skip rfl (hall_skip rfl (hall_skip rfl (hall_skip rfl (hall_skip rfl (hall_skip rfl (hall_cons (hop_val [] [] rfl rfl rfl (by decide) rfl (jnil) (xnil) (fun _ _ _ _ => does_v (rv_extract rfl rfl))) (hall_cons (hop_val [] [] rfl rfl rfl (by decide) rfl (jnil) (xnil) (fun _ _ _ _ => does_v (rv_extract rfl rfl))) (hall_cons (hop_val [(11, 56, _)] [] rfl rfl rfl (by decide) rfl (jcons rfl rfl rfl rfl rfl (jnil)) (xnil) (fun _ _ _ _ => does_v (rv_assign rfl))) (hall_nil))))))))))))))) (draw_end1 [(12, 57, _), (13, 12, _)] (jcons rfl rfl rfl rfl rfl (jcons rfl rfl rfl rfl rfl (jnil))) ?_)
    refine st_drawTail (N := 14) [0, 0, 0, 4, 14, 0, 0, 64, 224, 511, 1023, 2047, 2047, 4095, 16383] (by kernel_rfl) (by kernel_rfl) ?_
    refine st_v (rv_assign rfl) (by decide) ?_
    refine st_nil ?_
    refine st_then ?_
    refine st_seq ?_
    refine st_region ?_
    refine st_v (rv_move rfl) (by decide) ?_
    refine st_v (rv_move rfl) (by decide) ?_
    refine st_call0 cal14 rfl (fun w hM => (still_calls _ key (by omega) w ((rd_rd (i := 3) rfl) w hM))) (by decide) ?_
    refine st_v (rv_assign rfl) (by decide) ?_
    refine st_nil ?_
    refine st_then ?_
    refine st_seq ?_
    refine st_region ?_
    refine st_v (rv_move rfl) (by decide) ?_
    refine st_v (rv_move rfl) (by decide) ?_
    refine st_call0 cal14 rfl (fun w hM => (still_calls _ s (by omega) w ((rd_rd (i := 2) rfl) w hM))) (by decide) ?_
    refine st_v (rv_assign rfl) (by decide) ?_
    refine st_nil ?_
    refine st_then ?_
    refine st_seq ?_
    refine st_seq ?_
    refine st_region ?_
    refine st_v (rv_move rfl) (by decide) ?_
    refine st_v (rv_not rfl) (by decide) ?_
    refine st_v (rv_move rfl) (by decide) ?_
    refine' st_or 3 (L := _) (s := 66) (d := 69) [1, 2, 7, 10, 11, 12, 13] rfl (fun hg3 => ?_) (fun _ => ?_) ?_; rotate_left
    · -- true
      refine st_gskip rfl rfl rfl (by decide) ?_
      refine st_gskip rfl rfl rfl (by decide) ?_
      first | refine st_v (rv_pick_true rfl rfl) (by decide) ?_ | refine st_v (rv_pick_false rfl rfl) (by decide) ?_ | refine st_v (rv_pick rfl rfl rfl) (by decide) ?_
      refine st_nil ?_
      exact st_meet_b (.cons rfl (.cons rfl (.cons rfl (.cons rfl (.cons rfl (.cons rfl (.cons rfl (.cons rfl (.nil _)))))))))
    · -- false
      refine st_gon rfl rfl ?_
      refine st_v (rv_move rfl) (by decide) ?_
      refine st_gon rfl rfl ?_
      refine st_v (rv_not rfl) (by decide) ?_
      first | refine st_v (rv_pick_true rfl rfl) (by decide) ?_ | refine st_v (rv_pick_false rfl rfl) (by decide) ?_ | refine st_v (rv_pick rfl rfl rfl) (by decide) ?_
      refine st_nil ?_
      exact st_meet_b (.cons rfl (.cons rfl (.cons rfl (.cons rfl (.cons rfl (.cons rfl (.cons rfl (.cons rfl (.nil _)))))))))
    refine st_nil ?_
    refine st_then ?_
    refine st_false rfl ?_
    refine st_skip ?_
    refine st_then ?_
    refine st_seq ?_
    refine st_region ?_
    refine st_v (rv_move rfl) (by decide) ?_
    refine st_call0 cal28 rfl (fun w hM => (rKnown_ok hk w)) (by decide) ?_
    refine st_v (rv_assign rfl) (by decide) ?_
    refine st_nil ?_
    refine st_then ?_
    refine st_seq ?_
    refine st_seq ?_
    refine st_region ?_
    refine st_v (rv_move rfl) (by decide) ?_
    refine st_v (rv_not rfl) (by decide) ?_
    refine st_nil ?_
    refine st_then ?_
    refine st_false rfl ?_
    refine st_skip ?_
    refine st_then ?_
    refine st_seq ?_
    refine st_region ?_
    refine st_v (rv_move rfl) (by decide) ?_
    refine st_call1 (ρ := Nat × Value × Value) (fun r => pt r.1 0) (fun _ => True) (fun r => [hrA k r.1 r.2.1 r.2.2]) cal40 rfl (fun w hM => ((Make_calls k hk w)).mono fun e w' ⟨r, h1, h2⟩ => ⟨r, h1, trivial, h2⟩) (by decide) (fun r5 _ => ?_)
    refine st_v (rv_assign rfl) (by decide) ?_
    refine st_nil ?_
    refine st_then ?_
    refine st_seq ?_
    refine st_region ?_
    refine st_v (rv_move rfl) (by decide) ?_
    refine st_v (rv_move rfl) (by decide) ?_
    refine st_v (rv_move rfl) (by decide) ?_
    refine st_call0 cal41 rfl (fun w hM => (rHMAC_calls k hk _ _ _ key s (by omega) (by omega) w (hM.at (i := 0) rfl))) (by decide) ?_
    refine st_v (rv_assign rfl) (by decide) ?_
    refine st_nil ?_
    refine st_then ?_
    refine st_seq ?_
    refine st_region ?_
    refine st_v (rv_move rfl) (by decide) ?_
    refine st_v (rv_string (rd_own (i := 2) rfl) Tryd.underlying22 Tryd.underlying9 Tryd.underlying5 rfl) (by decide) ?_
    refine st_v (rv_move rfl) (by decide) ?_
    refine st_v (rv_eqlB rfl rfl) (by decide) ?_
    refine st_v (rv_move rfl) (by decide) ?_
    refine' st_and 5 (L := _) (s := 100) (d := 105) [11, 13] rfl (fun hg5 => ?_) (fun _ => ?_) ?_; rotate_left
    · -- true
      try simp only [decide_eq_true_eq, decide_eq_false_iff_not, Bool.and_eq_true, Bool.not_eq_true] at hg5
      refine st_gon rfl rfl ?_
      refine st_v (rv_move rfl) (by decide) ?_
      refine st_gon rfl rfl ?_
      refine st_v (rv_string (rd_own (i := 1) rfl) Tryd.underlying22 Tryd.underlying9 Tryd.underlying5 rfl) (by decide) ?_
      refine st_gon rfl rfl ?_
      refine st_v (rv_move rfl) (by decide) ?_
      refine st_gon rfl rfl ?_
      refine st_v (rv_eqlB rfl rfl) (by decide) ?_
      first | refine st_v (rv_pick_true rfl rfl) (by decide) ?_ | refine st_v (rv_pick_false rfl rfl) (by decide) ?_ | refine st_v (rv_pick rfl rfl rfl) (by decide) ?_
      refine st_nil ?_
      exact st_meet_b (.cons rfl (.cons rfl (.cons rfl (.nil _))))
    · -- false
      refine st_gskip rfl rfl rfl (by decide) ?_
      refine st_gskip rfl rfl rfl (by decide) ?_
      refine st_gskip rfl rfl rfl (by decide) ?_
      refine st_gskip rfl rfl rfl (by decide) ?_
      first | refine st_v (rv_pick_true rfl rfl) (by decide) ?_ | refine st_v (rv_pick_false rfl rfl) (by decide) ?_ | refine st_v (rv_pick rfl rfl rfl) (by decide) ?_
      refine st_nil ?_
      exact st_meet_b (.cons rfl (.cons rfl (.cons rfl (.nil _))))
    refine st_v (rv_move rfl) (by decide) ?_
    refine' st_and 3 (L := _) (s := 106) (d := 109) [13] rfl (fun hg11 => ?_) (fun _ => ?_) ?_; rotate_left
    · -- true
      try simp only [decide_eq_true_eq, decide_eq_false_iff_not, Bool.and_eq_true, Bool.not_eq_true] at hg11
      refine st_gon rfl rfl ?_
      refine st_v (rv_move rfl) (by decide) ?_
      refine st_gon rfl rfl ?_
      refine st_v (rv_eqlZ rfl rfl) (by decide) ?_
      first | refine st_v (rv_pick_true rfl rfl) (by decide) ?_ | refine st_v (rv_pick_false rfl rfl) (by decide) ?_ | refine st_v (rv_pick rfl rfl rfl) (by decide) ?_
      refine st_nil ?_
      exact st_meet_b (.cons rfl (.cons rfl (.nil _)))
    · -- false
      refine st_gskip rfl rfl rfl (by decide) ?_
      refine st_gskip rfl rfl rfl (by decide) ?_
      first | refine st_v (rv_pick_true rfl rfl) (by decide) ?_ | refine st_v (rv_pick_false rfl rfl) (by decide) ?_ | refine st_v (rv_pick rfl rfl rfl) (by decide) ?_
      refine st_nil ?_
      exact st_meet_b (.cons rfl (.cons rfl (.nil _)))
    refine st_v (rv_move rfl) (by decide) ?_
    refine' st_and 3 (L := _) (s := 110) (d := 113) [] rfl (fun hg15 => ?_) (fun _ => ?_) ?_; rotate_left
    · -- true
      try simp only [decide_eq_true_eq, decide_eq_false_iff_not, Bool.and_eq_true, Bool.not_eq_true] at hg15
      refine st_gon rfl rfl ?_
      refine st_v (rv_move rfl) (by decide) ?_
      refine st_gon rfl rfl ?_
      refine st_v (rv_eqlZ rfl rfl) (by decide) ?_
      first | refine st_v (rv_pick_true rfl rfl) (by decide) ?_ | refine st_v (rv_pick_false rfl rfl) (by decide) ?_ | refine st_v (rv_pick rfl rfl rfl) (by decide) ?_
      refine st_nil ?_
      exact st_meet_b (.cons rfl (.nil _))
    · -- false
      refine st_gskip rfl rfl rfl (by decide) ?_
      refine st_gskip rfl rfl rfl (by decide) ?_
      first | refine st_v (rv_pick_true rfl rfl) (by decide) ?_ | refine st_v (rv_pick_false rfl rfl) (by decide) ?_ | refine st_v (rv_pick rfl rfl rfl) (by decide) ?_
      refine st_nil ?_
      exact st_meet_b (.cons rfl (.nil _))
    refine st_v (rv_assign rfl) (by decide) ?_
    refine st_nil ?_
    refine st_then ?_
    refine st_ret ?_
    exact st_done rfl rfl (fun w hM => ⟨by first | (simp; done) | rfl, hM.sublist (List.nil_sublist _)⟩)
theorem hashKeyed_walk (z : Int) (key s : List (BitVec 8)) (w : World) (hL : LaidH w) : Calls Tryd.prog 8 #[vI z, vS key, vS s] w (fun e w' => e = .returned (.bool true) ∧ Mem (All w) w w' []) := by
  cases h : knownZ z with
  | false => exact hashKeyed_bad z h key s w hL
  | true =>
    obtain ⟨k, hk, rfl⟩ := knownZ_true h
    exact hashKeyed_ok k hk key s w hL
set_option maxRecDepth 20000 in
theorem hashExpands_bad (z : Int) (hz : knownZ z = false) (key label q : List (BitVec 8)) (n : Int) (w : World) (hL : LaidH w) : Calls Tryd.prog 10 #[vI z, vS key, vS label, vS q, vI n] w (fun e w' => e = .returned (.bool true) ∧ Mem (All w) w w' []) := by
  refine calls_of_st (n := 166) (args := [vI z, vS key, vS label, vS q, vI n]) Tryd.func10 rfl Tryd.ntmps10 (Nat.le_of_ble_eq_true rfl) (Mem.all w) ?_
  refine st_seq ?_
  refine st_region ?_
  refine st_v (rv_assign rfl) (by decide) ?_
  refine st_nil ?_
  refine st_then ?_
  refine st_seq ?_
  refine st_seq ?_
  refine st_region ?_
  refine st_v (rv_move rfl) (by decide) ?_
  refine st_v (rv_lenB Tryd.underlying9 rfl) (by decide) ?_
  refine st_v (rv_gtrZ rfl rfl) (by decide) ?_
  refine st_v (rv_move rfl) (by decide) ?_
  refine' st_or 4 (L := _) (s := 29) (d := 33) [0, 1, 2, 3, 4] rfl (fun hg4 => ?_) (fun _ => ?_) ?_; rotate_left
  · -- true
    refine st_gskip rfl rfl rfl (by decide) ?_
    refine st_gskip rfl rfl rfl (by decide) ?_
    refine st_gskip rfl rfl rfl (by decide) ?_
    first | refine st_v (rv_pick_true rfl rfl) (by decide) ?_ | refine st_v (rv_pick_false rfl rfl) (by decide) ?_ | refine st_v (rv_pick rfl rfl rfl) (by decide) ?_
    refine st_nil ?_
    exact st_meet_b (.cons rfl (.cons rfl (.cons rfl (.cons rfl (.cons rfl (.cons rfl (.nil _)))))))
  · -- false
    refine st_gon rfl rfl ?_
    refine st_v (rv_move rfl) (by decide) ?_
    refine st_gon rfl rfl ?_
    refine st_v (rv_lenB Tryd.underlying9 rfl) (by decide) ?_
    refine st_gon rfl rfl ?_
    refine st_v (rv_gtrZ rfl rfl) (by decide) ?_
    first | refine st_v (rv_pick_true rfl rfl) (by decide) ?_ | refine st_v (rv_pick_false rfl rfl) (by decide) ?_ | refine st_v (rv_pick rfl rfl rfl) (by decide) ?_
    refine st_nil ?_
    exact st_meet_b (.cons rfl (.cons rfl (.cons rfl (.cons rfl (.cons rfl (.cons rfl (.nil _)))))))
  refine st_v (rv_move rfl) (by decide) ?_
  refine' st_or 4 (L := _) (s := 34) (d := 38) [0, 1, 2, 3, 4] rfl (fun hg9 => ?_) (fun _ => ?_) ?_; rotate_left
  · -- true
    refine st_gskip rfl rfl rfl (by decide) ?_
    refine st_gskip rfl rfl rfl (by decide) ?_
    refine st_gskip rfl rfl rfl (by decide) ?_
    first | refine st_v (rv_pick_true rfl rfl) (by decide) ?_ | refine st_v (rv_pick_false rfl rfl) (by decide) ?_ | refine st_v (rv_pick rfl rfl rfl) (by decide) ?_
    refine st_nil ?_
    exact st_meet_b (.cons rfl (.cons rfl (.cons rfl (.cons rfl (.cons rfl (.cons rfl (.nil _)))))))
  · -- false
    refine st_gon rfl rfl ?_
    refine st_v (rv_move rfl) (by decide) ?_
    refine st_gon rfl rfl ?_
    refine st_v (rv_lenB Tryd.underlying9 rfl) (by decide) ?_
    refine st_gon rfl rfl ?_
    refine st_v (rv_gtrZ rfl rfl) (by decide) ?_
    first | refine st_v (rv_pick_true rfl rfl) (by decide) ?_ | refine st_v (rv_pick_false rfl rfl) (by decide) ?_ | refine st_v (rv_pick rfl rfl rfl) (by decide) ?_
    refine st_nil ?_
    exact st_meet_b (.cons rfl (.cons rfl (.cons rfl (.cons rfl (.cons rfl (.cons rfl (.nil _)))))))
  refine st_nil ?_
  refine st_then ?_
  refine st_cond rfl (fun hc38 => ?_) (fun hc38 => ?_)
  · -- t38 True
    try simp only [z1, z2, z3, z4, z5, z6, z7, z8, z9, z10, z11, z12, z13, z14] at hc38
    refine st_seq ?_
    refine st_region ?_
    refine st_v (rv_assign rfl) (by decide) ?_
    refine st_nil ?_
    refine st_then ?_
    refine st_ret ?_
    refine st_then_ret ?_
    exact st_done rfl rfl (fun w hM => ⟨by first | (simp; done) | rfl, hM.sublist (List.nil_sublist _)⟩)
  · -- t38 False
    try simp only [z1, z2, z3, z4, z5, z6, z7, z8, z9, z10, z11, z12, z13, z14] at hc38
    refine st_skip ?_
    refine st_then ?_
    refine st_seq ?_
    refine st_region ?_
    refine st_v (rv_move rfl) (by decide) ?_
    refine st_v (rv_assign rfl) (by decide) ?_
    refine st_nil ?_
    refine st_then ?_
    refine st_seq ?_
    refine st_region ?_
    refine st_v (rv_move rfl) (by decide) ?_
    refine st_callV cal12 rfl (fun w hM => lent_calls _ (by omega) w) (by decide) (fun v1 => ?_)
    refine st_v (rv_assign rfl) (by decide) ?_
    refine st_nil ?_
    refine st_then ?_
    refine st_seq ?_
    refine st_region ?_
    refine st_v (rv_move rfl) (by decide) ?_
    refine st_callV cal12 rfl (fun w hM => lent_calls _ (by omega) w) (by decide) (fun v2 => ?_)
    refine st_v (rv_assign rfl) (by decide) ?_
    refine st_nil ?_
    refine st_then ?_
    refine st_seq ?_
    refine st_drawStart mixed ?_
    refine st_drawSeg1 (E0 := [(1, _), (2, _), (3, _), (4, _), (11, _), (12, _), (13, _)]) [kpeq _, kpeq _, kpeq _, kpeq _, kpeq _, kpeq _, kpeq _, kpeq _, kpeq _, kpeq _] 0 10 [0, 0, 0, 4, 14, 0, 0, 64, 224, 0, 1023, 2047, 4095, 4095, 8191, 32767] [1, 2, 3, 4, 11, 12, 13] (by kernel_rfl) (by decide) (by kernel_rfl) (.cons rfl (.cons rfl (.cons rfl (.cons rfl (.cons rfl (.cons rfl (.cons rfl (.nil _)))))))) rfl rfl (hall_cons (hop_mv rfl (by decide) rfl rfl) (hall_cons (hop_mv rfl (by decide) rfl rfl) (hall_cons (hop_mv rfl (by decide) rfl rfl) (hall_cons (hop_val [(2, 47, _)] [] rfl rfl rfl (by decide) rfl (jcons rfl rfl rfl rfl rfl (jnil)) (xnil) (fun _ _ _ _ => does_v (rv_lenB Tryd.underlying9 rfl))) (hall_cons (hop_val [(1, 46, _), (3, 48, _)] [] rfl rfl rfl (by decide) rfl (jcons rfl rfl rfl rfl rfl (jcons rfl rfl rfl rfl rfl (jnil))) (xnil) (fun _ _ _ _ => does_v (rv_sliceR (rd_rd (i := 1) rfl) Tryd.underlying22 sz5 rfl evB_none (evB_some rfl rfl) (by first | omega | (simp [length_lentL] <;> omega)) (by first | omega | (simp [length_lentL] <;> omega))))) (hall_cons (hop_mv rfl (by decide) rfl rfl) (hall_cons (hop_mv rfl (by decide) rfl rfl) (hall_cons (hop_val [(6, 51, _)] [] rfl rfl rfl (by decide) rfl (jcons rfl rfl rfl rfl rfl (jnil)) (xnil) (fun _ _ _ _ => does_v (rv_lenB Tryd.underlying9 rfl))) (hall_cons (hop_val [(5, 50, _), (7, 52, _)] [] rfl rfl rfl (by decide) rfl (jcons rfl rfl rfl rfl rfl (jcons rfl rfl rfl rfl rfl (jnil))) (xnil) (fun _ _ _ _ => does_v (rv_sliceR (rd_rd (i := 0) rfl) Tryd.underlying22 sz5 rfl evB_none (evB_some rfl rfl) (by first | omega | (simp [length_lentL] <;> omega)) (by first | omega | (simp [length_lentL] <;> omega))))) (hall_cons (hop_mv rfl (by decide) rfl rfl) (hall_nil))))))))))) (draw_end1 [(0, 45, _), (4, 49, _), (8, 53, _), (9, 54, _)] (jcons rfl rfl rfl rfl rfl (jcons rfl rfl rfl rfl rfl (jcons rfl rfl rfl rfl rfl (jcons rfl rfl rfl rfl rfl (jnil))))) ?_)
    refine st_drawOp [0, 0, 0, 4, 14, 0, 0, 64, 224, 0, 1023, 2047, 4095, 4095, 8191, 32767] (by kernel_rfl) rfl ?_
    refine st_call0 cal42 rfl (fun w hM => (Expand_bad z hz _ _ _ w)) (by decide) ?_
    refine st_nil ?_
    refine st_then ?_
    refine st_drawOp [0, 0, 0, 4, 14, 0, 0, 64, 224, 0, 1023, 2047, 4095, 4095, 8191, 32767] (by kernel_rfl) rfl ?_
    refine st_v (rv_move rfl) (by decide) ?_
    refine st_nil ?_
    refine st_then ?_
    refine st_drawSeg1 (E0 := [(1, _), (2, _), (3, _), (4, _), (11, _), (12, _), (13, _), (44, _)]) [kany, kany, kany, kany, kany, kany, kany, kany, kany, kany, kany, kany, kpeq _, kpeq _, kpeq _] 12 15 [0, 0, 0, 4, 14, 0, 0, 64, 224, 0, 1023, 2047, 4095, 4095, 8191, 32767] [1, 2, 3, 4, 11, 12, 13, 44] (by kernel_rfl) (by decide) (by kernel_rfl) (.cons rfl (.cons rfl (.cons rfl (.cons rfl (.cons rfl (.cons rfl (.cons rfl (.cons rfl (.nil _))))))))) rfl rfl (hall_skip rfl (hall_skip rfl (hall_skip rfl (hall_skip rfl (hall_skip rfl (hall_skip rfl (hall_skip rfl (hall_skip rfl (hall_skip rfl (hall_skip rfl (hall_skip rfl (hall_skip rfl (hall_cons (hop_val [] [] rfl rfl rfl (by decide) rfl (jnil) (xnil) (fun _ _ _ _ => does_v (rv_extract rfl rfl))) (hall_cons (hop_val [] [] rfl rfl rfl (by decide) rfl (jnil) (xnil) (fun _ _ _ _ => does_v (rv_extract rfl rfl))) (hall_cons (hop_val [(12, 56, _)] [] rfl rfl rfl (by decide) rfl (jcons rfl rfl rfl rfl rfl (jnil)) (xnil) (fun _ _ _ _ => does_v (rv_assign rfl))) (hall_nil)))))))))))))))) (draw_end1 [(13, 57, _), (14, 14, _)] (jcons rfl rfl rfl rfl rfl (jcons rfl rfl rfl rfl rfl (jnil))) ?_)
    refine st_drawTail (N := 15) [0, 0, 0, 4, 14, 0, 0, 64, 224, 0, 1023, 2047, 4095, 4095, 8191, 32767] (by kernel_rfl) (by kernel_rfl) ?_
    refine st_v (rv_assign rfl) (by decide) ?_
    refine st_nil ?_
    refine st_then ?_
    refine st_seq ?_
    refine st_drawStart mixed ?_
    refine st_drawSeg1 (E0 := [(1, _), (2, _), (3, _), (4, _), (11, _), (12, _), (13, _), (14, _), (15, _)]) [kpeq _, kpeq _, kpeq _, kpeq _, kpeq _, kpeq _, kpeq _, kpeq _, kpeq _, kpeq _, kpeq _] 0 11 [0, 0, 0, 4, 14, 0, 0, 0, 128, 448, 0, 2047, 4095, 8191, 8191, 16383, 65535] [1, 2, 3, 4, 11, 12, 13, 14, 15] (by kernel_rfl) (by decide) (by kernel_rfl) (.cons rfl (.cons rfl (.cons rfl (.cons rfl (.cons rfl (.cons rfl (.cons rfl (.cons rfl (.cons rfl (.nil _)))))))))) rfl rfl (hall_cons (hop_mv rfl (by decide) rfl rfl) (hall_cons (hop_mv rfl (by decide) rfl rfl) (hall_cons (hop_mv rfl (by decide) rfl rfl) (hall_cons (hop_val [(2, 61, _)] [] rfl rfl rfl (by decide) rfl (jcons rfl rfl rfl rfl rfl (jnil)) (xnil) (fun _ _ _ _ => does_v (rv_lenB Tryd.underlying9 rfl))) (hall_cons (hop_val [(1, 60, _), (3, 62, _)] [] rfl rfl rfl (by decide) rfl (jcons rfl rfl rfl rfl rfl (jcons rfl rfl rfl rfl rfl (jnil))) (xnil) (fun _ _ _ _ => does_v (rv_sliceR (rd_rd (i := 1) rfl) Tryd.underlying22 sz5 rfl evB_none (evB_some rfl rfl) (by first | omega | (simp [length_lentL] <;> omega)) (by first | omega | (simp [length_lentL] <;> omega))))) (hall_cons (hop_mv rfl (by decide) rfl rfl) (hall_cons (hop_mv rfl (by decide) rfl rfl) (hall_cons (hop_mv rfl (by decide) rfl rfl) (hall_cons (hop_val [(7, 66, _)] [] rfl rfl rfl (by decide) rfl (jcons rfl rfl rfl rfl rfl (jnil)) (xnil) (fun _ _ _ _ => does_v (rv_lenB Tryd.underlying9 rfl))) (hall_cons (hop_val [(6, 65, _), (8, 67, _)] [] rfl rfl rfl (by decide) rfl (jcons rfl rfl rfl rfl rfl (jcons rfl rfl rfl rfl rfl (jnil))) (xnil) (fun _ _ _ _ => does_v (rv_sliceR (rd_rd (i := 0) rfl) Tryd.underlying22 sz5 rfl evB_none (evB_some rfl rfl) (by first | omega | (simp [length_lentL] <;> omega)) (by first | omega | (simp [length_lentL] <;> omega))))) (hall_cons (hop_mv rfl (by decide) rfl rfl) (hall_nil)))))))))))) (draw_end1 [(0, 59, _), (4, 63, _), (5, 64, _), (9, 68, _), (10, 69, _)] (jcons rfl rfl rfl rfl rfl (jcons rfl rfl rfl rfl rfl (jcons rfl rfl rfl rfl rfl (jcons rfl rfl rfl rfl rfl (jcons rfl rfl rfl rfl rfl (jnil)))))) ?_)
    refine st_drawOp [0, 0, 0, 4, 14, 0, 0, 0, 128, 448, 0, 2047, 4095, 8191, 8191, 16383, 65535] (by kernel_rfl) rfl ?_
    refine st_call0 cal43 rfl (fun w hM => (ELabel_bad z hz _ _ _ _ w)) (by decide) ?_
    refine st_nil ?_
    refine st_then ?_
    refine st_drawOp [0, 0, 0, 4, 14, 0, 0, 0, 128, 448, 0, 2047, 4095, 8191, 8191, 16383, 65535] (by kernel_rfl) rfl ?_
    refine st_v (rv_move rfl) (by decide) ?_
    refine st_nil ?_
    refine st_then ?_
    refine st_drawSeg1 (E0 := [(1, _), (2, _), (3, _), (4, _), (11, _), (12, _), (13, _), (14, _), (15, _), (58, _)]) [kany, kany, kany, kany, kany, kany, kany, kany, kany, kany, kany, kany, kany, kpeq _, kpeq _, kpeq _] 13 16 [0, 0, 0, 4, 14, 0, 0, 0, 128, 448, 0, 2047, 4095, 8191, 8191, 16383, 65535] [1, 2, 3, 4, 11, 12, 13, 14, 15, 58] (by kernel_rfl) (by decide) (by kernel_rfl) (.cons rfl (.cons rfl (.cons rfl (.cons rfl (.cons rfl (.cons rfl (.cons rfl (.cons rfl (.cons rfl (.cons rfl (.nil _))))))))))) rfl rfl (hall_skip rfl (hall_skip rfl (hall_skip rfl (hall_skip rfl (hall_skip rfl (hall_skip rfl (hall_skip rfl (hall_skip rfl (hall_skip rfl (hall_skip rfl (hall_skip rfl (hall_skip rfl (hall_skip rfl (hall_cons (hop_val [] [] rfl rfl rfl (by decide) rfl (jnil) (xnil) (fun _ _ _ _ => does_v (rv_extract rfl rfl))) (hall_cons (hop_val [] [] rfl rfl rfl (by decide) rfl (jnil) (xnil) (fun _ _ _ _ => does_v (rv_extract rfl rfl))) (hall_cons (hop_val [(13, 71, _)] [] rfl rfl rfl (by decide) rfl (jcons rfl rfl rfl rfl rfl (jnil)) (xnil) (fun _ _ _ _ => does_v (rv_assign rfl))) (hall_nil))))))))))))))))) (draw_end1 [(14, 72, _), (15, 16, _)] (jcons rfl rfl rfl rfl rfl (jcons rfl rfl rfl rfl rfl (jnil))) ?_)
    refine st_drawTail (N := 16) [0, 0, 0, 4, 14, 0, 0, 0, 128, 448, 0, 2047, 4095, 8191, 8191, 16383, 65535] (by kernel_rfl) (by kernel_rfl) ?_
    refine st_v (rv_assign rfl) (by decide) ?_
    refine st_nil ?_
    refine st_then ?_
    refine st_seq ?_
    refine st_region ?_
    refine st_v (rv_move rfl) (by decide) ?_
    refine st_v (rv_move rfl) (by decide) ?_
    refine st_call0 cal14 rfl (fun w hM => (still_calls _ key (by omega) w ((rd_rd (i := 1) rfl) w hM))) (by decide) ?_
    refine st_v (rv_assign rfl) (by decide) ?_
    refine st_nil ?_
    refine st_then ?_
    refine st_seq ?_
    refine st_region ?_
    refine st_v (rv_move rfl) (by decide) ?_
    refine st_v (rv_move rfl) (by decide) ?_
    refine st_call0 cal14 rfl (fun w hM => (still_calls _ q (by omega) w ((rd_rd (i := 0) rfl) w hM))) (by decide) ?_
    refine st_v (rv_assign rfl) (by decide) ?_
    refine st_nil ?_
    refine st_then ?_
    refine st_seq ?_
    refine st_seq ?_
    refine st_region ?_
    refine st_v (rv_move rfl) (by decide) ?_
    refine st_v (rv_not rfl) (by decide) ?_
    refine st_v (rv_move rfl) (by decide) ?_
    refine' st_or 3 (L := _) (s := 81) (d := 84) [1, 2, 3, 4, 11, 14, 15, 16, 17] rfl (fun hg3 => ?_) (fun _ => ?_) ?_; rotate_left
    · -- true
      refine st_gskip rfl rfl rfl (by decide) ?_
      refine st_gskip rfl rfl rfl (by decide) ?_
      first | refine st_v (rv_pick_true rfl rfl) (by decide) ?_ | refine st_v (rv_pick_false rfl rfl) (by decide) ?_ | refine st_v (rv_pick rfl rfl rfl) (by decide) ?_
      refine st_nil ?_
      exact st_meet_b (.cons rfl (.cons rfl (.cons rfl (.cons rfl (.cons rfl (.cons rfl (.cons rfl (.cons rfl (.cons rfl (.cons rfl (.nil _)))))))))))
    · -- false
      refine st_gon rfl rfl ?_
      refine st_v (rv_move rfl) (by decide) ?_
      refine st_gon rfl rfl ?_
      refine st_v (rv_not rfl) (by decide) ?_
      first | refine st_v (rv_pick_true rfl rfl) (by decide) ?_ | refine st_v (rv_pick_false rfl rfl) (by decide) ?_ | refine st_v (rv_pick rfl rfl rfl) (by decide) ?_
      refine st_nil ?_
      exact st_meet_b (.cons rfl (.cons rfl (.cons rfl (.cons rfl (.cons rfl (.cons rfl (.cons rfl (.cons rfl (.cons rfl (.cons rfl (.nil _)))))))))))
    refine st_nil ?_
    refine st_then ?_
    refine st_false rfl ?_
    refine st_skip ?_
    refine st_then ?_
    refine st_seq ?_
    refine st_region ?_
    refine st_v (rv_move rfl) (by decide) ?_
    refine st_call0 cal28 rfl (fun w hM => (rKnown_bad hz w)) (by decide) ?_
    refine st_v (rv_assign rfl) (by decide) ?_
    refine st_nil ?_
    refine st_then ?_
    refine st_seq ?_
    refine st_seq ?_
    refine st_region ?_
    refine st_v (rv_move rfl) (by decide) ?_
    refine st_v (rv_not rfl) (by decide) ?_
    refine st_nil ?_
    refine st_then ?_
    refine st_true rfl ?_
    refine st_seq ?_
    refine st_region ?_
    refine st_v (rv_move rfl) (by decide) ?_
    refine st_v (rv_lenS Tryd.underlying22 rfl) (by decide) ?_
    refine st_v (rv_eqlZ rfl rfl) (by decide) ?_
    refine st_v (rv_move rfl) (by decide) ?_
    refine' st_and 4 (L := _) (s := 92) (d := 96) [15, 17] rfl (fun hg4 => ?_) (fun _ => ?_) ?_; rotate_left
    · -- true
      try simp only [decide_eq_true_eq, decide_eq_false_iff_not, Bool.and_eq_true, Bool.not_eq_true] at hg4
      refine st_gon rfl rfl ?_
      refine st_v (rv_move rfl) (by decide) ?_
      refine st_gon rfl rfl ?_
      refine st_v (rv_lenS Tryd.underlying22 rfl) (by decide) ?_
      refine st_gon rfl rfl ?_
      refine st_v (rv_eqlZ rfl rfl) (by decide) ?_
      first | refine st_v (rv_pick_true rfl rfl) (by decide) ?_ | refine st_v (rv_pick_false rfl rfl) (by decide) ?_ | refine st_v (rv_pick rfl rfl rfl) (by decide) ?_
      refine st_nil ?_
      exact st_meet_b (.cons rfl (.cons rfl (.cons rfl (.nil _))))
    · -- false
      refine st_gskip rfl rfl rfl (by decide) ?_
      refine st_gskip rfl rfl rfl (by decide) ?_
      refine st_gskip rfl rfl rfl (by decide) ?_
      first | refine st_v (rv_pick_true rfl rfl) (by decide) ?_ | refine st_v (rv_pick_false rfl rfl) (by decide) ?_ | refine st_v (rv_pick rfl rfl rfl) (by decide) ?_
      refine st_nil ?_
      exact st_meet_b (.cons rfl (.cons rfl (.cons rfl (.nil _))))
    refine st_v (rv_move rfl) (by decide) ?_
    refine' st_and 3 (L := _) (s := 97) (d := 100) [17] rfl (fun hg9 => ?_) (fun _ => ?_) ?_; rotate_left
    · -- true
      try simp only [decide_eq_true_eq, decide_eq_false_iff_not, Bool.and_eq_true, Bool.not_eq_true] at hg9
      refine st_gon rfl rfl ?_
      refine st_v (rv_move rfl) (by decide) ?_
      refine st_gon rfl rfl ?_
      refine st_v (rv_eqlZ rfl rfl) (by decide) ?_
      first | refine st_v (rv_pick_true rfl rfl) (by decide) ?_ | refine st_v (rv_pick_false rfl rfl) (by decide) ?_ | refine st_v (rv_pick rfl rfl rfl) (by decide) ?_
      refine st_nil ?_
      exact st_meet_b (.cons rfl (.cons rfl (.nil _)))
    · -- false
      refine st_gskip rfl rfl rfl (by decide) ?_
      refine st_gskip rfl rfl rfl (by decide) ?_
      first | refine st_v (rv_pick_true rfl rfl) (by decide) ?_ | refine st_v (rv_pick_false rfl rfl) (by decide) ?_ | refine st_v (rv_pick rfl rfl rfl) (by decide) ?_
      refine st_nil ?_
      exact st_meet_b (.cons rfl (.cons rfl (.nil _)))
    refine st_v (rv_move rfl) (by decide) ?_
    refine' st_and 3 (L := _) (s := 101) (d := 104) [] rfl (fun hg13 => ?_) (fun _ => ?_) ?_; rotate_left
    · -- true
      try simp only [decide_eq_true_eq, decide_eq_false_iff_not, Bool.and_eq_true, Bool.not_eq_true] at hg13
      refine st_gon rfl rfl ?_
      refine st_v (rv_move rfl) (by decide) ?_
      refine st_gon rfl rfl ?_
      refine st_v (rv_eqlZ rfl rfl) (by decide) ?_
      first | refine st_v (rv_pick_true rfl rfl) (by decide) ?_ | refine st_v (rv_pick_false rfl rfl) (by decide) ?_ | refine st_v (rv_pick rfl rfl rfl) (by decide) ?_
      refine st_nil ?_
      exact st_meet_b (.cons rfl (.nil _))
    · -- false
      refine st_gskip rfl rfl rfl (by decide) ?_
      refine st_gskip rfl rfl rfl (by decide) ?_
      first | refine st_v (rv_pick_true rfl rfl) (by decide) ?_ | refine st_v (rv_pick_false rfl rfl) (by decide) ?_ | refine st_v (rv_pick rfl rfl rfl) (by decide) ?_
      refine st_nil ?_
      exact st_meet_b (.cons rfl (.nil _))
    refine st_v (rv_assign rfl) (by decide) ?_
    refine st_nil ?_
    refine st_then ?_
    refine st_ret ?_
    refine st_then_ret ?_
    exact st_done rfl rfl (fun w hM => ⟨by first | (simp; done) | rfl, hM.sublist (List.nil_sublist _)⟩)
set_option maxRecDepth 20000 in
set_option maxHeartbeats 1000000 in
theorem hashExpands1 (k : Nat) (hk : k ≤ 2) (key label q : List (BitVec 8)) (n : Int) (hl : longZ k n = true) (he : elongZ n label q = true) (w : World) (hL : LaidH w) : Calls Tryd.prog 10 #[vI (k : Nat), vS key, vS label, vS q, vI n] w (fun e w' => e = .returned (.bool true) ∧ Mem (All w) w w' []) := by
  refine calls_of_st (n := 166) (args := [vI (k : Nat), vS key, vS label, vS q, vI n]) Tryd.func10 rfl Tryd.ntmps10 (Nat.le_of_ble_eq_true rfl) (Mem.all w) ?_
  refine st_seq ?_
  refine st_region ?_
  refine st_v (rv_assign rfl) (by decide) ?_
  refine st_nil ?_
  refine st_then ?_
  refine st_seq ?_
  refine st_seq ?_
  refine st_region ?_
  refine st_v (rv_move rfl) (by decide) ?_
  refine st_v (rv_lenB Tryd.underlying9 rfl) (by decide) ?_
  refine st_v (rv_gtrZ rfl rfl) (by decide) ?_
  refine st_v (rv_move rfl) (by decide) ?_
  refine' st_or 4 (L := _) (s := 29) (d := 33) [0, 1, 2, 3, 4] rfl (fun hg4 => ?_) (fun _ => ?_) ?_; rotate_left
  · -- true
    refine st_gskip rfl rfl rfl (by decide) ?_
    refine st_gskip rfl rfl rfl (by decide) ?_
    refine st_gskip rfl rfl rfl (by decide) ?_
    first | refine st_v (rv_pick_true rfl rfl) (by decide) ?_ | refine st_v (rv_pick_false rfl rfl) (by decide) ?_ | refine st_v (rv_pick rfl rfl rfl) (by decide) ?_
    refine st_nil ?_
    exact st_meet_b (.cons rfl (.cons rfl (.cons rfl (.cons rfl (.cons rfl (.cons rfl (.nil _)))))))
  · -- false
    refine st_gon rfl rfl ?_
    refine st_v (rv_move rfl) (by decide) ?_
    refine st_gon rfl rfl ?_
    refine st_v (rv_lenB Tryd.underlying9 rfl) (by decide) ?_
    refine st_gon rfl rfl ?_
    refine st_v (rv_gtrZ rfl rfl) (by decide) ?_
    first | refine st_v (rv_pick_true rfl rfl) (by decide) ?_ | refine st_v (rv_pick_false rfl rfl) (by decide) ?_ | refine st_v (rv_pick rfl rfl rfl) (by decide) ?_
    refine st_nil ?_
    exact st_meet_b (.cons rfl (.cons rfl (.cons rfl (.cons rfl (.cons rfl (.cons rfl (.nil _)))))))
  refine st_v (rv_move rfl) (by decide) ?_
  refine' st_or 4 (L := _) (s := 34) (d := 38) [0, 1, 2, 3, 4] rfl (fun hg9 => ?_) (fun _ => ?_) ?_; rotate_left
  · -- true
    refine st_gskip rfl rfl rfl (by decide) ?_
    refine st_gskip rfl rfl rfl (by decide) ?_
    refine st_gskip rfl rfl rfl (by decide) ?_
    first | refine st_v (rv_pick_true rfl rfl) (by decide) ?_ | refine st_v (rv_pick_false rfl rfl) (by decide) ?_ | refine st_v (rv_pick rfl rfl rfl) (by decide) ?_
    refine st_nil ?_
    exact st_meet_b (.cons rfl (.cons rfl (.cons rfl (.cons rfl (.cons rfl (.cons rfl (.nil _)))))))
  · -- false
    refine st_gon rfl rfl ?_
    refine st_v (rv_move rfl) (by decide) ?_
    refine st_gon rfl rfl ?_
    refine st_v (rv_lenB Tryd.underlying9 rfl) (by decide) ?_
    refine st_gon rfl rfl ?_
    refine st_v (rv_gtrZ rfl rfl) (by decide) ?_
    first | refine st_v (rv_pick_true rfl rfl) (by decide) ?_ | refine st_v (rv_pick_false rfl rfl) (by decide) ?_ | refine st_v (rv_pick rfl rfl rfl) (by decide) ?_
    refine st_nil ?_
    exact st_meet_b (.cons rfl (.cons rfl (.cons rfl (.cons rfl (.cons rfl (.cons rfl (.nil _)))))))
  refine st_nil ?_
  refine st_then ?_
  refine st_cond rfl (fun hc38 => ?_) (fun hc38 => ?_)
  · -- t38 True
    try simp only [z1, z2, z3, z4, z5, z6, z7, z8, z9, z10, z11, z12, z13, z14] at hc38
    refine st_seq ?_
    refine st_region ?_
    refine st_v (rv_assign rfl) (by decide) ?_
    refine st_nil ?_
    refine st_then ?_
    refine st_ret ?_
    refine st_then_ret ?_
    exact st_done rfl rfl (fun w hM => ⟨by first | (simp; done) | rfl, hM.sublist (List.nil_sublist _)⟩)
  · -- t38 False
    try simp only [z1, z2, z3, z4, z5, z6, z7, z8, z9, z10, z11, z12, z13, z14] at hc38
    have hkl : key.length ≤ 700000 := by omega
    have hql : q.length ≤ 700000 := by omega
    refine st_skip ?_
    refine st_then ?_
    refine st_seq ?_
    refine st_region ?_
    refine st_v (rv_move rfl) (by decide) ?_
    refine st_v (rv_assign rfl) (by decide) ?_
    refine st_nil ?_
    refine st_then ?_
    refine st_seq ?_
    refine st_region ?_
    refine st_v (rv_move rfl) (by decide) ?_
    refine st_callV cal12 rfl (fun w hM => lent_calls _ (by omega) w) (by decide) (fun v1 => ?_)
    refine st_v (rv_assign rfl) (by decide) ?_
    refine st_nil ?_
    refine st_then ?_
    refine st_seq ?_
    refine st_region ?_
    refine st_v (rv_move rfl) (by decide) ?_
    refine st_callV cal12 rfl (fun w hM => lent_calls _ (by omega) w) (by decide) (fun v2 => ?_)
    refine st_v (rv_assign rfl) (by decide) ?_
    refine st_nil ?_
    refine st_then ?_
    refine st_seq ?_
    refine st_drawStart mixed ?_
    refine st_drawSeg1 (E0 := [(1, _), (2, _), (3, _), (4, _), (11, _), (12, _), (13, _)]) [kpeq _, kpeq _, kpeq _, kpeq _, kpeq _, kpeq _, kpeq _, kpeq _, kpeq _, kpeq _] 0 10 [0, 0, 0, 4, 14, 0, 0, 64, 224, 0, 1023, 2047, 4095, 4095, 8191, 32767] [1, 2, 3, 4, 11, 12, 13] (by kernel_rfl) (by decide) (by kernel_rfl) (.cons rfl (.cons rfl (.cons rfl (.cons rfl (.cons rfl (.cons rfl (.cons rfl (.nil _)))))))) rfl rfl (hall_cons (hop_mv rfl (by decide) rfl rfl) (hall_cons (hop_mv rfl (by decide) rfl rfl) (hall_cons (hop_mv rfl (by decide) rfl rfl) (hall_cons (hop_val [(2, 47, _)] [] rfl rfl rfl (by decide) rfl (jcons rfl rfl rfl rfl rfl (jnil)) (xnil) (fun _ _ _ _ => does_v (rv_lenB Tryd.underlying9 rfl))) (hall_cons (hop_val [(1, 46, _), (3, 48, _)] [] rfl rfl rfl (by decide) rfl (jcons rfl rfl rfl rfl rfl (jcons rfl rfl rfl rfl rfl (jnil))) (xnil) (fun _ _ _ _ => does_v (rv_sliceR (rd_rd (i := 1) rfl) Tryd.underlying22 sz5 rfl evB_none (evB_some rfl rfl) (by first | omega | (simp [length_lentL] <;> omega)) (by first | omega | (simp [length_lentL] <;> omega))))) (hall_cons (hop_mv rfl (by decide) rfl rfl) (hall_cons (hop_mv rfl (by decide) rfl rfl) (hall_cons (hop_val [(6, 51, _)] [] rfl rfl rfl (by decide) rfl (jcons rfl rfl rfl rfl rfl (jnil)) (xnil) (fun _ _ _ _ => does_v (rv_lenB Tryd.underlying9 rfl))) (hall_cons (hop_val [(5, 50, _), (7, 52, _)] [] rfl rfl rfl (by decide) rfl (jcons rfl rfl rfl rfl rfl (jcons rfl rfl rfl rfl rfl (jnil))) (xnil) (fun _ _ _ _ => does_v (rv_sliceR (rd_rd (i := 0) rfl) Tryd.underlying22 sz5 rfl evB_none (evB_some rfl rfl) (by first | omega | (simp [length_lentL] <;> omega)) (by first | omega | (simp [length_lentL] <;> omega))))) (hall_cons (hop_mv rfl (by decide) rfl rfl) (hall_nil))))))))))) (draw_end1 [(0, 45, _), (4, 49, _), (8, 53, _), (9, 54, _)] (jcons rfl rfl rfl rfl rfl (jcons rfl rfl rfl rfl rfl (jcons rfl rfl rfl rfl rfl (jcons rfl rfl rfl rfl rfl (jnil))))) ?_)
    refine st_drawOp [0, 0, 0, 4, 14, 0, 0, 64, 224, 0, 1023, 2047, 4095, 4095, 8191, 32767] (by kernel_rfl) rfl ?_
    refine st_call0 cal42 rfl (fun w hM => (Expand_long k hk _ _ key q _ hl hkl hql w (hL.at hM) (lentRd (((rd_rd (i := 1) rfl) w hM).part8 (by first | omega | (simp [length_lentL] <;> omega)) (by first | omega | (simp [length_lentL] <;> omega)))) (lentRd (((rd_rd (i := 0) rfl) w hM).part8 (by first | omega | (simp [length_lentL] <;> omega)) (by first | omega | (simp [length_lentL] <;> omega)))))) (by decide) ?_
    refine st_nil ?_
    refine st_then ?_
    refine st_drawOp [0, 0, 0, 4, 14, 0, 0, 64, 224, 0, 1023, 2047, 4095, 4095, 8191, 32767] (by kernel_rfl) rfl ?_
    refine st_v (rv_move rfl) (by decide) ?_
    refine st_nil ?_
    refine st_then ?_
    refine st_drawSeg1 (E0 := [(1, _), (2, _), (3, _), (4, _), (11, _), (12, _), (13, _), (44, _)]) [kany, kany, kany, kany, kany, kany, kany, kany, kany, kany, kany, kany, kpeq _, kpeq _, kpeq _] 12 15 [0, 0, 0, 4, 14, 0, 0, 64, 224, 0, 1023, 2047, 4095, 4095, 8191, 32767] [1, 2, 3, 4, 11, 12, 13, 44] (by kernel_rfl) (by decide) (by kernel_rfl) (.cons rfl (.cons rfl (.cons rfl (.cons rfl (.cons rfl (.cons rfl (.cons rfl (.cons rfl (.nil _))))))))) rfl rfl (hall_skip rfl (hall_skip rfl (hall_skip rfl (hall_skip rfl (hall_skip rfl (hall_skip rfl (hall_skip rfl (hall_skip rfl (hall_skip rfl (hall_skip rfl (hall_skip rfl (hall_skip rfl (hall_cons (hop_val [] [] rfl rfl rfl (by decide) rfl (jnil) (xnil) (fun _ _ _ _ => does_v (rv_extract rfl rfl))) (hall_cons (hop_val [] [] rfl rfl rfl (by decide) rfl (jnil) (xnil) (fun _ _ _ _ => does_v (rv_extract rfl rfl))) (hall_cons (hop_val [(12, 56, _)] [] rfl rfl rfl (by decide) rfl (jcons rfl rfl rfl rfl rfl (jnil)) (xnil) (fun _ _ _ _ => does_v (rv_assign rfl))) (hall_nil)))))))))))))))) (draw_end1 [(13, 57, _), (14, 14, _)] (jcons rfl rfl rfl rfl rfl (jcons rfl rfl rfl rfl rfl (jnil))) ?_)
    refine st_drawTail (N := 15) [0, 0, 0, 4, 14, 0, 0, 64, 224, 0, 1023, 2047, 4095, 4095, 8191, 32767] (by kernel_rfl) (by kernel_rfl) ?_
    refine st_v (rv_assign rfl) (by decide) ?_
    refine st_nil ?_
    refine st_then ?_
    refine st_seq ?_
    refine st_drawStart mixed ?_
    refine st_drawSeg1 (E0 := [(1, _), (2, _), (3, _), (4, _), (11, _), (12, _), (13, _), (14, _), (15, _)]) [kpeq _, kpeq _, kpeq _, kpeq _, kpeq _, kpeq _, kpeq _, kpeq _, kpeq _, kpeq _, kpeq _] 0 11 [0, 0, 0, 4, 14, 0, 0, 0, 128, 448, 0, 2047, 4095, 8191, 8191, 16383, 65535] [1, 2, 3, 4, 11, 12, 13, 14, 15] (by kernel_rfl) (by decide) (by kernel_rfl) (.cons rfl (.cons rfl (.cons rfl (.cons rfl (.cons rfl (.cons rfl (.cons rfl (.cons rfl (.cons rfl (.nil _)))))))))) rfl rfl (hall_cons (hop_mv rfl (by decide) rfl rfl) (hall_cons (hop_mv rfl (by decide) rfl rfl) (hall_cons (hop_mv rfl (by decide) rfl rfl) (hall_cons (hop_val [(2, 61, _)] [] rfl rfl rfl (by decide) rfl (jcons rfl rfl rfl rfl rfl (jnil)) (xnil) (fun _ _ _ _ => does_v (rv_lenB Tryd.underlying9 rfl))) (hall_cons (hop_val [(1, 60, _), (3, 62, _)] [] rfl rfl rfl (by decide) rfl (jcons rfl rfl rfl rfl rfl (jcons rfl rfl rfl rfl rfl (jnil))) (xnil) (fun _ _ _ _ => does_v (rv_sliceR (rd_rd (i := 1) rfl) Tryd.underlying22 sz5 rfl evB_none (evB_some rfl rfl) (by first | omega | (simp [length_lentL] <;> omega)) (by first | omega | (simp [length_lentL] <;> omega))))) (hall_cons (hop_mv rfl (by decide) rfl rfl) (hall_cons (hop_mv rfl (by decide) rfl rfl) (hall_cons (hop_mv rfl (by decide) rfl rfl) (hall_cons (hop_val [(7, 66, _)] [] rfl rfl rfl (by decide) rfl (jcons rfl rfl rfl rfl rfl (jnil)) (xnil) (fun _ _ _ _ => does_v (rv_lenB Tryd.underlying9 rfl))) (hall_cons (hop_val [(6, 65, _), (8, 67, _)] [] rfl rfl rfl (by decide) rfl (jcons rfl rfl rfl rfl rfl (jcons rfl rfl rfl rfl rfl (jnil))) (xnil) (fun _ _ _ _ => does_v (rv_sliceR (rd_rd (i := 0) rfl) Tryd.underlying22 sz5 rfl evB_none (evB_some rfl rfl) (by first | omega | (simp [length_lentL] <;> omega)) (by first | omega | (simp [length_lentL] <;> omega))))) (hall_cons (hop_mv rfl (by decide) rfl rfl) (hall_nil)))))))))))) (draw_end1 [(0, 59, _), (4, 63, _), (5, 64, _), (9, 68, _), (10, 69, _)] (jcons rfl rfl rfl rfl rfl (jcons rfl rfl rfl rfl rfl (jcons rfl rfl rfl rfl rfl (jcons rfl rfl rfl rfl rfl (jcons rfl rfl rfl rfl rfl (jnil)))))) ?_)
    refine st_drawOp [0, 0, 0, 4, 14, 0, 0, 0, 128, 448, 0, 2047, 4095, 8191, 8191, 16383, 65535] (by kernel_rfl) rfl ?_
    refine st_call0 cal43 rfl (fun w hM => (ELabel_long1 k hk _ _ key label q _ he hkl hql w (hL.at hM) (lentRd (((rd_rd (i := 1) rfl) w hM).part8 (by first | omega | (simp [length_lentL] <;> omega)) (by first | omega | (simp [length_lentL] <;> omega)))) (lentRd (((rd_rd (i := 0) rfl) w hM).part8 (by first | omega | (simp [length_lentL] <;> omega)) (by first | omega | (simp [length_lentL] <;> omega)))))) (by decide) ?_
    refine st_nil ?_
    refine st_then ?_
    refine st_drawOp [0, 0, 0, 4, 14, 0, 0, 0, 128, 448, 0, 2047, 4095, 8191, 8191, 16383, 65535] (by kernel_rfl) rfl ?_
    refine st_v (rv_move rfl) (by decide) ?_
    refine st_nil ?_
    refine st_then ?_
    refine st_drawSeg1 (E0 := [(1, _), (2, _), (3, _), (4, _), (11, _), (12, _), (13, _), (14, _), (15, _), (58, _)]) [kany, kany, kany, kany, kany, kany, kany, kany, kany, kany, kany, kany, kany, kpeq _, kpeq _, kpeq _] 13 16 [0, 0, 0, 4, 14, 0, 0, 0, 128, 448, 0, 2047, 4095, 8191, 8191, 16383, 65535] [1, 2, 3, 4, 11, 12, 13, 14, 15, 58] (by kernel_rfl) (by decide) (by kernel_rfl) (.cons rfl (.cons rfl (.cons rfl (.cons rfl (.cons rfl (.cons rfl (.cons rfl (.cons rfl (.cons rfl (.cons rfl (.nil _))))))))))) rfl rfl (hall_skip rfl (hall_skip rfl (hall_skip rfl (hall_skip rfl (hall_skip rfl (hall_skip rfl (hall_skip rfl (hall_skip rfl (hall_skip rfl (hall_skip rfl (hall_skip rfl (hall_skip rfl (hall_skip rfl (hall_cons (hop_val [] [] rfl rfl rfl (by decide) rfl (jnil) (xnil) (fun _ _ _ _ => does_v (rv_extract rfl rfl))) (hall_cons (hop_val [] [] rfl rfl rfl (by decide) rfl (jnil) (xnil) (fun _ _ _ _ => does_v (rv_extract rfl rfl))) (hall_cons (hop_val [(13, 71, _)] [] rfl rfl rfl (by decide) rfl (jcons rfl rfl rfl rfl rfl (jnil)) (xnil) (fun _ _ _ _ => does_v (rv_assign rfl))) (hall_nil))))))))))))))))) (draw_end1 [(14, 72, _), (15, 16, _)] (jcons rfl rfl rfl rfl rfl (jcons rfl rfl rfl rfl rfl (jnil))) ?_)
    refine st_drawTail (N := 16) [0, 0, 0, 4, 14, 0, 0, 0, 128, 448, 0, 2047, 4095, 8191, 8191, 16383, 65535] (by kernel_rfl) (by kernel_rfl) ?_
    refine st_v (rv_assign rfl) (by decide) ?_
    refine st_nil ?_
    refine st_then ?_
    refine st_seq ?_
    refine st_region ?_
    refine st_v (rv_move rfl) (by decide) ?_
    refine st_v (rv_move rfl) (by decide) ?_
    refine st_call0 cal14 rfl (fun w hM => (still_calls _ key (by omega) w ((rd_rd (i := 1) rfl) w hM))) (by decide) ?_
    refine st_v (rv_assign rfl) (by decide) ?_
    refine st_nil ?_
    refine st_then ?_
    refine st_seq ?_
    refine st_region ?_
    refine st_v (rv_move rfl) (by decide) ?_
    refine st_v (rv_move rfl) (by decide) ?_
    refine st_call0 cal14 rfl (fun w hM => (still_calls _ q (by omega) w ((rd_rd (i := 0) rfl) w hM))) (by decide) ?_
    refine st_v (rv_assign rfl) (by decide) ?_
    refine st_nil ?_
    refine st_then ?_
    refine st_seq ?_
    refine st_seq ?_
    refine st_region ?_
    refine st_v (rv_move rfl) (by decide) ?_
    refine st_v (rv_not rfl) (by decide) ?_
    refine st_v (rv_move rfl) (by decide) ?_
    refine' st_or 3 (L := _) (s := 81) (d := 84) [1, 2, 3, 4, 11, 14, 15, 16, 17] rfl (fun hg3 => ?_) (fun _ => ?_) ?_; rotate_left
    · -- true
      refine st_gskip rfl rfl rfl (by decide) ?_
      refine st_gskip rfl rfl rfl (by decide) ?_
      first | refine st_v (rv_pick_true rfl rfl) (by decide) ?_ | refine st_v (rv_pick_false rfl rfl) (by decide) ?_ | refine st_v (rv_pick rfl rfl rfl) (by decide) ?_
      refine st_nil ?_
      exact st_meet_b (.cons rfl (.cons rfl (.cons rfl (.cons rfl (.cons rfl (.cons rfl (.cons rfl (.cons rfl (.cons rfl (.cons rfl (.nil _)))))))))))
    · -- false
      refine st_gon rfl rfl ?_
      refine st_v (rv_move rfl) (by decide) ?_
      refine st_gon rfl rfl ?_
      refine st_v (rv_not rfl) (by decide) ?_
      first | refine st_v (rv_pick_true rfl rfl) (by decide) ?_ | refine st_v (rv_pick_false rfl rfl) (by decide) ?_ | refine st_v (rv_pick rfl rfl rfl) (by decide) ?_
      refine st_nil ?_
      exact st_meet_b (.cons rfl (.cons rfl (.cons rfl (.cons rfl (.cons rfl (.cons rfl (.cons rfl (.cons rfl (.cons rfl (.cons rfl (.nil _)))))))))))
    refine st_nil ?_
    refine st_then ?_
    refine st_false rfl ?_
    refine st_skip ?_
    refine st_then ?_
    refine st_seq ?_
    refine st_region ?_
    refine st_v (rv_move rfl) (by decide) ?_
    refine st_call0 cal28 rfl (fun w hM => (rKnown_ok hk w)) (by decide) ?_
    refine st_v (rv_assign rfl) (by decide) ?_
    refine st_nil ?_
    refine st_then ?_
    refine st_seq ?_
    refine st_seq ?_
    refine st_region ?_
    refine st_v (rv_move rfl) (by decide) ?_
    refine st_v (rv_not rfl) (by decide) ?_
    refine st_nil ?_
    refine st_then ?_
    refine st_false rfl ?_
    refine st_skip ?_
    refine st_then ?_
    refine st_seq ?_
    refine st_region ?_
    refine st_v (rv_move rfl) (by decide) ?_
    refine st_call1 (ρ := Nat × Value × Value) (fun r => pt r.1 0) (fun _ => True) (fun r => [hrA k r.1 r.2.1 r.2.2]) cal40 rfl (fun w hM => ((Make_calls k hk w)).mono fun e w' ⟨r, h1, h2⟩ => ⟨r, h1, trivial, h2⟩) (by decide) (fun r3 _ => ?_)
    refine st_v (rv_assign rfl) (by decide) ?_
    refine st_nil ?_
    refine st_then ?_
    refine st_seq ?_
    refine st_region ?_
    refine st_v (rv_move rfl) (by decide) ?_
    refine st_v (rv_move rfl) (by decide) ?_
    refine st_call0 cal44 rfl (fun w hM => (by have := rLong_calls k hk n w; rwa [hl] at this)) (by decide) ?_
    refine st_v (rv_assign rfl) (by decide) ?_
    refine st_nil ?_
    refine st_then ?_
    refine st_seq ?_
    refine st_region ?_
    refine st_v (rv_move rfl) (by decide) ?_
    refine st_v (rv_move rfl) (by decide) ?_
    refine st_v (rv_move rfl) (by decide) ?_
    refine st_v (rv_move rfl) (by decide) ?_
    refine st_call0 cal45 rfl (fun w hM => (by have := rLongLabel_calls k hk label q n w; rwa [hl, he] at this)) (by decide) ?_
    refine st_v (rv_assign rfl) (by decide) ?_
    refine st_nil ?_
    refine st_then ?_
    refine st_seq ?_
    refine st_seq ?_
    refine st_region ?_
    refine st_v (rv_move rfl) (by decide) ?_
    refine st_v (rv_move rfl) (by decide) ?_
    refine st_gon rfl rfl ?_
    refine st_v (rv_move rfl) (by decide) ?_
    refine st_gon rfl rfl ?_
    refine st_v (rv_lenS Tryd.underlying22 rfl) (by decide) ?_
    refine st_gon rfl rfl ?_
    refine st_v (rv_neqZ rfl rfl) (by decide) ?_
    refine st_gon rfl rfl ?_
    refine st_v (rv_move rfl) (by decide) ?_
    refine st_gon rfl rfl ?_
    refine st_v (rv_move rfl) (by decide) ?_
    refine st_gon rfl rfl ?_
    refine st_v (rv_neqZ rfl rfl) (by decide) ?_
    refine st_gon rfl rfl ?_
    first | refine st_v (rv_pick_true rfl rfl) (by decide) ?_ | refine st_v (rv_pick_false rfl rfl) (by decide) ?_ | refine st_v (rv_pick rfl rfl rfl) (by decide) ?_
    first | refine st_v (rv_pick_true rfl rfl) (by decide) ?_ | refine st_v (rv_pick_false rfl rfl) (by decide) ?_ | refine st_v (rv_pick rfl rfl rfl) (by decide) ?_
    refine st_nil ?_
    refine st_then ?_
    refine st_false rfl ?_
    refine st_skip ?_
    refine st_then ?_
    refine st_seq ?_
    refine st_seq ?_
    refine st_region ?_
    refine st_v (rv_move rfl) (by decide) ?_
    refine st_v (rv_move rfl) (by decide) ?_
    refine st_gon rfl rfl ?_
    refine st_v (rv_move rfl) (by decide) ?_
    refine st_gon rfl rfl ?_
    refine st_v (rv_lenS Tryd.underlying22 rfl) (by decide) ?_
    refine st_gon rfl rfl ?_
    refine st_v (rv_neqZ rfl rfl) (by decide) ?_
    refine st_gon rfl rfl ?_
    refine st_v (rv_move rfl) (by decide) ?_
    refine st_gon rfl rfl ?_
    refine st_v (rv_move rfl) (by decide) ?_
    refine st_gon rfl rfl ?_
    refine st_v (rv_neqZ rfl rfl) (by decide) ?_
    refine st_gon rfl rfl ?_
    first | refine st_v (rv_pick_true rfl rfl) (by decide) ?_ | refine st_v (rv_pick_false rfl rfl) (by decide) ?_ | refine st_v (rv_pick rfl rfl rfl) (by decide) ?_
    first | refine st_v (rv_pick_true rfl rfl) (by decide) ?_ | refine st_v (rv_pick_false rfl rfl) (by decide) ?_ | refine st_v (rv_pick rfl rfl rfl) (by decide) ?_
    refine st_nil ?_
    refine st_then ?_
    refine st_false rfl ?_
    refine st_skip ?_
    refine st_then ?_
    refine st_seq ?_
    refine st_seq ?_
    refine st_region ?_
    refine st_v (rv_move rfl) (by decide) ?_
    refine st_v (rv_not rfl) (by decide) ?_
    refine st_nil ?_
    refine st_then ?_
    refine st_false rfl ?_
    refine st_skip ?_
    refine st_then ?_
    refine st_seq ?_
    refine st_seq ?_
    refine st_region ?_
    refine st_v (rv_move rfl) (by decide) ?_
    refine st_v (rv_not rfl) (by decide) ?_
    refine st_nil ?_
    refine st_then ?_
    refine st_false rfl ?_
    refine st_skip ?_
    refine st_then ?_
    refine st_seq ?_
    refine st_region ?_
    refine st_v (rv_assign rfl) (by decide) ?_
    refine st_nil ?_
    refine st_then ?_
    refine st_ret ?_
    exact st_done rfl rfl (fun w hM => ⟨by first | (simp; done) | rfl, hM.sublist (List.nil_sublist _)⟩)
set_option maxRecDepth 20000 in
set_option maxHeartbeats 1000000 in
theorem hashExpands2 (k : Nat) (hk : k ≤ 2) (key label q : List (BitVec 8)) (N : Nat) (hl : longZ k N = true) (he : elongZ (N : Int) label q = false) (w : World) (hL : LaidH w) : Calls Tryd.prog 10 #[vI (k : Nat), vS key, vS label, vS q, vI (N : Nat)] w (fun e w' => e = .returned (.bool true) ∧ Mem (All w) w w' []) := by
  refine calls_of_st (n := 166) (args := [vI (k : Nat), vS key, vS label, vS q, vI (N : Nat)]) Tryd.func10 rfl Tryd.ntmps10 (Nat.le_of_ble_eq_true rfl) (Mem.all w) ?_
  refine st_seq ?_
  refine st_region ?_
  refine st_v (rv_assign rfl) (by decide) ?_
  refine st_nil ?_
  refine st_then ?_
  refine st_seq ?_
  refine st_seq ?_
  refine st_region ?_
  refine st_v (rv_move rfl) (by decide) ?_
  refine st_v (rv_lenB Tryd.underlying9 rfl) (by decide) ?_
  refine st_v (rv_gtrZ rfl rfl) (by decide) ?_
  refine st_v (rv_move rfl) (by decide) ?_
  refine' st_or 4 (L := _) (s := 29) (d := 33) [0, 1, 2, 3, 4] rfl (fun hg4 => ?_) (fun _ => ?_) ?_; rotate_left
  · -- true
    refine st_gskip rfl rfl rfl (by decide) ?_
    refine st_gskip rfl rfl rfl (by decide) ?_
    refine st_gskip rfl rfl rfl (by decide) ?_
    first | refine st_v (rv_pick_true rfl rfl) (by decide) ?_ | refine st_v (rv_pick_false rfl rfl) (by decide) ?_ | refine st_v (rv_pick rfl rfl rfl) (by decide) ?_
    refine st_nil ?_
    exact st_meet_b (.cons rfl (.cons rfl (.cons rfl (.cons rfl (.cons rfl (.cons rfl (.nil _)))))))
  · -- false
    refine st_gon rfl rfl ?_
    refine st_v (rv_move rfl) (by decide) ?_
    refine st_gon rfl rfl ?_
    refine st_v (rv_lenB Tryd.underlying9 rfl) (by decide) ?_
    refine st_gon rfl rfl ?_
    refine st_v (rv_gtrZ rfl rfl) (by decide) ?_
    first | refine st_v (rv_pick_true rfl rfl) (by decide) ?_ | refine st_v (rv_pick_false rfl rfl) (by decide) ?_ | refine st_v (rv_pick rfl rfl rfl) (by decide) ?_
    refine st_nil ?_
    exact st_meet_b (.cons rfl (.cons rfl (.cons rfl (.cons rfl (.cons rfl (.cons rfl (.nil _)))))))
  refine st_v (rv_move rfl) (by decide) ?_
  refine' st_or 4 (L := _) (s := 34) (d := 38) [0, 1, 2, 3, 4] rfl (fun hg9 => ?_) (fun _ => ?_) ?_; rotate_left
  · -- true
    refine st_gskip rfl rfl rfl (by decide) ?_
    refine st_gskip rfl rfl rfl (by decide) ?_
    refine st_gskip rfl rfl rfl (by decide) ?_
    first | refine st_v (rv_pick_true rfl rfl) (by decide) ?_ | refine st_v (rv_pick_false rfl rfl) (by decide) ?_ | refine st_v (rv_pick rfl rfl rfl) (by decide) ?_
    refine st_nil ?_
    exact st_meet_b (.cons rfl (.cons rfl (.cons rfl (.cons rfl (.cons rfl (.cons rfl (.nil _)))))))
  · -- false
    refine st_gon rfl rfl ?_
    refine st_v (rv_move rfl) (by decide) ?_
    refine st_gon rfl rfl ?_
    refine st_v (rv_lenB Tryd.underlying9 rfl) (by decide) ?_
    refine st_gon rfl rfl ?_
    refine st_v (rv_gtrZ rfl rfl) (by decide) ?_
    first | refine st_v (rv_pick_true rfl rfl) (by decide) ?_ | refine st_v (rv_pick_false rfl rfl) (by decide) ?_ | refine st_v (rv_pick rfl rfl rfl) (by decide) ?_
    refine st_nil ?_
    exact st_meet_b (.cons rfl (.cons rfl (.cons rfl (.cons rfl (.cons rfl (.cons rfl (.nil _)))))))
  refine st_nil ?_
  refine st_then ?_
  refine st_cond rfl (fun hc38 => ?_) (fun hc38 => ?_)
  · -- t38 True
    try simp only [z1, z2, z3, z4, z5, z6, z7, z8, z9, z10, z11, z12, z13, z14] at hc38
    refine st_seq ?_
    refine st_region ?_
    refine st_v (rv_assign rfl) (by decide) ?_
    refine st_nil ?_
    refine st_then ?_
    refine st_ret ?_
    refine st_then_ret ?_
    exact st_done rfl rfl (fun w hM => ⟨by first | (simp; done) | rfl, hM.sublist (List.nil_sublist _)⟩)
  · -- t38 False
    try simp only [z1, z2, z3, z4, z5, z6, z7, z8, z9, z10, z11, z12, z13, z14] at hc38
    have hkl : key.length ≤ 700000 := by omega
    have hql : q.length ≤ 700000 := by omega
    refine st_skip ?_
    refine st_then ?_
    refine st_seq ?_
    refine st_region ?_
    refine st_v (rv_move rfl) (by decide) ?_
    refine st_v (rv_assign rfl) (by decide) ?_
    refine st_nil ?_
    refine st_then ?_
    refine st_seq ?_
    refine st_region ?_
    refine st_v (rv_move rfl) (by decide) ?_
    refine st_callV cal12 rfl (fun w hM => lent_calls _ (by omega) w) (by decide) (fun v1 => ?_)
    refine st_v (rv_assign rfl) (by decide) ?_
    refine st_nil ?_
    refine st_then ?_
    refine st_seq ?_
    refine st_region ?_
    refine st_v (rv_move rfl) (by decide) ?_
    refine st_callV cal12 rfl (fun w hM => lent_calls _ (by omega) w) (by decide) (fun v2 => ?_)
    refine st_v (rv_assign rfl) (by decide) ?_
    refine st_nil ?_
    refine st_then ?_
    refine st_seq ?_
    refine st_drawStart mixed ?_
    refine st_drawSeg1 (E0 := [(1, _), (2, _), (3, _), (4, _), (11, _), (12, _), (13, _)]) [kpeq _, kpeq _, kpeq _, kpeq _, kpeq _, kpeq _, kpeq _, kpeq _, kpeq _, kpeq _] 0 10 [0, 0, 0, 4, 14, 0, 0, 64, 224, 0, 1023, 2047, 4095, 4095, 8191, 32767] [1, 2, 3, 4, 11, 12, 13] (by kernel_rfl) (by decide) (by kernel_rfl) (.cons rfl (.cons rfl (.cons rfl (.cons rfl (.cons rfl (.cons rfl (.cons rfl (.nil _)))))))) rfl rfl (hall_cons (hop_mv rfl (by decide) rfl rfl) (hall_cons (hop_mv rfl (by decide) rfl rfl) (hall_cons (hop_mv rfl (by decide) rfl rfl) (hall_cons (hop_val [(2, 47, _)] [] rfl rfl rfl (by decide) rfl (jcons rfl rfl rfl rfl rfl (jnil)) (xnil) (fun _ _ _ _ => does_v (rv_lenB Tryd.underlying9 rfl))) (hall_cons (hop_val [(1, 46, _), (3, 48, _)] [] rfl rfl rfl (by decide) rfl (jcons rfl rfl rfl rfl rfl (jcons rfl rfl rfl rfl rfl (jnil))) (xnil) (fun _ _ _ _ => does_v (rv_sliceR (rd_rd (i := 1) rfl) Tryd.underlying22 sz5 rfl evB_none (evB_some rfl rfl) (by first | omega | (simp [length_lentL] <;> omega)) (by first | omega | (simp [length_lentL] <;> omega))))) (hall_cons (hop_mv rfl (by decide) rfl rfl) (hall_cons (hop_mv rfl (by decide) rfl rfl) (hall_cons (hop_val [(6, 51, _)] [] rfl rfl rfl (by decide) rfl (jcons rfl rfl rfl rfl rfl (jnil)) (xnil) (fun _ _ _ _ => does_v (rv_lenB Tryd.underlying9 rfl))) (hall_cons (hop_val [(5, 50, _), (7, 52, _)] [] rfl rfl rfl (by decide) rfl (jcons rfl rfl rfl rfl rfl (jcons rfl rfl rfl rfl rfl (jnil))) (xnil) (fun _ _ _ _ => does_v (rv_sliceR (rd_rd (i := 0) rfl) Tryd.underlying22 sz5 rfl evB_none (evB_some rfl rfl) (by first | omega | (simp [length_lentL] <;> omega)) (by first | omega | (simp [length_lentL] <;> omega))))) (hall_cons (hop_mv rfl (by decide) rfl rfl) (hall_nil))))))))))) (draw_end1 [(0, 45, _), (4, 49, _), (8, 53, _), (9, 54, _)] (jcons rfl rfl rfl rfl rfl (jcons rfl rfl rfl rfl rfl (jcons rfl rfl rfl rfl rfl (jcons rfl rfl rfl rfl rfl (jnil))))) ?_)
    refine st_drawOp [0, 0, 0, 4, 14, 0, 0, 64, 224, 0, 1023, 2047, 4095, 4095, 8191, 32767] (by kernel_rfl) rfl ?_
    refine st_call0 cal42 rfl (fun w hM => (Expand_long k hk _ _ key q _ hl hkl hql w (hL.at hM) (lentRd (((rd_rd (i := 1) rfl) w hM).part8 (by first | omega | (simp [length_lentL] <;> omega)) (by first | omega | (simp [length_lentL] <;> omega)))) (lentRd (((rd_rd (i := 0) rfl) w hM).part8 (by first | omega | (simp [length_lentL] <;> omega)) (by first | omega | (simp [length_lentL] <;> omega)))))) (by decide) ?_
    refine st_nil ?_
    refine st_then ?_
    refine st_drawOp [0, 0, 0, 4, 14, 0, 0, 64, 224, 0, 1023, 2047, 4095, 4095, 8191, 32767] (by kernel_rfl) rfl ?_
    refine st_v (rv_move rfl) (by decide) ?_
    refine st_nil ?_
    refine st_then ?_
    refine st_drawSeg1 (E0 := [(1, _), (2, _), (3, _), (4, _), (11, _), (12, _), (13, _), (44, _)]) [kany, kany, kany, kany, kany, kany, kany, kany, kany, kany, kany, kany, kpeq _, kpeq _, kpeq _] 12 15 [0, 0, 0, 4, 14, 0, 0, 64, 224, 0, 1023, 2047, 4095, 4095, 8191, 32767] [1, 2, 3, 4, 11, 12, 13, 44] (by kernel_rfl) (by decide) (by kernel_rfl) (.cons rfl (.cons rfl (.cons rfl (.cons rfl (.cons rfl (.cons rfl (.cons rfl (.cons rfl (.nil _))))))))) rfl rfl (hall_skip rfl (hall_skip rfl (hall_skip rfl (hall_skip rfl (hall_skip rfl (hall_skip rfl (hall_skip rfl (hall_skip rfl (hall_skip rfl (hall_skip rfl (hall_skip rfl (hall_skip rfl (hall_cons (hop_val [] [] rfl rfl rfl (by decide) rfl (jnil) (xnil) (fun _ _ _ _ => does_v (rv_extract rfl rfl))) (hall_cons (hop_val [] [] rfl rfl rfl (by decide) rfl (jnil) (xnil) (fun _ _ _ _ => does_v (rv_extract rfl rfl))) (hall_cons (hop_val [(12, 56, _)] [] rfl rfl rfl (by decide) rfl (jcons rfl rfl rfl rfl rfl (jnil)) (xnil) (fun _ _ _ _ => does_v (rv_assign rfl))) (hall_nil)))))))))))))))) (draw_end1 [(13, 57, _), (14, 14, _)] (jcons rfl rfl rfl rfl rfl (jcons rfl rfl rfl rfl rfl (jnil))) ?_)
    refine st_drawTail (N := 15) [0, 0, 0, 4, 14, 0, 0, 64, 224, 0, 1023, 2047, 4095, 4095, 8191, 32767] (by kernel_rfl) (by kernel_rfl) ?_
    refine st_v (rv_assign rfl) (by decide) ?_
    refine st_nil ?_
    refine st_then ?_
    refine st_seq ?_
    refine st_drawStart mixed ?_
    refine st_drawSeg1 (E0 := [(1, _), (2, _), (3, _), (4, _), (11, _), (12, _), (13, _), (14, _), (15, _)]) [kpeq _, kpeq _, kpeq _, kpeq _, kpeq _, kpeq _, kpeq _, kpeq _, kpeq _, kpeq _, kpeq _] 0 11 [0, 0, 0, 4, 14, 0, 0, 0, 128, 448, 0, 2047, 4095, 8191, 8191, 16383, 65535] [1, 2, 3, 4, 11, 12, 13, 14, 15] (by kernel_rfl) (by decide) (by kernel_rfl) (.cons rfl (.cons rfl (.cons rfl (.cons rfl (.cons rfl (.cons rfl (.cons rfl (.cons rfl (.cons rfl (.nil _)))))))))) rfl rfl (hall_cons (hop_mv rfl (by decide) rfl rfl) (hall_cons (hop_mv rfl (by decide) rfl rfl) (hall_cons (hop_mv rfl (by decide) rfl rfl) (hall_cons (hop_val [(2, 61, _)] [] rfl rfl rfl (by decide) rfl (jcons rfl rfl rfl rfl rfl (jnil)) (xnil) (fun _ _ _ _ => does_v (rv_lenB Tryd.underlying9 rfl))) (hall_cons (hop_val [(1, 60, _), (3, 62, _)] [] rfl rfl rfl (by decide) rfl (jcons rfl rfl rfl rfl rfl (jcons rfl rfl rfl rfl rfl (jnil))) (xnil) (fun _ _ _ _ => does_v (rv_sliceR (rd_rd (i := 1) rfl) Tryd.underlying22 sz5 rfl evB_none (evB_some rfl rfl) (by first | omega | (simp [length_lentL] <;> omega)) (by first | omega | (simp [length_lentL] <;> omega))))) (hall_cons (hop_mv rfl (by decide) rfl rfl) (hall_cons (hop_mv rfl (by decide) rfl rfl) (hall_cons (hop_mv rfl (by decide) rfl rfl) (hall_cons (hop_val [(7, 66, _)] [] rfl rfl rfl (by decide) rfl (jcons rfl rfl rfl rfl rfl (jnil)) (xnil) (fun _ _ _ _ => does_v (rv_lenB Tryd.underlying9 rfl))) (hall_cons (hop_val [(6, 65, _), (8, 67, _)] [] rfl rfl rfl (by decide) rfl (jcons rfl rfl rfl rfl rfl (jcons rfl rfl rfl rfl rfl (jnil))) (xnil) (fun _ _ _ _ => does_v (rv_sliceR (rd_rd (i := 0) rfl) Tryd.underlying22 sz5 rfl evB_none (evB_some rfl rfl) (by first | omega | (simp [length_lentL] <;> omega)) (by first | omega | (simp [length_lentL] <;> omega))))) (hall_cons (hop_mv rfl (by decide) rfl rfl) (hall_nil)))))))))))) (draw_end1 [(0, 59, _), (4, 63, _), (5, 64, _), (9, 68, _), (10, 69, _)] (jcons rfl rfl rfl rfl rfl (jcons rfl rfl rfl rfl rfl (jcons rfl rfl rfl rfl rfl (jcons rfl rfl rfl rfl rfl (jcons rfl rfl rfl rfl rfl (jnil)))))) ?_)
    refine st_drawOp [0, 0, 0, 4, 14, 0, 0, 0, 128, 448, 0, 2047, 4095, 8191, 8191, 16383, 65535] (by kernel_rfl) rfl ?_
    refine st_call0 cal43 rfl (fun w hM => (ELabel_long2 k hk _ _ key label q N he hl hkl hql w (hL.at hM) (lentRd (((rd_rd (i := 1) rfl) w hM).part8 (by first | omega | (simp [length_lentL] <;> omega)) (by first | omega | (simp [length_lentL] <;> omega)))) (lentRd (((rd_rd (i := 0) rfl) w hM).part8 (by first | omega | (simp [length_lentL] <;> omega)) (by first | omega | (simp [length_lentL] <;> omega)))))) (by decide) ?_
    refine st_nil ?_
    refine st_then ?_
    refine st_drawOp [0, 0, 0, 4, 14, 0, 0, 0, 128, 448, 0, 2047, 4095, 8191, 8191, 16383, 65535] (by kernel_rfl) rfl ?_
    refine st_v (rv_move rfl) (by decide) ?_
    refine st_nil ?_
    refine st_then ?_
    refine st_drawSeg1 (E0 := [(1, _), (2, _), (3, _), (4, _), (11, _), (12, _), (13, _), (14, _), (15, _), (58, _)]) [kany, kany, kany, kany, kany, kany, kany, kany, kany, kany, kany, kany, kany, kpeq _, kpeq _, kpeq _] 13 16 [0, 0, 0, 4, 14, 0, 0, 0, 128, 448, 0, 2047, 4095, 8191, 8191, 16383, 65535] [1, 2, 3, 4, 11, 12, 13, 14, 15, 58] (by kernel_rfl) (by decide) (by kernel_rfl) (.cons rfl (.cons rfl (.cons rfl (.cons rfl (.cons rfl (.cons rfl (.cons rfl (.cons rfl (.cons rfl (.cons rfl (.nil _))))))))))) rfl rfl (hall_skip rfl (hall_skip rfl (hall_skip rfl (hall_skip rfl (hall_skip rfl (hall_skip rfl (hall_skip rfl (hall_skip rfl (hall_skip rfl (hall_skip rfl (hall_skip rfl (hall_skip rfl (hall_skip rfl (hall_cons (hop_val [] [] rfl rfl rfl (by decide) rfl (jnil) (xnil) (fun _ _ _ _ => does_v (rv_extract rfl rfl))) (hall_cons (hop_val [] [] rfl rfl rfl (by decide) rfl (jnil) (xnil) (fun _ _ _ _ => does_v (rv_extract rfl rfl))) (hall_cons (hop_val [(13, 71, _)] [] rfl rfl rfl (by decide) rfl (jcons rfl rfl rfl rfl rfl (jnil)) (xnil) (fun _ _ _ _ => does_v (rv_assign rfl))) (hall_nil))))))))))))))))) (draw_end1 [(14, 72, _), (15, 16, _)] (jcons rfl rfl rfl rfl rfl (jcons rfl rfl rfl rfl rfl (jnil))) ?_)
    refine st_drawTail (N := 16) [0, 0, 0, 4, 14, 0, 0, 0, 128, 448, 0, 2047, 4095, 8191, 8191, 16383, 65535] (by kernel_rfl) (by kernel_rfl) ?_
    refine st_v (rv_assign rfl) (by decide) ?_
    refine st_nil ?_
    refine st_then ?_
    refine st_seq ?_
    refine st_region ?_
    refine st_v (rv_move rfl) (by decide) ?_
    refine st_v (rv_move rfl) (by decide) ?_
    refine st_call0 cal14 rfl (fun w hM => (still_calls _ key (by omega) w ((rd_rd (i := 1) rfl) w hM))) (by decide) ?_
    refine st_v (rv_assign rfl) (by decide) ?_
    refine st_nil ?_
    refine st_then ?_
    refine st_seq ?_
    refine st_region ?_
    refine st_v (rv_move rfl) (by decide) ?_
    refine st_v (rv_move rfl) (by decide) ?_
    refine st_call0 cal14 rfl (fun w hM => (still_calls _ q (by omega) w ((rd_rd (i := 0) rfl) w hM))) (by decide) ?_
    refine st_v (rv_assign rfl) (by decide) ?_
    refine st_nil ?_
    refine st_then ?_
    refine st_seq ?_
    refine st_seq ?_
    refine st_region ?_
    refine st_v (rv_move rfl) (by decide) ?_
    refine st_v (rv_not rfl) (by decide) ?_
    refine st_v (rv_move rfl) (by decide) ?_
    refine' st_or 3 (L := _) (s := 81) (d := 84) [1, 2, 3, 4, 11, 14, 15, 16, 17] rfl (fun hg3 => ?_) (fun _ => ?_) ?_; rotate_left
    · -- true
      refine st_gskip rfl rfl rfl (by decide) ?_
      refine st_gskip rfl rfl rfl (by decide) ?_
      first | refine st_v (rv_pick_true rfl rfl) (by decide) ?_ | refine st_v (rv_pick_false rfl rfl) (by decide) ?_ | refine st_v (rv_pick rfl rfl rfl) (by decide) ?_
      refine st_nil ?_
      exact st_meet_b (.cons rfl (.cons rfl (.cons rfl (.cons rfl (.cons rfl (.cons rfl (.cons rfl (.cons rfl (.cons rfl (.cons rfl (.nil _)))))))))))
    · -- false
      refine st_gon rfl rfl ?_
      refine st_v (rv_move rfl) (by decide) ?_
      refine st_gon rfl rfl ?_
      refine st_v (rv_not rfl) (by decide) ?_
      first | refine st_v (rv_pick_true rfl rfl) (by decide) ?_ | refine st_v (rv_pick_false rfl rfl) (by decide) ?_ | refine st_v (rv_pick rfl rfl rfl) (by decide) ?_
      refine st_nil ?_
      exact st_meet_b (.cons rfl (.cons rfl (.cons rfl (.cons rfl (.cons rfl (.cons rfl (.cons rfl (.cons rfl (.cons rfl (.cons rfl (.nil _)))))))))))
    refine st_nil ?_
    refine st_then ?_
    refine st_false rfl ?_
    refine st_skip ?_
    refine st_then ?_
    refine st_seq ?_
    refine st_region ?_
    refine st_v (rv_move rfl) (by decide) ?_
    refine st_call0 cal28 rfl (fun w hM => (rKnown_ok hk w)) (by decide) ?_
    refine st_v (rv_assign rfl) (by decide) ?_
    refine st_nil ?_
    refine st_then ?_
    refine st_seq ?_
    refine st_seq ?_
    refine st_region ?_
    refine st_v (rv_move rfl) (by decide) ?_
    refine st_v (rv_not rfl) (by decide) ?_
    refine st_nil ?_
    refine st_then ?_
    refine st_false rfl ?_
    refine st_skip ?_
    refine st_then ?_
    refine st_seq ?_
    refine st_region ?_
    refine st_v (rv_move rfl) (by decide) ?_
    refine st_call1 (ρ := Nat × Value × Value) (fun r => pt r.1 0) (fun _ => True) (fun r => [hrA k r.1 r.2.1 r.2.2]) cal40 rfl (fun w hM => ((Make_calls k hk w)).mono fun e w' ⟨r, h1, h2⟩ => ⟨r, h1, trivial, h2⟩) (by decide) (fun r3 _ => ?_)
    refine st_v (rv_assign rfl) (by decide) ?_
    refine st_nil ?_
    refine st_then ?_
    refine st_seq ?_
    refine st_region ?_
    refine st_v (rv_move rfl) (by decide) ?_
    refine st_v (rv_move rfl) (by decide) ?_
    refine st_call0 cal44 rfl (fun w hM => (by have := rLong_calls k hk (N : Nat) w; rwa [hl] at this)) (by decide) ?_
    refine st_v (rv_assign rfl) (by decide) ?_
    refine st_nil ?_
    refine st_then ?_
    refine st_seq ?_
    refine st_region ?_
    refine st_v (rv_move rfl) (by decide) ?_
    refine st_v (rv_move rfl) (by decide) ?_
    refine st_v (rv_move rfl) (by decide) ?_
    refine st_v (rv_move rfl) (by decide) ?_
    refine st_call0 cal45 rfl (fun w hM => (by have := rLongLabel_calls k hk label q (N : Nat) w; rwa [hl, he] at this)) (by decide) ?_
    refine st_v (rv_assign rfl) (by decide) ?_
    refine st_nil ?_
    refine st_then ?_
    refine st_seq ?_
    refine st_seq ?_
    refine st_region ?_
    refine st_v (rv_move rfl) (by decide) ?_
    refine st_v (rv_move rfl) (by decide) ?_
    refine st_gon rfl rfl ?_
    refine st_v (rv_move rfl) (by decide) ?_
    refine st_gon rfl rfl ?_
    refine st_v (rv_lenS Tryd.underlying22 rfl) (by decide) ?_
    refine st_gon rfl rfl ?_
    refine st_v (rv_neqZ rfl rfl) (by decide) ?_
    refine st_gon rfl rfl ?_
    refine st_v (rv_move rfl) (by decide) ?_
    refine st_gon rfl rfl ?_
    refine st_v (rv_move rfl) (by decide) ?_
    refine st_gon rfl rfl ?_
    refine st_v (rv_neqZ rfl rfl) (by decide) ?_
    refine st_gon rfl rfl ?_
    first | refine st_v (rv_pick_true rfl rfl) (by decide) ?_ | refine st_v (rv_pick_false rfl rfl) (by decide) ?_ | refine st_v (rv_pick rfl rfl rfl) (by decide) ?_
    first | refine st_v (rv_pick_true rfl rfl) (by decide) ?_ | refine st_v (rv_pick_false rfl rfl) (by decide) ?_ | refine st_v (rv_pick rfl rfl rfl) (by decide) ?_
    refine st_nil ?_
    refine st_then ?_
    refine st_false rfl ?_
    refine st_skip ?_
    refine st_then ?_
    refine st_seq ?_
    refine st_seq ?_
    refine st_region ?_
    refine st_v (rv_move rfl) (by decide) ?_
    refine st_v (rv_move rfl) (by decide) ?_
    refine st_gon rfl rfl ?_
    refine st_v (rv_move rfl) (by decide) ?_
    refine st_gon rfl rfl ?_
    refine st_v (rv_lenS Tryd.underlying22 rfl) (by decide) ?_
    refine st_gon rfl rfl ?_
    refine st_v (rv_neqZ rfl rfl) (by decide) ?_
    refine st_gon rfl rfl ?_
    refine st_v (rv_move rfl) (by decide) ?_
    refine st_gon rfl rfl ?_
    refine st_v (rv_move rfl) (by decide) ?_
    refine st_gon rfl rfl ?_
    refine st_v (rv_neqZ rfl rfl) (by decide) ?_
    refine st_gon rfl rfl ?_
    first | refine st_v (rv_pick_true rfl rfl) (by decide) ?_ | refine st_v (rv_pick_false rfl rfl) (by decide) ?_ | refine st_v (rv_pick rfl rfl rfl) (by decide) ?_
    first | refine st_v (rv_pick_true rfl rfl) (by decide) ?_ | refine st_v (rv_pick_false rfl rfl) (by decide) ?_ | refine st_v (rv_pick rfl rfl rfl) (by decide) ?_
    refine st_nil ?_
    refine st_then ?_
    refine st_false rfl ?_
    refine st_skip ?_
    refine st_then ?_
    refine st_seq ?_
    refine st_seq ?_
    refine st_region ?_
    refine st_v (rv_move rfl) (by decide) ?_
    refine st_v (rv_not rfl) (by decide) ?_
    refine st_nil ?_
    refine st_then ?_
    refine st_false rfl ?_
    refine st_skip ?_
    refine st_then ?_
    refine st_seq ?_
    refine st_seq ?_
    refine st_region ?_
    refine st_v (rv_move rfl) (by decide) ?_
    refine st_v (rv_not rfl) (by decide) ?_
    refine st_nil ?_
    refine st_then ?_
    refine st_false rfl ?_
    refine st_skip ?_
    refine st_then ?_
    refine st_seq ?_
    refine st_region ?_
    refine st_v (rv_assign rfl) (by decide) ?_
    refine st_nil ?_
    refine st_then ?_
    refine st_ret ?_
    exact st_done rfl rfl (fun w hM => ⟨by first | (simp; done) | rfl, hM.sublist (List.nil_sublist _)⟩)
set_option maxRecDepth 20000 in
set_option maxHeartbeats 1000000 in
theorem hashExpands3 (k : Nat) (hk : k ≤ 2) (key label q : List (BitVec 8)) (N : Nat) (hl : longZ k N = false) (he : elongZ (N : Int) label q = true) (w : World) (hL : LaidH w) : Calls Tryd.prog 10 #[vI (k : Nat), vS key, vS label, vS q, vI (N : Nat)] w (fun e w' => e = .returned (.bool true) ∧ Mem (All w) w w' []) := by
  refine calls_of_st (n := 166) (args := [vI (k : Nat), vS key, vS label, vS q, vI (N : Nat)]) Tryd.func10 rfl Tryd.ntmps10 (Nat.le_of_ble_eq_true rfl) (Mem.all w) ?_
  refine st_seq ?_
  refine st_region ?_
  refine st_v (rv_assign rfl) (by decide) ?_
  refine st_nil ?_
  refine st_then ?_
  refine st_seq ?_
  refine st_seq ?_
  refine st_region ?_
  refine st_v (rv_move rfl) (by decide) ?_
  refine st_v (rv_lenB Tryd.underlying9 rfl) (by decide) ?_
  refine st_v (rv_gtrZ rfl rfl) (by decide) ?_
  refine st_v (rv_move rfl) (by decide) ?_
  refine' st_or 4 (L := _) (s := 29) (d := 33) [0, 1, 2, 3, 4] rfl (fun hg4 => ?_) (fun _ => ?_) ?_; rotate_left
  · -- true
    refine st_gskip rfl rfl rfl (by decide) ?_
    refine st_gskip rfl rfl rfl (by decide) ?_
    refine st_gskip rfl rfl rfl (by decide) ?_
    first | refine st_v (rv_pick_true rfl rfl) (by decide) ?_ | refine st_v (rv_pick_false rfl rfl) (by decide) ?_ | refine st_v (rv_pick rfl rfl rfl) (by decide) ?_
    refine st_nil ?_
    exact st_meet_b (.cons rfl (.cons rfl (.cons rfl (.cons rfl (.cons rfl (.cons rfl (.nil _)))))))
  · -- false
    refine st_gon rfl rfl ?_
    refine st_v (rv_move rfl) (by decide) ?_
    refine st_gon rfl rfl ?_
    refine st_v (rv_lenB Tryd.underlying9 rfl) (by decide) ?_
    refine st_gon rfl rfl ?_
    refine st_v (rv_gtrZ rfl rfl) (by decide) ?_
    first | refine st_v (rv_pick_true rfl rfl) (by decide) ?_ | refine st_v (rv_pick_false rfl rfl) (by decide) ?_ | refine st_v (rv_pick rfl rfl rfl) (by decide) ?_
    refine st_nil ?_
    exact st_meet_b (.cons rfl (.cons rfl (.cons rfl (.cons rfl (.cons rfl (.cons rfl (.nil _)))))))
  refine st_v (rv_move rfl) (by decide) ?_
  refine' st_or 4 (L := _) (s := 34) (d := 38) [0, 1, 2, 3, 4] rfl (fun hg9 => ?_) (fun _ => ?_) ?_; rotate_left
  · -- true
    refine st_gskip rfl rfl rfl (by decide) ?_
    refine st_gskip rfl rfl rfl (by decide) ?_
    refine st_gskip rfl rfl rfl (by decide) ?_
    first | refine st_v (rv_pick_true rfl rfl) (by decide) ?_ | refine st_v (rv_pick_false rfl rfl) (by decide) ?_ | refine st_v (rv_pick rfl rfl rfl) (by decide) ?_
    refine st_nil ?_
    exact st_meet_b (.cons rfl (.cons rfl (.cons rfl (.cons rfl (.cons rfl (.cons rfl (.nil _)))))))
  · -- false
    refine st_gon rfl rfl ?_
    refine st_v (rv_move rfl) (by decide) ?_
    refine st_gon rfl rfl ?_
    refine st_v (rv_lenB Tryd.underlying9 rfl) (by decide) ?_
    refine st_gon rfl rfl ?_
    refine st_v (rv_gtrZ rfl rfl) (by decide) ?_
    first | refine st_v (rv_pick_true rfl rfl) (by decide) ?_ | refine st_v (rv_pick_false rfl rfl) (by decide) ?_ | refine st_v (rv_pick rfl rfl rfl) (by decide) ?_
    refine st_nil ?_
    exact st_meet_b (.cons rfl (.cons rfl (.cons rfl (.cons rfl (.cons rfl (.cons rfl (.nil _)))))))
  refine st_nil ?_
  refine st_then ?_
  refine st_cond rfl (fun hc38 => ?_) (fun hc38 => ?_)
  · -- t38 True
    try simp only [z1, z2, z3, z4, z5, z6, z7, z8, z9, z10, z11, z12, z13, z14] at hc38
    refine st_seq ?_
    refine st_region ?_
    refine st_v (rv_assign rfl) (by decide) ?_
    refine st_nil ?_
    refine st_then ?_
    refine st_ret ?_
    refine st_then_ret ?_
    exact st_done rfl rfl (fun w hM => ⟨by first | (simp; done) | rfl, hM.sublist (List.nil_sublist _)⟩)
  · -- t38 False
    try simp only [z1, z2, z3, z4, z5, z6, z7, z8, z9, z10, z11, z12, z13, z14] at hc38
    have hkl : key.length ≤ 700000 := by omega
    have hql : q.length ≤ 700000 := by omega
    refine st_skip ?_
    refine st_then ?_
    refine st_seq ?_
    refine st_region ?_
    refine st_v (rv_move rfl) (by decide) ?_
    refine st_v (rv_assign rfl) (by decide) ?_
    refine st_nil ?_
    refine st_then ?_
    refine st_seq ?_
    refine st_region ?_
    refine st_v (rv_move rfl) (by decide) ?_
    refine st_callV cal12 rfl (fun w hM => lent_calls _ (by omega) w) (by decide) (fun v1 => ?_)
    refine st_v (rv_assign rfl) (by decide) ?_
    refine st_nil ?_
    refine st_then ?_
    refine st_seq ?_
    refine st_region ?_
    refine st_v (rv_move rfl) (by decide) ?_
    refine st_callV cal12 rfl (fun w hM => lent_calls _ (by omega) w) (by decide) (fun v2 => ?_)
    refine st_v (rv_assign rfl) (by decide) ?_
    refine st_nil ?_
    refine st_then ?_
    refine st_seq ?_
    refine st_drawStart mixed ?_
    refine st_drawSeg1 (E0 := [(1, _), (2, _), (3, _), (4, _), (11, _), (12, _), (13, _)]) [kpeq _, kpeq _, kpeq _, kpeq _, kpeq _, kpeq _, kpeq _, kpeq _, kpeq _, kpeq _] 0 10 [0, 0, 0, 4, 14, 0, 0, 64, 224, 0, 1023, 2047, 4095, 4095, 8191, 32767] [1, 2, 3, 4, 11, 12, 13] (by kernel_rfl) (by decide) (by kernel_rfl) (.cons rfl (.cons rfl (.cons rfl (.cons rfl (.cons rfl (.cons rfl (.cons rfl (.nil _)))))))) rfl rfl (hall_cons (hop_mv rfl (by decide) rfl rfl) (hall_cons (hop_mv rfl (by decide) rfl rfl) (hall_cons (hop_mv rfl (by decide) rfl rfl) (hall_cons (hop_val [(2, 47, _)] [] rfl rfl rfl (by decide) rfl (jcons rfl rfl rfl rfl rfl (jnil)) (xnil) (fun _ _ _ _ => does_v (rv_lenB Tryd.underlying9 rfl))) (hall_cons (hop_val [(1, 46, _), (3, 48, _)] [] rfl rfl rfl (by decide) rfl (jcons rfl rfl rfl rfl rfl (jcons rfl rfl rfl rfl rfl (jnil))) (xnil) (fun _ _ _ _ => does_v (rv_sliceR (rd_rd (i := 1) rfl) Tryd.underlying22 sz5 rfl evB_none (evB_some rfl rfl) (by first | omega | (simp [length_lentL] <;> omega)) (by first | omega | (simp [length_lentL] <;> omega))))) (hall_cons (hop_mv rfl (by decide) rfl rfl) (hall_cons (hop_mv rfl (by decide) rfl rfl) (hall_cons (hop_val [(6, 51, _)] [] rfl rfl rfl (by decide) rfl (jcons rfl rfl rfl rfl rfl (jnil)) (xnil) (fun _ _ _ _ => does_v (rv_lenB Tryd.underlying9 rfl))) (hall_cons (hop_val [(5, 50, _), (7, 52, _)] [] rfl rfl rfl (by decide) rfl (jcons rfl rfl rfl rfl rfl (jcons rfl rfl rfl rfl rfl (jnil))) (xnil) (fun _ _ _ _ => does_v (rv_sliceR (rd_rd (i := 0) rfl) Tryd.underlying22 sz5 rfl evB_none (evB_some rfl rfl) (by first | omega | (simp [length_lentL] <;> omega)) (by first | omega | (simp [length_lentL] <;> omega))))) (hall_cons (hop_mv rfl (by decide) rfl rfl) (hall_nil))))))))))) (draw_end1 [(0, 45, _), (4, 49, _), (8, 53, _), (9, 54, _)] (jcons rfl rfl rfl rfl rfl (jcons rfl rfl rfl rfl rfl (jcons rfl rfl rfl rfl rfl (jcons rfl rfl rfl rfl rfl (jnil))))) ?_)
    refine st_drawOp [0, 0, 0, 4, 14, 0, 0, 64, 224, 0, 1023, 2047, 4095, 4095, 8191, 32767] (by kernel_rfl) rfl ?_
    refine st_call1 (ρ := Value) (fun r => .tuple #[r, vI 0]) (fun _ => True) (fun r => [own r 5 1 N ((okmW k key q N).map U8)]) cal42 rfl (fun w hM => ((Expand_ok k hk _ _ key q N hl hkl hql w (hL.at hM) (lentRd (((rd_rd (i := 1) rfl) w hM).part8 (by first | omega | (simp [length_lentL] <;> omega)) (by first | omega | (simp [length_lentL] <;> omega)))) (lentRd (((rd_rd (i := 0) rfl) w hM).part8 (by first | omega | (simp [length_lentL] <;> omega)) (by first | omega | (simp [length_lentL] <;> omega)))))).mono fun e w' ⟨r, h1, h2⟩ => ⟨r, h1, trivial, h2⟩) (by decide) (fun r3 _ => ?_)
    refine st_nil ?_
    refine st_then ?_
    refine st_drawOp [0, 0, 0, 4, 14, 0, 0, 64, 224, 0, 1023, 2047, 4095, 4095, 8191, 32767] (by kernel_rfl) rfl ?_
    refine st_v (rv_move rfl) (by decide) ?_
    refine st_nil ?_
    refine st_then ?_
    refine st_drawSeg1 (E0 := [(1, _), (2, _), (3, _), (4, _), (11, _), (12, _), (13, _), (44, _)]) [kany, kany, kany, kany, kany, kany, kany, kany, kany, kany, kany, kany, kpeq _, kpeq _, kpeq _] 12 15 [0, 0, 0, 4, 14, 0, 0, 64, 224, 0, 1023, 2047, 4095, 4095, 8191, 32767] [1, 2, 3, 4, 11, 12, 13, 44] (by kernel_rfl) (by decide) (by kernel_rfl) (.cons rfl (.cons rfl (.cons rfl (.cons rfl (.cons rfl (.cons rfl (.cons rfl (.cons rfl (.nil _))))))))) rfl rfl (hall_skip rfl (hall_skip rfl (hall_skip rfl (hall_skip rfl (hall_skip rfl (hall_skip rfl (hall_skip rfl (hall_skip rfl (hall_skip rfl (hall_skip rfl (hall_skip rfl (hall_skip rfl (hall_cons (hop_val [] [] rfl rfl rfl (by decide) rfl (jnil) (xnil) (fun _ _ _ _ => does_v (rv_extract rfl rfl))) (hall_cons (hop_val [] [] rfl rfl rfl (by decide) rfl (jnil) (xnil) (fun _ _ _ _ => does_v (rv_extract rfl rfl))) (hall_cons (hop_val [(12, 56, _)] [] rfl rfl rfl (by decide) rfl (jcons rfl rfl rfl rfl rfl (jnil)) (xnil) (fun _ _ _ _ => does_v (rv_assign rfl))) (hall_nil)))))))))))))))) (draw_end1 [(13, 57, _), (14, 14, _)] (jcons rfl rfl rfl rfl rfl (jcons rfl rfl rfl rfl rfl (jnil))) ?_)
    refine st_drawTail (N := 15) [0, 0, 0, 4, 14, 0, 0, 64, 224, 0, 1023, 2047, 4095, 4095, 8191, 32767] (by kernel_rfl) (by kernel_rfl) ?_
    refine st_v (rv_assign rfl) (by decide) ?_
    refine st_nil ?_
    refine st_then ?_
    refine st_seq ?_
    refine st_drawStart mixed ?_
    refine st_drawSeg1 (E0 := [(1, _), (2, _), (3, _), (4, _), (11, _), (12, _), (13, _), (14, _), (15, _)]) [kpeq _, kpeq _, kpeq _, kpeq _, kpeq _, kpeq _, kpeq _, kpeq _, kpeq _, kpeq _, kpeq _] 0 11 [0, 0, 0, 4, 14, 0, 0, 0, 128, 448, 0, 2047, 4095, 8191, 8191, 16383, 65535] [1, 2, 3, 4, 11, 12, 13, 14, 15] (by kernel_rfl) (by decide) (by kernel_rfl) (.cons rfl (.cons rfl (.cons rfl (.cons rfl (.cons rfl (.cons rfl (.cons rfl (.cons rfl (.cons rfl (.nil _)))))))))) rfl rfl (hall_cons (hop_mv rfl (by decide) rfl rfl) (hall_cons (hop_mv rfl (by decide) rfl rfl) (hall_cons (hop_mv rfl (by decide) rfl rfl) (hall_cons (hop_val [(2, 61, _)] [] rfl rfl rfl (by decide) rfl (jcons rfl rfl rfl rfl rfl (jnil)) (xnil) (fun _ _ _ _ => does_v (rv_lenB Tryd.underlying9 rfl))) (hall_cons (hop_val [(1, 60, _), (3, 62, _)] [] rfl rfl rfl (by decide) rfl (jcons rfl rfl rfl rfl rfl (jcons rfl rfl rfl rfl rfl (jnil))) (xnil) (fun _ _ _ _ => does_v (rv_sliceR (rd_rd (i := 2) rfl) Tryd.underlying22 sz5 rfl evB_none (evB_some rfl rfl) (by first | omega | (simp [length_lentL] <;> omega)) (by first | omega | (simp [length_lentL] <;> omega))))) (hall_cons (hop_mv rfl (by decide) rfl rfl) (hall_cons (hop_mv rfl (by decide) rfl rfl) (hall_cons (hop_mv rfl (by decide) rfl rfl) (hall_cons (hop_val [(7, 66, _)] [] rfl rfl rfl (by decide) rfl (jcons rfl rfl rfl rfl rfl (jnil)) (xnil) (fun _ _ _ _ => does_v (rv_lenB Tryd.underlying9 rfl))) (hall_cons (hop_val [(6, 65, _), (8, 67, _)] [] rfl rfl rfl (by decide) rfl (jcons rfl rfl rfl rfl rfl (jcons rfl rfl rfl rfl rfl (jnil))) (xnil) (fun _ _ _ _ => does_v (rv_sliceR (rd_rd (i := 1) rfl) Tryd.underlying22 sz5 rfl evB_none (evB_some rfl rfl) (by first | omega | (simp [length_lentL] <;> omega)) (by first | omega | (simp [length_lentL] <;> omega))))) (hall_cons (hop_mv rfl (by decide) rfl rfl) (hall_nil)))))))))))) (draw_end1 [(0, 59, _), (4, 63, _), (5, 64, _), (9, 68, _), (10, 69, _)] (jcons rfl rfl rfl rfl rfl (jcons rfl rfl rfl rfl rfl (jcons rfl rfl rfl rfl rfl (jcons rfl rfl rfl rfl rfl (jcons rfl rfl rfl rfl rfl (jnil)))))) ?_)
    refine st_drawOp [0, 0, 0, 4, 14, 0, 0, 0, 128, 448, 0, 2047, 4095, 8191, 8191, 16383, 65535] (by kernel_rfl) rfl ?_
    refine st_call0 cal43 rfl (fun w hM => (ELabel_long1 k hk _ _ key label q _ he hkl hql w (hL.at hM) (lentRd (((rd_rd (i := 2) rfl) w hM).part8 (by first | omega | (simp [length_lentL] <;> omega)) (by first | omega | (simp [length_lentL] <;> omega)))) (lentRd (((rd_rd (i := 1) rfl) w hM).part8 (by first | omega | (simp [length_lentL] <;> omega)) (by first | omega | (simp [length_lentL] <;> omega)))))) (by decide) ?_
    refine st_nil ?_
    refine st_then ?_
    refine st_drawOp [0, 0, 0, 4, 14, 0, 0, 0, 128, 448, 0, 2047, 4095, 8191, 8191, 16383, 65535] (by kernel_rfl) rfl ?_
    refine st_v (rv_move rfl) (by decide) ?_
    refine st_nil ?_
    refine st_then ?_
    refine st_drawSeg1 (E0 := [(1, _), (2, _), (3, _), (4, _), (11, _), (12, _), (13, _), (14, _), (15, _), (58, _)]) [kany, kany, kany, kany, kany, kany, kany, kany, kany, kany, kany, kany, kany, kpeq _, kpeq _, kpeq _] 13 16 [0, 0, 0, 4, 14, 0, 0, 0, 128, 448, 0, 2047, 4095, 8191, 8191, 16383, 65535] [1, 2, 3, 4, 11, 12, 13, 14, 15, 58] (by kernel_rfl) (by decide) (by kernel_rfl) (.cons rfl (.cons rfl (.cons rfl (.cons rfl (.cons rfl (.cons rfl (.cons rfl (.cons rfl (.cons rfl (.cons rfl (.nil _))))))))))) rfl rfl (hall_skip rfl (hall_skip rfl (hall_skip rfl (hall_skip rfl (hall_skip rfl (hall_skip rfl (hall_skip rfl (hall_skip rfl (hall_skip rfl (hall_skip rfl (hall_skip rfl (hall_skip rfl (hall_skip rfl (hall_cons (hop_val [] [] rfl rfl rfl (by decide) rfl (jnil) (xnil) (fun _ _ _ _ => does_v (rv_extract rfl rfl))) (hall_cons (hop_val [] [] rfl rfl rfl (by decide) rfl (jnil) (xnil) (fun _ _ _ _ => does_v (rv_extract rfl rfl))) (hall_cons (hop_val [(13, 71, _)] [] rfl rfl rfl (by decide) rfl (jcons rfl rfl rfl rfl rfl (jnil)) (xnil) (fun _ _ _ _ => does_v (rv_assign rfl))) (hall_nil))))))))))))))))) (draw_end1 [(14, 72, _), (15, 16, _)] (jcons rfl rfl rfl rfl rfl (jcons rfl rfl rfl rfl rfl (jnil))) ?_)
    refine st_drawTail (N := 16) [0, 0, 0, 4, 14, 0, 0, 0, 128, 448, 0, 2047, 4095, 8191, 8191, 16383, 65535] (by kernel_rfl) (by kernel_rfl) ?_
    refine st_v (rv_assign rfl) (by decide) ?_
    refine st_nil ?_
    refine st_then ?_
    refine st_seq ?_
    refine st_region ?_
    refine st_v (rv_move rfl) (by decide) ?_
    refine st_v (rv_move rfl) (by decide) ?_
    refine st_call0 cal14 rfl (fun w hM => (still_calls _ key (by omega) w ((rd_rd (i := 2) rfl) w hM))) (by decide) ?_
    refine st_v (rv_assign rfl) (by decide) ?_
    refine st_nil ?_
    refine st_then ?_
    refine st_seq ?_
    refine st_region ?_
    refine st_v (rv_move rfl) (by decide) ?_
    refine st_v (rv_move rfl) (by decide) ?_
    refine st_call0 cal14 rfl (fun w hM => (still_calls _ q (by omega) w ((rd_rd (i := 1) rfl) w hM))) (by decide) ?_
    refine st_v (rv_assign rfl) (by decide) ?_
    refine st_nil ?_
    refine st_then ?_
    refine st_seq ?_
    refine st_seq ?_
    refine st_region ?_
    refine st_v (rv_move rfl) (by decide) ?_
    refine st_v (rv_not rfl) (by decide) ?_
    refine st_v (rv_move rfl) (by decide) ?_
    refine' st_or 3 (L := _) (s := 81) (d := 84) [1, 2, 3, 4, 11, 14, 15, 16, 17] rfl (fun hg3 => ?_) (fun _ => ?_) ?_; rotate_left
    · -- true
      refine st_gskip rfl rfl rfl (by decide) ?_
      refine st_gskip rfl rfl rfl (by decide) ?_
      first | refine st_v (rv_pick_true rfl rfl) (by decide) ?_ | refine st_v (rv_pick_false rfl rfl) (by decide) ?_ | refine st_v (rv_pick rfl rfl rfl) (by decide) ?_
      refine st_nil ?_
      exact st_meet_b (.cons rfl (.cons rfl (.cons rfl (.cons rfl (.cons rfl (.cons rfl (.cons rfl (.cons rfl (.cons rfl (.cons rfl (.nil _)))))))))))
    · -- false
      refine st_gon rfl rfl ?_
      refine st_v (rv_move rfl) (by decide) ?_
      refine st_gon rfl rfl ?_
      refine st_v (rv_not rfl) (by decide) ?_
      first | refine st_v (rv_pick_true rfl rfl) (by decide) ?_ | refine st_v (rv_pick_false rfl rfl) (by decide) ?_ | refine st_v (rv_pick rfl rfl rfl) (by decide) ?_
      refine st_nil ?_
      exact st_meet_b (.cons rfl (.cons rfl (.cons rfl (.cons rfl (.cons rfl (.cons rfl (.cons rfl (.cons rfl (.cons rfl (.cons rfl (.nil _)))))))))))
    refine st_nil ?_
    refine st_then ?_
    refine st_false rfl ?_
    refine st_skip ?_
    refine st_then ?_
    refine st_seq ?_
    refine st_region ?_
    refine st_v (rv_move rfl) (by decide) ?_
    refine st_call0 cal28 rfl (fun w hM => (rKnown_ok hk w)) (by decide) ?_
    refine st_v (rv_assign rfl) (by decide) ?_
    refine st_nil ?_
    refine st_then ?_
    refine st_seq ?_
    refine st_seq ?_
    refine st_region ?_
    refine st_v (rv_move rfl) (by decide) ?_
    refine st_v (rv_not rfl) (by decide) ?_
    refine st_nil ?_
    refine st_then ?_
    refine st_false rfl ?_
    refine st_skip ?_
    refine st_then ?_
    refine st_seq ?_
    refine st_region ?_
    refine st_v (rv_move rfl) (by decide) ?_
    refine st_call1 (ρ := Nat × Value × Value) (fun r => pt r.1 0) (fun _ => True) (fun r => [hrA k r.1 r.2.1 r.2.2]) cal40 rfl (fun w hM => ((Make_calls k hk w)).mono fun e w' ⟨r, h1, h2⟩ => ⟨r, h1, trivial, h2⟩) (by decide) (fun r4 _ => ?_)
    refine st_v (rv_assign rfl) (by decide) ?_
    refine st_nil ?_
    refine st_then ?_
    refine st_seq ?_
    refine st_region ?_
    refine st_v (rv_move rfl) (by decide) ?_
    refine st_v (rv_move rfl) (by decide) ?_
    refine st_call0 cal44 rfl (fun w hM => (by have := rLong_calls k hk (N : Nat) w; rwa [hl] at this)) (by decide) ?_
    refine st_v (rv_assign rfl) (by decide) ?_
    refine st_nil ?_
    refine st_then ?_
    refine st_seq ?_
    refine st_region ?_
    refine st_v (rv_move rfl) (by decide) ?_
    refine st_v (rv_move rfl) (by decide) ?_
    refine st_v (rv_move rfl) (by decide) ?_
    refine st_v (rv_move rfl) (by decide) ?_
    refine st_call0 cal45 rfl (fun w hM => (by have := rLongLabel_calls k hk label q (N : Nat) w; rwa [hl, he] at this)) (by decide) ?_
    refine st_v (rv_assign rfl) (by decide) ?_
    refine st_nil ?_
    refine st_then ?_
    refine st_seq ?_
    refine st_seq ?_
    refine st_region ?_
    refine st_v (rv_move rfl) (by decide) ?_
    refine st_v (rv_move rfl) (by decide) ?_
    refine st_gskip rfl rfl rfl (by decide) ?_
    refine st_gskip rfl rfl rfl (by decide) ?_
    refine st_gskip rfl rfl rfl (by decide) ?_
    refine st_gskip rfl rfl rfl (by decide) ?_
    refine st_gskipU rfl rfl (by decide) ?_
    refine st_gskipU rfl rfl (by decide) ?_
    refine st_gskip rfl rfl rfl (by decide) ?_
    first | refine st_v (rv_pick_true rfl rfl) (by decide) ?_ | refine st_v (rv_pick_false rfl rfl) (by decide) ?_ | refine st_v (rv_pick rfl rfl rfl) (by decide) ?_
    refine st_nil ?_
    refine st_then ?_
    refine st_false rfl ?_
    refine st_skip ?_
    refine st_then ?_
    refine st_seq ?_
    refine st_seq ?_
    refine st_region ?_
    refine st_v (rv_move rfl) (by decide) ?_
    refine st_v (rv_move rfl) (by decide) ?_
    refine st_gon rfl rfl ?_
    refine st_v (rv_move rfl) (by decide) ?_
    refine st_gon rfl rfl ?_
    refine st_v (rv_lenS Tryd.underlying22 rfl) (by decide) ?_
    refine st_gon rfl rfl ?_
    refine st_v (rv_neqZ rfl rfl) (by decide) ?_
    refine st_gon rfl rfl ?_
    refine st_v (rv_move rfl) (by decide) ?_
    refine st_gon rfl rfl ?_
    refine st_v (rv_move rfl) (by decide) ?_
    refine st_gon rfl rfl ?_
    refine st_v (rv_neqZ rfl rfl) (by decide) ?_
    refine st_gon rfl rfl ?_
    first | refine st_v (rv_pick_true rfl rfl) (by decide) ?_ | refine st_v (rv_pick_false rfl rfl) (by decide) ?_ | refine st_v (rv_pick rfl rfl rfl) (by decide) ?_
    first | refine st_v (rv_pick_true rfl rfl) (by decide) ?_ | refine st_v (rv_pick_false rfl rfl) (by decide) ?_ | refine st_v (rv_pick rfl rfl rfl) (by decide) ?_
    refine st_nil ?_
    refine st_then ?_
    refine st_false rfl ?_
    refine st_skip ?_
    refine st_then ?_
    refine st_seq ?_
    refine st_seq ?_
    refine st_region ?_
    refine st_v (rv_move rfl) (by decide) ?_
    refine st_v (rv_not rfl) (by decide) ?_
    refine st_nil ?_
    refine st_then ?_
    refine st_true rfl ?_
    refine st_seq ?_
    refine st_region ?_
    refine st_v (rv_move rfl) (by decide) ?_
    refine st_v (rv_move rfl) (by decide) ?_
    refine st_v (rv_move rfl) (by decide) ?_
    refine st_v (rv_move rfl) (by decide) ?_
    refine st_call0 cal46 rfl (fun w hM => (rExpand_calls k hk _ _ _ key q N (longZ_false hl) hkl hql w (hM.at (i := 0) rfl))) (by decide) ?_
    refine st_v (rv_assign rfl) (by decide) ?_
    refine st_nil ?_
    refine st_then ?_
    refine st_seq ?_
    refine st_region ?_
    refine st_v (rv_move rfl) (by decide) ?_
    refine st_v (rv_string (rd_own (i := 1) rfl) Tryd.underlying22 Tryd.underlying9 Tryd.underlying5 rfl) (by decide) ?_
    refine st_v (rv_move rfl) (by decide) ?_
    refine st_v (rv_to (rv_neqB rfl rfl) (u := .bool false) (by simp)) (by decide) ?_
    refine st_v (rv_move rfl) (by decide) ?_
    refine st_gon rfl rfl ?_
    refine st_v (rv_move rfl) (by decide) ?_
    refine st_gon rfl rfl ?_
    refine st_v (rv_neqZ rfl rfl) (by decide) ?_
    first | refine st_v (rv_pick_true rfl rfl) (by decide) ?_ | refine st_v (rv_pick_false rfl rfl) (by decide) ?_ | refine st_v (rv_pick rfl rfl rfl) (by decide) ?_
    refine st_nil ?_
    refine st_then ?_
    refine st_false rfl ?_
    refine st_skip ?_
    refine st_then ?_
    refine st_seq ?_
    refine st_seq ?_
    refine st_region ?_
    refine st_v (rv_move rfl) (by decide) ?_
    refine st_v (rv_not rfl) (by decide) ?_
    refine st_nil ?_
    refine st_then ?_
    refine st_false rfl ?_
    refine st_skip ?_
    refine st_then ?_
    refine st_seq ?_
    refine st_region ?_
    refine st_v (rv_assign rfl) (by decide) ?_
    refine st_nil ?_
    refine st_then ?_
    refine st_ret ?_
    exact st_done rfl rfl (fun w hM => ⟨by first | (simp; done) | rfl, hM.sublist (List.nil_sublist _)⟩)
set_option maxRecDepth 20000 in
set_option maxHeartbeats 1000000 in
theorem hashExpands4 (k : Nat) (hk : k ≤ 2) (key label q : List (BitVec 8)) (N : Nat) (hl : longZ k N = false) (he : elongZ (N : Int) label q = false) (w : World) (hL : LaidH w) : Calls Tryd.prog 10 #[vI (k : Nat), vS key, vS label, vS q, vI (N : Nat)] w (fun e w' => e = .returned (.bool true) ∧ Mem (All w) w w' []) := by
  refine calls_of_st (n := 166) (args := [vI (k : Nat), vS key, vS label, vS q, vI (N : Nat)]) Tryd.func10 rfl Tryd.ntmps10 (Nat.le_of_ble_eq_true rfl) (Mem.all w) ?_
  refine st_seq ?_
  refine st_region ?_
  refine st_v (rv_assign rfl) (by decide) ?_
  refine st_nil ?_
  refine st_then ?_
  refine st_seq ?_
  refine st_seq ?_
  refine st_region ?_
  refine st_v (rv_move rfl) (by decide) ?_
  refine st_v (rv_lenB Tryd.underlying9 rfl) (by decide) ?_
  refine st_v (rv_gtrZ rfl rfl) (by decide) ?_
  refine st_v (rv_move rfl) (by decide) ?_
  refine' st_or 4 (L := _) (s := 29) (d := 33) [0, 1, 2, 3, 4] rfl (fun hg4 => ?_) (fun _ => ?_) ?_; rotate_left
  · -- true
    refine st_gskip rfl rfl rfl (by decide) ?_
    refine st_gskip rfl rfl rfl (by decide) ?_
    refine st_gskip rfl rfl rfl (by decide) ?_
    first | refine st_v (rv_pick_true rfl rfl) (by decide) ?_ | refine st_v (rv_pick_false rfl rfl) (by decide) ?_ | refine st_v (rv_pick rfl rfl rfl) (by decide) ?_
    refine st_nil ?_
    exact st_meet_b (.cons rfl (.cons rfl (.cons rfl (.cons rfl (.cons rfl (.cons rfl (.nil _)))))))
  · -- false
    refine st_gon rfl rfl ?_
    refine st_v (rv_move rfl) (by decide) ?_
    refine st_gon rfl rfl ?_
    refine st_v (rv_lenB Tryd.underlying9 rfl) (by decide) ?_
    refine st_gon rfl rfl ?_
    refine st_v (rv_gtrZ rfl rfl) (by decide) ?_
    first | refine st_v (rv_pick_true rfl rfl) (by decide) ?_ | refine st_v (rv_pick_false rfl rfl) (by decide) ?_ | refine st_v (rv_pick rfl rfl rfl) (by decide) ?_
    refine st_nil ?_
    exact st_meet_b (.cons rfl (.cons rfl (.cons rfl (.cons rfl (.cons rfl (.cons rfl (.nil _)))))))
  refine st_v (rv_move rfl) (by decide) ?_
  refine' st_or 4 (L := _) (s := 34) (d := 38) [0, 1, 2, 3, 4] rfl (fun hg9 => ?_) (fun _ => ?_) ?_; rotate_left
  · -- true
    refine st_gskip rfl rfl rfl (by decide) ?_
    refine st_gskip rfl rfl rfl (by decide) ?_
    refine st_gskip rfl rfl rfl (by decide) ?_
    first | refine st_v (rv_pick_true rfl rfl) (by decide) ?_ | refine st_v (rv_pick_false rfl rfl) (by decide) ?_ | refine st_v (rv_pick rfl rfl rfl) (by decide) ?_
    refine st_nil ?_
    exact st_meet_b (.cons rfl (.cons rfl (.cons rfl (.cons rfl (.cons rfl (.cons rfl (.nil _)))))))
  · -- false
    refine st_gon rfl rfl ?_
    refine st_v (rv_move rfl) (by decide) ?_
    refine st_gon rfl rfl ?_
    refine st_v (rv_lenB Tryd.underlying9 rfl) (by decide) ?_
    refine st_gon rfl rfl ?_
    refine st_v (rv_gtrZ rfl rfl) (by decide) ?_
    first | refine st_v (rv_pick_true rfl rfl) (by decide) ?_ | refine st_v (rv_pick_false rfl rfl) (by decide) ?_ | refine st_v (rv_pick rfl rfl rfl) (by decide) ?_
    refine st_nil ?_
    exact st_meet_b (.cons rfl (.cons rfl (.cons rfl (.cons rfl (.cons rfl (.cons rfl (.nil _)))))))
  refine st_nil ?_
  refine st_then ?_
  refine st_cond rfl (fun hc38 => ?_) (fun hc38 => ?_)
  · -- t38 True
    try simp only [z1, z2, z3, z4, z5, z6, z7, z8, z9, z10, z11, z12, z13, z14] at hc38
    refine st_seq ?_
    refine st_region ?_
    refine st_v (rv_assign rfl) (by decide) ?_
    refine st_nil ?_
    refine st_then ?_
    refine st_ret ?_
    refine st_then_ret ?_
    exact st_done rfl rfl (fun w hM => ⟨by first | (simp; done) | rfl, hM.sublist (List.nil_sublist _)⟩)
  · -- t38 False
    try simp only [z1, z2, z3, z4, z5, z6, z7, z8, z9, z10, z11, z12, z13, z14] at hc38
    have hkl : key.length ≤ 700000 := by omega
    have hql : q.length ≤ 700000 := by omega
    refine st_skip ?_
    refine st_then ?_
    refine st_seq ?_
    refine st_region ?_
    refine st_v (rv_move rfl) (by decide) ?_
    refine st_v (rv_assign rfl) (by decide) ?_
    refine st_nil ?_
    refine st_then ?_
    refine st_seq ?_
    refine st_region ?_
    refine st_v (rv_move rfl) (by decide) ?_
    refine st_callV cal12 rfl (fun w hM => lent_calls _ (by omega) w) (by decide) (fun v1 => ?_)
    refine st_v (rv_assign rfl) (by decide) ?_
    refine st_nil ?_
    refine st_then ?_
    refine st_seq ?_
    refine st_region ?_
    refine st_v (rv_move rfl) (by decide) ?_
    refine st_callV cal12 rfl (fun w hM => lent_calls _ (by omega) w) (by decide) (fun v2 => ?_)
    refine st_v (rv_assign rfl) (by decide) ?_
    refine st_nil ?_
    refine st_then ?_
    refine st_seq ?_
    refine st_drawStart mixed ?_
    refine st_drawSeg1 (E0 := [(1, _), (2, _), (3, _), (4, _), (11, _), (12, _), (13, _)]) [kpeq _, kpeq _, kpeq _, kpeq _, kpeq _, kpeq _, kpeq _, kpeq _, kpeq _, kpeq _] 0 10 [0, 0, 0, 4, 14, 0, 0, 64, 224, 0, 1023, 2047, 4095, 4095, 8191, 32767] [1, 2, 3, 4, 11, 12, 13] (by kernel_rfl) (by decide) (by kernel_rfl) (.cons rfl (.cons rfl (.cons rfl (.cons rfl (.cons rfl (.cons rfl (.cons rfl (.nil _)))))))) rfl rfl (hall_cons (hop_mv rfl (by decide) rfl rfl) (hall_cons (hop_mv rfl (by decide) rfl rfl) (hall_cons (hop_mv rfl (by decide) rfl rfl) (hall_cons (hop_val [(2, 47, _)] [] rfl rfl rfl (by decide) rfl (jcons rfl rfl rfl rfl rfl (jnil)) (xnil) (fun _ _ _ _ => does_v (rv_lenB Tryd.underlying9 rfl))) (hall_cons (hop_val [(1, 46, _), (3, 48, _)] [] rfl rfl rfl (by decide) rfl (jcons rfl rfl rfl rfl rfl (jcons rfl rfl rfl rfl rfl (jnil))) (xnil) (fun _ _ _ _ => does_v (rv_sliceR (rd_rd (i := 1) rfl) Tryd.underlying22 sz5 rfl evB_none (evB_some rfl rfl) (by first | omega | (simp [length_lentL] <;> omega)) (by first | omega | (simp [length_lentL] <;> omega))))) (hall_cons (hop_mv rfl (by decide) rfl rfl) (hall_cons (hop_mv rfl (by decide) rfl rfl) (hall_cons (hop_val [(6, 51, _)] [] rfl rfl rfl (by decide) rfl (jcons rfl rfl rfl rfl rfl (jnil)) (xnil) (fun _ _ _ _ => does_v (rv_lenB Tryd.underlying9 rfl))) (hall_cons (hop_val [(5, 50, _), (7, 52, _)] [] rfl rfl rfl (by decide) rfl (jcons rfl rfl rfl rfl rfl (jcons rfl rfl rfl rfl rfl (jnil))) (xnil) (fun _ _ _ _ => does_v (rv_sliceR (rd_rd (i := 0) rfl) Tryd.underlying22 sz5 rfl evB_none (evB_some rfl rfl) (by first | omega | (simp [length_lentL] <;> omega)) (by first | omega | (simp [length_lentL] <;> omega))))) (hall_cons (hop_mv rfl (by decide) rfl rfl) (hall_nil))))))))))) (draw_end1 [(0, 45, _), (4, 49, _), (8, 53, _), (9, 54, _)] (jcons rfl rfl rfl rfl rfl (jcons rfl rfl rfl rfl rfl (jcons rfl rfl rfl rfl rfl (jcons rfl rfl rfl rfl rfl (jnil))))) ?_)
    refine st_drawOp [0, 0, 0, 4, 14, 0, 0, 64, 224, 0, 1023, 2047, 4095, 4095, 8191, 32767] (by kernel_rfl) rfl ?_
    refine st_call1 (ρ := Value) (fun r => .tuple #[r, vI 0]) (fun _ => True) (fun r => [own r 5 1 N ((okmW k key q N).map U8)]) cal42 rfl (fun w hM => ((Expand_ok k hk _ _ key q N hl hkl hql w (hL.at hM) (lentRd (((rd_rd (i := 1) rfl) w hM).part8 (by first | omega | (simp [length_lentL] <;> omega)) (by first | omega | (simp [length_lentL] <;> omega)))) (lentRd (((rd_rd (i := 0) rfl) w hM).part8 (by first | omega | (simp [length_lentL] <;> omega)) (by first | omega | (simp [length_lentL] <;> omega)))))).mono fun e w' ⟨r, h1, h2⟩ => ⟨r, h1, trivial, h2⟩) (by decide) (fun r3 _ => ?_)
    refine st_nil ?_
    refine st_then ?_
    refine st_drawOp [0, 0, 0, 4, 14, 0, 0, 64, 224, 0, 1023, 2047, 4095, 4095, 8191, 32767] (by kernel_rfl) rfl ?_
    refine st_v (rv_move rfl) (by decide) ?_
    refine st_nil ?_
    refine st_then ?_
    refine st_drawSeg1 (E0 := [(1, _), (2, _), (3, _), (4, _), (11, _), (12, _), (13, _), (44, _)]) [kany, kany, kany, kany, kany, kany, kany, kany, kany, kany, kany, kany, kpeq _, kpeq _, kpeq _] 12 15 [0, 0, 0, 4, 14, 0, 0, 64, 224, 0, 1023, 2047, 4095, 4095, 8191, 32767] [1, 2, 3, 4, 11, 12, 13, 44] (by kernel_rfl) (by decide) (by kernel_rfl) (.cons rfl (.cons rfl (.cons rfl (.cons rfl (.cons rfl (.cons rfl (.cons rfl (.cons rfl (.nil _))))))))) rfl rfl (hall_skip rfl (hall_skip rfl (hall_skip rfl (hall_skip rfl (hall_skip rfl (hall_skip rfl (hall_skip rfl (hall_skip rfl (hall_skip rfl (hall_skip rfl (hall_skip rfl (hall_skip rfl (hall_cons (hop_val [] [] rfl rfl rfl (by decide) rfl (jnil) (xnil) (fun _ _ _ _ => does_v (rv_extract rfl rfl))) (hall_cons (hop_val [] [] rfl rfl rfl (by decide) rfl (jnil) (xnil) (fun _ _ _ _ => does_v (rv_extract rfl rfl))) (hall_cons (hop_val [(12, 56, _)] [] rfl rfl rfl (by decide) rfl (jcons rfl rfl rfl rfl rfl (jnil)) (xnil) (fun _ _ _ _ => does_v (rv_assign rfl))) (hall_nil)))))))))))))))) (draw_end1 [(13, 57, _), (14, 14, _)] (jcons rfl rfl rfl rfl rfl (jcons rfl rfl rfl rfl rfl (jnil))) ?_)
    refine st_drawTail (N := 15) [0, 0, 0, 4, 14, 0, 0, 64, 224, 0, 1023, 2047, 4095, 4095, 8191, 32767] (by kernel_rfl) (by kernel_rfl) ?_
    refine st_v (rv_assign rfl) (by decide) ?_
    refine st_nil ?_
    refine st_then ?_
    refine st_seq ?_
    refine st_drawStart mixed ?_
    refine st_drawSeg1 (E0 := [(1, _), (2, _), (3, _), (4, _), (11, _), (12, _), (13, _), (14, _), (15, _)]) [kpeq _, kpeq _, kpeq _, kpeq _, kpeq _, kpeq _, kpeq _, kpeq _, kpeq _, kpeq _, kpeq _] 0 11 [0, 0, 0, 4, 14, 0, 0, 0, 128, 448, 0, 2047, 4095, 8191, 8191, 16383, 65535] [1, 2, 3, 4, 11, 12, 13, 14, 15] (by kernel_rfl) (by decide) (by kernel_rfl) (.cons rfl (.cons rfl (.cons rfl (.cons rfl (.cons rfl (.cons rfl (.cons rfl (.cons rfl (.cons rfl (.nil _)))))))))) rfl rfl (hall_cons (hop_mv rfl (by decide) rfl rfl) (hall_cons (hop_mv rfl (by decide) rfl rfl) (hall_cons (hop_mv rfl (by decide) rfl rfl) (hall_cons (hop_val [(2, 61, _)] [] rfl rfl rfl (by decide) rfl (jcons rfl rfl rfl rfl rfl (jnil)) (xnil) (fun _ _ _ _ => does_v (rv_lenB Tryd.underlying9 rfl))) (hall_cons (hop_val [(1, 60, _), (3, 62, _)] [] rfl rfl rfl (by decide) rfl (jcons rfl rfl rfl rfl rfl (jcons rfl rfl rfl rfl rfl (jnil))) (xnil) (fun _ _ _ _ => does_v (rv_sliceR (rd_rd (i := 2) rfl) Tryd.underlying22 sz5 rfl evB_none (evB_some rfl rfl) (by first | omega | (simp [length_lentL] <;> omega)) (by first | omega | (simp [length_lentL] <;> omega))))) (hall_cons (hop_mv rfl (by decide) rfl rfl) (hall_cons (hop_mv rfl (by decide) rfl rfl) (hall_cons (hop_mv rfl (by decide) rfl rfl) (hall_cons (hop_val [(7, 66, _)] [] rfl rfl rfl (by decide) rfl (jcons rfl rfl rfl rfl rfl (jnil)) (xnil) (fun _ _ _ _ => does_v (rv_lenB Tryd.underlying9 rfl))) (hall_cons (hop_val [(6, 65, _), (8, 67, _)] [] rfl rfl rfl (by decide) rfl (jcons rfl rfl rfl rfl rfl (jcons rfl rfl rfl rfl rfl (jnil))) (xnil) (fun _ _ _ _ => does_v (rv_sliceR (rd_rd (i := 1) rfl) Tryd.underlying22 sz5 rfl evB_none (evB_some rfl rfl) (by first | omega | (simp [length_lentL] <;> omega)) (by first | omega | (simp [length_lentL] <;> omega))))) (hall_cons (hop_mv rfl (by decide) rfl rfl) (hall_nil)))))))))))) (draw_end1 [(0, 59, _), (4, 63, _), (5, 64, _), (9, 68, _), (10, 69, _)] (jcons rfl rfl rfl rfl rfl (jcons rfl rfl rfl rfl rfl (jcons rfl rfl rfl rfl rfl (jcons rfl rfl rfl rfl rfl (jcons rfl rfl rfl rfl rfl (jnil)))))) ?_)
    refine st_drawOp [0, 0, 0, 4, 14, 0, 0, 0, 128, 448, 0, 2047, 4095, 8191, 8191, 16383, 65535] (by kernel_rfl) rfl ?_
    refine st_call1 (ρ := Value) (fun r => .tuple #[r, vI 0]) (fun _ => True) (fun r => [own r 5 1 N ((okmW k key (infoW label q N) N).map U8)]) cal43 rfl (fun w hM => ((ELabel_ok k hk _ _ key label q N he hl hkl hql w (hL.at hM) (lentRd (((rd_rd (i := 2) rfl) w hM).part8 (by first | omega | (simp [length_lentL] <;> omega)) (by first | omega | (simp [length_lentL] <;> omega)))) (lentRd (((rd_rd (i := 1) rfl) w hM).part8 (by first | omega | (simp [length_lentL] <;> omega)) (by first | omega | (simp [length_lentL] <;> omega)))))).mono fun e w' ⟨r, h1, h2⟩ => ⟨r, h1, trivial, h2⟩) (by decide) (fun r4 _ => ?_)
    refine st_nil ?_
    refine st_then ?_
    refine st_drawOp [0, 0, 0, 4, 14, 0, 0, 0, 128, 448, 0, 2047, 4095, 8191, 8191, 16383, 65535] (by kernel_rfl) rfl ?_
    refine st_v (rv_move rfl) (by decide) ?_
    refine st_nil ?_
    refine st_then ?_
    refine st_drawSeg1 (E0 := [(1, _), (2, _), (3, _), (4, _), (11, _), (12, _), (13, _), (14, _), (15, _), (58, _)]) [kany, kany, kany, kany, kany, kany, kany, kany, kany, kany, kany, kany, kany, kpeq _, kpeq _, kpeq _] 13 16 [0, 0, 0, 4, 14, 0, 0, 0, 128, 448, 0, 2047, 4095, 8191, 8191, 16383, 65535] [1, 2, 3, 4, 11, 12, 13, 14, 15, 58] (by kernel_rfl) (by decide) (by kernel_rfl) (.cons rfl (.cons rfl (.cons rfl (.cons rfl (.cons rfl (.cons rfl (.cons rfl (.cons rfl (.cons rfl (.cons rfl (.nil _))))))))))) rfl rfl (hall_skip rfl (hall_skip rfl (hall_skip rfl (hall_skip rfl (hall_skip rfl (hall_skip rfl (hall_skip rfl (hall_skip rfl (hall_skip rfl (hall_skip rfl (hall_skip rfl (hall_skip rfl (hall_skip rfl (hall_cons (hop_val [] [] rfl rfl rfl (by decide) rfl (jnil) (xnil) (fun _ _ _ _ => does_v (rv_extract rfl rfl))) (hall_cons (hop_val [] [] rfl rfl rfl (by decide) rfl (jnil) (xnil) (fun _ _ _ _ => does_v (rv_extract rfl rfl))) (hall_cons (hop_val [(13, 71, _)] [] rfl rfl rfl (by decide) rfl (jcons rfl rfl rfl rfl rfl (jnil)) (xnil) (fun _ _ _ _ => does_v (rv_assign rfl))) (hall_nil))))))))))))))))) (draw_end1 [(14, 72, _), (15, 16, _)] (jcons rfl rfl rfl rfl rfl (jcons rfl rfl rfl rfl rfl (jnil))) ?_)
    refine st_drawTail (N := 16) [0, 0, 0, 4, 14, 0, 0, 0, 128, 448, 0, 2047, 4095, 8191, 8191, 16383, 65535] (by kernel_rfl) (by kernel_rfl) ?_
    refine st_v (rv_assign rfl) (by decide) ?_
    refine st_nil ?_
    refine st_then ?_
    refine st_seq ?_
    refine st_region ?_
    refine st_v (rv_move rfl) (by decide) ?_
    refine st_v (rv_move rfl) (by decide) ?_
    refine st_call0 cal14 rfl (fun w hM => (still_calls _ key (by omega) w ((rd_rd (i := 3) rfl) w hM))) (by decide) ?_
    refine st_v (rv_assign rfl) (by decide) ?_
    refine st_nil ?_
    refine st_then ?_
    refine st_seq ?_
    refine st_region ?_
    refine st_v (rv_move rfl) (by decide) ?_
    refine st_v (rv_move rfl) (by decide) ?_
    refine st_call0 cal14 rfl (fun w hM => (still_calls _ q (by omega) w ((rd_rd (i := 2) rfl) w hM))) (by decide) ?_
    refine st_v (rv_assign rfl) (by decide) ?_
    refine st_nil ?_
    refine st_then ?_
    refine st_seq ?_
    refine st_seq ?_
    refine st_region ?_
    refine st_v (rv_move rfl) (by decide) ?_
    refine st_v (rv_not rfl) (by decide) ?_
    refine st_v (rv_move rfl) (by decide) ?_
    refine' st_or 3 (L := _) (s := 81) (d := 84) [1, 2, 3, 4, 11, 14, 15, 16, 17] rfl (fun hg3 => ?_) (fun _ => ?_) ?_; rotate_left
    · -- true
      refine st_gskip rfl rfl rfl (by decide) ?_
      refine st_gskip rfl rfl rfl (by decide) ?_
      first | refine st_v (rv_pick_true rfl rfl) (by decide) ?_ | refine st_v (rv_pick_false rfl rfl) (by decide) ?_ | refine st_v (rv_pick rfl rfl rfl) (by decide) ?_
      refine st_nil ?_
      exact st_meet_b (.cons rfl (.cons rfl (.cons rfl (.cons rfl (.cons rfl (.cons rfl (.cons rfl (.cons rfl (.cons rfl (.cons rfl (.nil _)))))))))))
    · -- false
      refine st_gon rfl rfl ?_
      refine st_v (rv_move rfl) (by decide) ?_
      refine st_gon rfl rfl ?_
      refine st_v (rv_not rfl) (by decide) ?_
      first | refine st_v (rv_pick_true rfl rfl) (by decide) ?_ | refine st_v (rv_pick_false rfl rfl) (by decide) ?_ | refine st_v (rv_pick rfl rfl rfl) (by decide) ?_
      refine st_nil ?_
      exact st_meet_b (.cons rfl (.cons rfl (.cons rfl (.cons rfl (.cons rfl (.cons rfl (.cons rfl (.cons rfl (.cons rfl (.cons rfl (.nil _)))))))))))
    refine st_nil ?_
    refine st_then ?_
    refine st_false rfl ?_
    refine st_skip ?_
    refine st_then ?_
    refine st_seq ?_
    refine st_region ?_
    refine st_v (rv_move rfl) (by decide) ?_
    refine st_call0 cal28 rfl (fun w hM => (rKnown_ok hk w)) (by decide) ?_
    refine st_v (rv_assign rfl) (by decide) ?_
    refine st_nil ?_
    refine st_then ?_
    refine st_seq ?_
    refine st_seq ?_
    refine st_region ?_
    refine st_v (rv_move rfl) (by decide) ?_
    refine st_v (rv_not rfl) (by decide) ?_
    refine st_nil ?_
    refine st_then ?_
    refine st_false rfl ?_
    refine st_skip ?_
    refine st_then ?_
    refine st_seq ?_
    refine st_region ?_
    refine st_v (rv_move rfl) (by decide) ?_
    refine st_call1 (ρ := Nat × Value × Value) (fun r => pt r.1 0) (fun _ => True) (fun r => [hrA k r.1 r.2.1 r.2.2]) cal40 rfl (fun w hM => ((Make_calls k hk w)).mono fun e w' ⟨r, h1, h2⟩ => ⟨r, h1, trivial, h2⟩) (by decide) (fun r5 _ => ?_)
    refine st_v (rv_assign rfl) (by decide) ?_
    refine st_nil ?_
    refine st_then ?_
    refine st_seq ?_
    refine st_region ?_
    refine st_v (rv_move rfl) (by decide) ?_
    refine st_v (rv_move rfl) (by decide) ?_
    refine st_call0 cal44 rfl (fun w hM => (by have := rLong_calls k hk (N : Nat) w; rwa [hl] at this)) (by decide) ?_
    refine st_v (rv_assign rfl) (by decide) ?_
    refine st_nil ?_
    refine st_then ?_
    refine st_seq ?_
    refine st_region ?_
    refine st_v (rv_move rfl) (by decide) ?_
    refine st_v (rv_move rfl) (by decide) ?_
    refine st_v (rv_move rfl) (by decide) ?_
    refine st_v (rv_move rfl) (by decide) ?_
    refine st_call0 cal45 rfl (fun w hM => (by have := rLongLabel_calls k hk label q (N : Nat) w; rwa [hl, he] at this)) (by decide) ?_
    refine st_v (rv_assign rfl) (by decide) ?_
    refine st_nil ?_
    refine st_then ?_
    refine st_seq ?_
    refine st_seq ?_
    refine st_region ?_
    refine st_v (rv_move rfl) (by decide) ?_
    refine st_v (rv_move rfl) (by decide) ?_
    refine st_gskip rfl rfl rfl (by decide) ?_
    refine st_gskip rfl rfl rfl (by decide) ?_
    refine st_gskip rfl rfl rfl (by decide) ?_
    refine st_gskip rfl rfl rfl (by decide) ?_
    refine st_gskipU rfl rfl (by decide) ?_
    refine st_gskipU rfl rfl (by decide) ?_
    refine st_gskip rfl rfl rfl (by decide) ?_
    first | refine st_v (rv_pick_true rfl rfl) (by decide) ?_ | refine st_v (rv_pick_false rfl rfl) (by decide) ?_ | refine st_v (rv_pick rfl rfl rfl) (by decide) ?_
    refine st_nil ?_
    refine st_then ?_
    refine st_false rfl ?_
    refine st_skip ?_
    refine st_then ?_
    refine st_seq ?_
    refine st_seq ?_
    refine st_region ?_
    refine st_v (rv_move rfl) (by decide) ?_
    refine st_v (rv_move rfl) (by decide) ?_
    refine st_gskip rfl rfl rfl (by decide) ?_
    refine st_gskip rfl rfl rfl (by decide) ?_
    refine st_gskip rfl rfl rfl (by decide) ?_
    refine st_gskip rfl rfl rfl (by decide) ?_
    refine st_gskipU rfl rfl (by decide) ?_
    refine st_gskipU rfl rfl (by decide) ?_
    refine st_gskip rfl rfl rfl (by decide) ?_
    first | refine st_v (rv_pick_true rfl rfl) (by decide) ?_ | refine st_v (rv_pick_false rfl rfl) (by decide) ?_ | refine st_v (rv_pick rfl rfl rfl) (by decide) ?_
    refine st_nil ?_
    refine st_then ?_
    refine st_false rfl ?_
    refine st_skip ?_
    refine st_then ?_
    refine st_seq ?_
    refine st_seq ?_
    refine st_region ?_
    refine st_v (rv_move rfl) (by decide) ?_
    refine st_v (rv_not rfl) (by decide) ?_
    refine st_nil ?_
    refine st_then ?_
    refine st_true rfl ?_
    refine st_seq ?_
    refine st_region ?_
    refine st_v (rv_move rfl) (by decide) ?_
    refine st_v (rv_move rfl) (by decide) ?_
    refine st_v (rv_move rfl) (by decide) ?_
    refine st_v (rv_move rfl) (by decide) ?_
    refine st_call0 cal46 rfl (fun w hM => (rExpand_calls k hk _ _ _ key q N (longZ_false hl) hkl hql w (hM.at (i := 0) rfl))) (by decide) ?_
    refine st_v (rv_assign rfl) (by decide) ?_
    refine st_nil ?_
    refine st_then ?_
    refine st_seq ?_
    refine st_region ?_
    refine st_v (rv_move rfl) (by decide) ?_
    refine st_v (rv_string (rd_own (i := 2) rfl) Tryd.underlying22 Tryd.underlying9 Tryd.underlying5 rfl) (by decide) ?_
    refine st_v (rv_move rfl) (by decide) ?_
    refine st_v (rv_to (rv_neqB rfl rfl) (u := .bool false) (by simp)) (by decide) ?_
    refine st_v (rv_move rfl) (by decide) ?_
    refine st_gon rfl rfl ?_
    refine st_v (rv_move rfl) (by decide) ?_
    refine st_gon rfl rfl ?_
    refine st_v (rv_neqZ rfl rfl) (by decide) ?_
    first | refine st_v (rv_pick_true rfl rfl) (by decide) ?_ | refine st_v (rv_pick_false rfl rfl) (by decide) ?_ | refine st_v (rv_pick rfl rfl rfl) (by decide) ?_
    refine st_nil ?_
    refine st_then ?_
    refine st_false rfl ?_
    refine st_skip ?_
    refine st_then ?_
    refine st_seq ?_
    refine st_seq ?_
    refine st_region ?_
    refine st_v (rv_move rfl) (by decide) ?_
    refine st_v (rv_not rfl) (by decide) ?_
    refine st_nil ?_
    refine st_then ?_
    refine st_true rfl ?_
    refine st_seq ?_
    refine st_region ?_
    refine st_v (rv_move rfl) (by decide) ?_
    refine st_v (rv_move rfl) (by decide) ?_
    refine st_v (rv_move rfl) (by decide) ?_
    refine st_v (rv_move rfl) (by decide) ?_
    refine st_v (rv_move rfl) (by decide) ?_
    refine st_call0 cal47 rfl (fun w hM => (rELabel_calls k hk _ _ _ key label q N (longZ_false hl) he hkl w (hM.at (i := 0) rfl))) (by decide) ?_
    refine st_v (rv_assign rfl) (by decide) ?_
    refine st_nil ?_
    refine st_then ?_
    refine st_seq ?_
    refine st_region ?_
    refine st_v (rv_move rfl) (by decide) ?_
    refine st_v (rv_string (rd_own (i := 1) rfl) Tryd.underlying22 Tryd.underlying9 Tryd.underlying5 rfl) (by decide) ?_
    refine st_v (rv_move rfl) (by decide) ?_
    refine st_v (rv_to (rv_neqB rfl rfl) (u := .bool false) (by simp)) (by decide) ?_
    refine st_v (rv_move rfl) (by decide) ?_
    refine st_gon rfl rfl ?_
    refine st_v (rv_move rfl) (by decide) ?_
    refine st_gon rfl rfl ?_
    refine st_v (rv_neqZ rfl rfl) (by decide) ?_
    first | refine st_v (rv_pick_true rfl rfl) (by decide) ?_ | refine st_v (rv_pick_false rfl rfl) (by decide) ?_ | refine st_v (rv_pick rfl rfl rfl) (by decide) ?_
    refine st_nil ?_
    refine st_then ?_
    refine st_false rfl ?_
    refine st_skip ?_
    refine st_then ?_
    refine st_seq ?_
    refine st_region ?_
    refine st_v (rv_assign rfl) (by decide) ?_
    refine st_nil ?_
    refine st_then ?_
    refine st_ret ?_
    exact st_done rfl rfl (fun w hM => ⟨by first | (simp; done) | rfl, hM.sublist (List.nil_sublist _)⟩)
theorem hashExpands_walk (z : Int) (key label q : List (BitVec 8)) (n : Int) (w : World) (hL : LaidH w) : Calls Tryd.prog 10 #[vI z, vS key, vS label, vS q, vI n] w (fun e w' => e = .returned (.bool true) ∧ Mem (All w) w w' []) := by
  cases h : knownZ z with
  | false => exact hashExpands_bad z h key label q n w hL
  | true =>
    obtain ⟨k, hk, rfl⟩ := knownZ_true h
    cases hl : longZ k n with
    | true =>
      cases he : elongZ n label q with
      | true => exact hashExpands1 k hk key label q n hl he w hL
      | false =>
        have h0 := (elongZ_false he).1
        obtain ⟨N, rfl⟩ : ∃ N : Nat, n = N := ⟨n.toNat, by omega⟩
        exact hashExpands2 k hk key label q N hl he w hL
    | false =>
      have h0 : 0 ≤ n := by
        simp only [longZ, Bool.or_eq_false_iff, decide_eq_false_iff_not] at hl; omega
      obtain ⟨N, rfl⟩ : ∃ N : Nat, n = N := ⟨n.toNat, by omega⟩
      cases he : elongZ (N : Int) label q with
      | true => exact hashExpands3 k hk key label q N hl he w hL
      | false => exact hashExpands4 k hk key label q N hl he w hL
end Go.Proofs.YtjhjjhpfjadjpaaDoor
