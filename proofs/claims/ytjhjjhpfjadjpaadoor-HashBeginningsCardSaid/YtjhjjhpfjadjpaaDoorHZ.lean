/- Walks: what functions of the given program do, operation by operation. Written by wip/gen. -/
import Derived.Test.YtjhjjhpfjadjpaaDoorHO
import Derived.Test.YtjhjjhpfjadjpaaDoorVW
namespace Go.Proofs.YtjhjjhpfjadjpaaDoor
set_option linter.all false
open Go
theorem hsize_le_hbsB (k : Nat) : hsize k ≤ hbs k := by
  unfold hsize hbs; split <;> simp_all
theorem key0_of {k : Nat} (key : List (BitVec 8)) (h : (keyN k key).length ≤ hbs k) : key0 k key = keyN k key ++ List.replicate (hbs k - (keyN k key).length) 0#8 := by
  rw [key0, Nat.min_eq_right h, List.take_of_length_le (Nat.le_refl _), over]
  simp
/-- a key longer than a block counts as its hash -/
theorem hmac_long {k : Nat} (hk : k ≤ 2) (key s : List (BitVec 8)) (h : hbs k < key.length) : hmacW k (hsum k key) s = hmacW k key s := by
  have h1 := hsize_le_hbsB k
  have e1 : keyN k (hsum k key) = hsum k key := by rw [keyN, if_neg (by rw [length_hsum hk]; omega)]
  have e2 : keyN k key = hsum k key := by rw [keyN, if_pos h]
  rw [hmacW, hmacW, kpad, kpad, kpad, kpad, key0, key0, e1, e2]
/-- a key shorter than a block may have a zero behind it -/
theorem hmac_short {k : Nat} (key s : List (BitVec 8)) (h : key.length < hbs k) : hmacW k (key ++ [0#8]) s = hmacW k key s := by
  have e1 : keyN k (key ++ [0#8]) = key ++ [0#8] := by rw [keyN, if_neg (by simp; omega)]
  have e2 : keyN k key = key := by rw [keyN, if_neg (by omega)]
  have e3 : key0 k (key ++ [0#8]) = key0 k key := by
    rw [key0_of _ (by rw [e1]; simp; omega), key0_of _ (by rw [e2]; omega), e1, e2, List.append_assoc]
    congr 1
    show List.replicate 1 0#8 ++ _ = _
    rw [List.replicate_append_replicate]
    congr 1
    simp; omega
  rw [hmacW, hmacW, kpad, kpad, kpad, kpad, e3]
theorem okm_pre {k : Nat} (hk : k ≤ 2) (key s : List (BitVec 8)) (n m : Nat) : (okmW k key s (n + m)).take n = okmW k key s n := by
  have h32 := hsize_ge k
  rw [okmW, List.take_take, Nat.min_eq_left (Nat.le_add_right n m)]
  exact outW_take hk key s (n + m) n (by rw [length_outW hk]; exact Nat.le_trans (Nat.le_add_right n m) (Nat.le_mul_of_pos_right _ (by omega)))
theorem longZ_of {k N : Nat} (h : N ≤ 8160) : longZ k N = false := by
  have := hsize_ge k
  simp only [longZ, Bool.or_eq_false_iff, decide_eq_false_iff_not]; omega
theorem hs0_0 : (hsum 0 []).getD 0 0#8 = 227#8 := by decide +kernel
theorem hs0_1 : (hsum 0 []).getD 1 0#8 = 176#8 := by decide +kernel
theorem hs0_n : (hsum 0 []).length = 32 := length_hsum (by omega) _
set_option maxRecDepth 20000 in
set_option maxHeartbeats 2000000 in
theorem hashBeginnings_walk (z : Int) (key s : List (BitVec 8)) (x y : Int) (hz : -9223372036854775808 ≤ z ∧ z ≤ 9223372036854775807) (hx : -9223372036854775808 ≤ x ∧ x ≤ 9223372036854775807) (hy : -9223372036854775808 ≤ y ∧ y ≤ 9223372036854775807) (w : World) (hL : LaidH w) : Calls Tryd.prog 9 #[vI z, vS key, vS s, vI x, vI y] w (fun e w' => e = .returned (.bool true) ∧ Mem (All w) w w' []) := by
  have hs0 := hs0_n
  have hbs8 := hbs_le
  have hsz8 := hsize_le
  refine calls_of_st (n := 177) (args := [vI z, vS key, vS s, vI x, vI y]) Tryd.func9 rfl Tryd.ntmps9 (Nat.le_of_ble_eq_true rfl) (Mem.all w) ?_
  refine st_seq ?_
  refine st_region ?_
  refine st_v (rv_assign rfl) (by decide) ?_
  refine st_nil ?_
  refine st_then ?_
  refine st_seq ?_
  refine st_seq ?_
  refine st_region ?_
  refine st_v (rv_move rfl) (by decide) ?_
  refine st_v (rv_lenB Tryd.underlying9 rfl) (by decide) ?_
  refine st_v (rv_gtrZ rfl rfl) (by decide) ?_
  refine st_v (rv_move rfl) (by decide) ?_
  refine' st_or 4 (L := _) (s := 27) (d := 31) [0, 1, 2, 3, 4] rfl (fun hg4 => ?_) (fun _ => ?_) ?_; rotate_left
  · -- true
    refine st_gskip rfl rfl rfl (by decide) ?_
    refine st_gskip rfl rfl rfl (by decide) ?_
    refine st_gskip rfl rfl rfl (by decide) ?_
    first | refine st_v (rv_pick_true rfl rfl) (by decide) ?_ | refine st_v (rv_pick_false rfl rfl) (by decide) ?_ | refine st_v (rv_pick rfl rfl rfl) (by decide) ?_
    refine st_nil ?_
    exact st_meet_b (.cons rfl (.cons rfl (.cons rfl (.cons rfl (.cons rfl (.cons rfl (.nil _)))))))
  · -- false
    refine st_gon rfl rfl ?_
    refine st_v (rv_move rfl) (by decide) ?_
    refine st_gon rfl rfl ?_
    refine st_v (rv_lenB Tryd.underlying9 rfl) (by decide) ?_
    refine st_gon rfl rfl ?_
    refine st_v (rv_gtrZ rfl rfl) (by decide) ?_
    first | refine st_v (rv_pick_true rfl rfl) (by decide) ?_ | refine st_v (rv_pick_false rfl rfl) (by decide) ?_ | refine st_v (rv_pick rfl rfl rfl) (by decide) ?_
    refine st_nil ?_
    exact st_meet_b (.cons rfl (.cons rfl (.cons rfl (.cons rfl (.cons rfl (.cons rfl (.nil _)))))))
  refine st_nil ?_
  refine st_then ?_
  refine st_cond rfl (fun hc31 => ?_) (fun hc31 => ?_)
  · -- t31 True
    try simp only [z1, z2, z3, z4, z5, z6, z7, z8, z9, z10, z11, z12, z13, z14] at hc31
    refine st_seq ?_
    refine st_region ?_
    refine st_v (rv_assign rfl) (by decide) ?_
    refine st_nil ?_
    refine st_then ?_
    refine st_ret ?_
    refine st_then_ret ?_
    exact st_done rfl rfl (fun w hM => ⟨by first | (simp; done) | rfl, hM.sublist (List.nil_sublist _)⟩)
  · -- t31 False
    try simp only [z1, z2, z3, z4, z5, z6, z7, z8, z9, z10, z11, z12, z13, z14] at hc31
    obtain ⟨hlt, hla⟩ := hc31
    refine st_skip ?_
    refine st_then ?_
    refine st_seq ?_
    refine st_region ?_
    refine st_call1 (ρ := Value) (fun r => .tuple #[r, vI 0]) (fun _ => True) (fun r => [own r 5 1 32 ((hsum 0 []).map U8)]) cal32 rfl (fun w hM => ((Sum_ok 0 (by decide) _ [] (by simp) w (hL.at hM) (Rd.nil w 1))).mono fun e w' ⟨r, h1, h2⟩ => ⟨r, h1, trivial, h2⟩) (by decide) (fun r1 _ => ?_)
    refine st_v (rv_move rfl) (by decide) ?_
    refine st_v (rv_extract rfl rfl) (by decide) ?_
    refine st_v (rv_extract rfl rfl) (by decide) ?_
    refine st_v (rv_assign rfl) (by decide) ?_
    refine st_v (rv_assign rfl) (by decide) ?_
    refine st_nil ?_
    refine st_then ?_
    refine st_seq ?_
    refine st_seq ?_
    refine st_region ?_
    refine st_v (rv_move rfl) (by decide) ?_
    refine st_v (rv_neqZ rfl rfl) (by decide) ?_
    refine st_v (rv_move rfl) (by decide) ?_
    refine st_gon rfl rfl ?_
    refine st_v (rv_move rfl) (by decide) ?_
    refine st_gon rfl rfl ?_
    refine st_v (rv_lenR (rd_own (i := 0) rfl) Tryd.underlying22 rfl) (by decide) ?_
    refine st_gon rfl rfl ?_
    refine st_v (rv_to (u := .bool false) (rv_neqZ rfl rfl) (by simp)) (by decide) ?_
    first | refine st_v (rv_pick_true rfl rfl) (by decide) ?_ | refine st_v (rv_pick_false rfl rfl) (by decide) ?_ | refine st_v (rv_pick rfl rfl rfl) (by decide) ?_
    refine st_v (rv_move rfl) (by decide) ?_
    refine st_gon rfl rfl ?_
    refine st_v (rv_move rfl) (by decide) ?_
    refine st_gon rfl rfl ?_
    refine st_v (rv_indexR1 (rd_own (i := 0) rfl) Tryd.underlying22 sz5 rfl rfl (j := 0) rfl (by first | omega | (simp <;> omega))) (by decide) ?_
    refine st_gon rfl rfl ?_
    refine st_v (rv_load_rd (rd_own (i := 0) rfl) tyS5 rfl (get8 (by first | omega | (simp <;> omega)))) (by decide) ?_
    refine st_gon rfl rfl ?_
    refine st_v (rv_to (u := .bool false) (rv_neq8 (b := 227#8) rfl rfl) (by rw [hs0_0]; simp)) (by decide) ?_
    first | refine st_v (rv_pick_true rfl rfl) (by decide) ?_ | refine st_v (rv_pick_false rfl rfl) (by decide) ?_ | refine st_v (rv_pick rfl rfl rfl) (by decide) ?_
    refine st_v (rv_move rfl) (by decide) ?_
    refine st_gon rfl rfl ?_
    refine st_v (rv_move rfl) (by decide) ?_
    refine st_gon rfl rfl ?_
    refine st_v (rv_indexR1 (rd_own (i := 0) rfl) Tryd.underlying22 sz5 rfl rfl (j := 1) rfl (by first | omega | (simp <;> omega))) (by decide) ?_
    refine st_gon rfl rfl ?_
    refine st_v (rv_load_rd (rd_own (i := 0) rfl) tyS5 rfl (get8 (by first | omega | (simp <;> omega)))) (by decide) ?_
    refine st_gon rfl rfl ?_
    refine st_v (rv_to (u := .bool false) (rv_neq8 (b := 176#8) rfl rfl) (by rw [hs0_1]; simp)) (by decide) ?_
    first | refine st_v (rv_pick_true rfl rfl) (by decide) ?_ | refine st_v (rv_pick_false rfl rfl) (by decide) ?_ | refine st_v (rv_pick rfl rfl rfl) (by decide) ?_
    refine st_nil ?_
    refine st_then ?_
    refine st_false rfl ?_
    refine st_skip ?_
    refine st_then ?_
    refine st_cutB (σ := Nat) [(1, _), (2, _), (3, _), (4, _)] [_] (.cons rfl (.cons rfl (.cons rfl (.cons rfl (.nil _))))) (fun w hM => hM.sublist (List.Sublist.cons_cons _ (List.Sublist.slnil))) [(0, fun p => vI p)] [] (fun p => p ≤ 9223372036854775807) ?_ ?_
    · -- up to the cut
      refine st_seq ?_
      refine st_region ?_
      refine st_v (rv_move rfl) (by decide) ?_
      refine st_v (rv_lssZ rfl rfl) (by decide) ?_
      refine st_nil ?_
      refine st_then ?_
      refine st_cond rfl (fun hc56 => ?_) (fun hc56 => ?_)
      · -- t56 True
        try simp only [z1, z2, z3, z4, z5, z6, z7, z8, z9, z10, z11, z12, z13, z14] at hc56
        refine st_region ?_
        refine st_v (rv_move rfl) (by decide) ?_
        first | refine st_v (rv_addN (b := 1) rfl rfl (by first | omega | (simp; done) | (simp; omega))) (by decide) ?_ | refine st_v (rv_addZ rfl rfl (by first | omega | (simp; done) | (simp; omega))) (by decide) ?_
        refine st_v (rv_negZ rfl (by first | omega | (simp; done) | (simp; omega))) (by decide) ?_
        refine st_v (rv_assign rfl) (by decide) ?_
        refine st_nil ?_
        refine st_then ?_
        exact st_meet (-(z + 1)).toNat (by omega) (SubE.cons (congrArg some (congrArg (fun z : Int => vI z) (by omega))) (.cons rfl (.cons rfl (.cons rfl (.cons rfl (.nil _)))))) (fun _ hM => hM)
      · -- t56 False
        try simp only [z1, z2, z3, z4, z5, z6, z7, z8, z9, z10, z11, z12, z13, z14] at hc56
        refine st_skip ?_
        refine st_then ?_
        exact st_meet z.toNat (by omega) (SubE.cons (congrArg some (congrArg (fun z : Int => vI z) (by omega))) (.cons rfl (.cons rfl (.cons rfl (.cons rfl (.nil _)))))) (fun _ hM => hM)
    · -- behind the cut
      intro p hI
      try dsimp only at hI
      dsimp only [List.map, List.cons_append, List.nil_append]
      refine st_seq ?_
      refine st_region ?_
      refine st_v (rv_move rfl) (by decide) ?_
      refine st_v (rv_remN (b := 3) rfl rfl (by first | omega | (simp; done) | (simp; omega))) (by decide) ?_
      have hk3 : p % 3 ≤ 2 := by omega
      refine st_v (rv_assign rfl) (by decide) ?_
      refine st_nil ?_
      refine st_then ?_
      refine st_cutB (σ := Nat) [(1, _), (2, _), (4, _), (13, _)] [_] (.cons rfl (.cons rfl (.cons rfl (.cons rfl (.nil _))))) (fun w hM => hM.sublist (List.Sublist.cons_cons _ (List.Sublist.slnil))) [(3, fun n => vI n)] [] (fun n => n ≤ 9223372036854775807) ?_ ?_
      · -- up to the cut
        refine st_seq ?_
        refine st_region ?_
        refine st_v (rv_move rfl) (by decide) ?_
        refine st_v (rv_lssZ rfl rfl) (by decide) ?_
        refine st_nil ?_
        refine st_then ?_
        refine st_cond rfl (fun hc63 => ?_) (fun hc63 => ?_)
        · -- t63 True
          try simp only [z1, z2, z3, z4, z5, z6, z7, z8, z9, z10, z11, z12, z13, z14] at hc63
          refine st_region ?_
          refine st_v (rv_move rfl) (by decide) ?_
          first | refine st_v (rv_addN (b := 1) rfl rfl (by first | omega | (simp; done) | (simp; omega))) (by decide) ?_ | refine st_v (rv_addZ rfl rfl (by first | omega | (simp; done) | (simp; omega))) (by decide) ?_
          refine st_v (rv_negZ rfl (by first | omega | (simp; done) | (simp; omega))) (by decide) ?_
          refine st_v (rv_assign rfl) (by decide) ?_
          refine st_nil ?_
          refine st_then ?_
          exact st_meet (-(x + 1)).toNat (by omega) (SubE.cons (congrArg some (congrArg (fun z : Int => vI z) (by omega))) (.cons rfl (.cons rfl (.cons rfl (.cons rfl (.nil _)))))) (fun _ hM => hM)
        · -- t63 False
          try simp only [z1, z2, z3, z4, z5, z6, z7, z8, z9, z10, z11, z12, z13, z14] at hc63
          refine st_skip ?_
          refine st_then ?_
          exact st_meet x.toNat (by omega) (SubE.cons (congrArg some (congrArg (fun z : Int => vI z) (by omega))) (.cons rfl (.cons rfl (.cons rfl (.cons rfl (.nil _)))))) (fun _ hM => hM)
      · -- behind the cut
        intro n hI
        try dsimp only at hI
        dsimp only [List.map, List.cons_append, List.nil_append]
        refine st_cutB (σ := Nat) [(1, _), (2, _), (3, _), (13, _)] [_] (.cons rfl (.cons rfl (.cons rfl (.cons rfl (.nil _))))) (fun w hM => hM.sublist (List.Sublist.cons_cons _ (List.Sublist.slnil))) [(4, fun m => vI m)] [] (fun m => m ≤ 9223372036854775807) ?_ ?_
        · -- up to the cut
          refine st_seq ?_
          refine st_region ?_
          refine st_v (rv_move rfl) (by decide) ?_
          refine st_v (rv_lssZ rfl rfl) (by decide) ?_
          refine st_nil ?_
          refine st_then ?_
          refine st_cond rfl (fun hc68 => ?_) (fun hc68 => ?_)
          · -- t68 True
            try simp only [z1, z2, z3, z4, z5, z6, z7, z8, z9, z10, z11, z12, z13, z14] at hc68
            refine st_region ?_
            refine st_v (rv_move rfl) (by decide) ?_
            first | refine st_v (rv_addN (b := 1) rfl rfl (by first | omega | (simp; done) | (simp; omega))) (by decide) ?_ | refine st_v (rv_addZ rfl rfl (by first | omega | (simp; done) | (simp; omega))) (by decide) ?_
            refine st_v (rv_negZ rfl (by first | omega | (simp; done) | (simp; omega))) (by decide) ?_
            refine st_v (rv_assign rfl) (by decide) ?_
            refine st_nil ?_
            refine st_then ?_
            exact st_meet (-(y + 1)).toNat (by omega) (SubE.cons (congrArg some (congrArg (fun z : Int => vI z) (by omega))) (.cons rfl (.cons rfl (.cons rfl (.cons rfl (.nil _)))))) (fun _ hM => hM)
          · -- t68 False
            try simp only [z1, z2, z3, z4, z5, z6, z7, z8, z9, z10, z11, z12, z13, z14] at hc68
            refine st_skip ?_
            refine st_then ?_
            exact st_meet y.toNat (by omega) (SubE.cons (congrArg some (congrArg (fun z : Int => vI z) (by omega))) (.cons rfl (.cons rfl (.cons rfl (.cons rfl (.nil _)))))) (fun _ hM => hM)
        · -- behind the cut
          intro m hI
          try dsimp only at hI
          dsimp only [List.map, List.cons_append, List.nil_append]
          refine st_seq ?_
          refine st_region ?_
          refine st_v (rv_move rfl) (by decide) ?_
          refine st_v (rv_remN (b := 2000) rfl rfl (by first | omega | (simp; done) | (simp; omega))) (by decide) ?_
          refine st_v (rv_assign rfl) (by decide) ?_
          refine st_nil ?_
          refine st_then ?_
          refine st_seq ?_
          refine st_region ?_
          refine st_v (rv_move rfl) (by decide) ?_
          refine st_v (rv_move rfl) (by decide) ?_
          refine st_v (rv_remN (b := 2000) rfl rfl (by first | omega | (simp; done) | (simp; omega))) (by decide) ?_
          first | refine st_v (rv_addN rfl rfl (by first | omega | (simp; done) | (simp; omega))) (by decide) ?_ | refine st_v (rv_addZ rfl rfl (by first | omega | (simp; done) | (simp; omega))) (by decide) ?_
          refine st_v (rv_assign rfl) (by decide) ?_
          refine st_nil ?_
          refine st_then ?_
          refine st_seq ?_
          refine st_region ?_
          refine st_v (rv_move rfl) (by decide) ?_
          refine st_v (rv_move rfl) (by decide) ?_
          refine st_bytes Tryd.underlying9 Tryd.underlying22 Tryd.underlying5 rfl (by decide) (fun v2 => ?_)
          refine st_v (rv_move rfl) (by decide) ?_
          refine st_bytes Tryd.underlying9 Tryd.underlying22 Tryd.underlying5 rfl (by decide) (fun v3 => ?_)
          refine st_v (rv_move rfl) (by decide) ?_
          refine st_call1 (ρ := Value) (fun r => .tuple #[r, vI 0]) (fun _ => True) (fun r => [own r 5 1 (n % 2000) ((okmW (p % 3) key s (n % 2000)).map U8)]) cal42 rfl (fun w hM => ((Expand_ok (p % 3) hk3 _ _ key s (n % 2000) (longZ_of (by omega)) (by omega) (by omega) w (hL.at hM) ((rd_own (i := 1) rfl) w hM) ((rd_own (i := 0) rfl) w hM))).mono fun e w' ⟨r, h1, h2⟩ => ⟨r, h1, trivial, h2⟩) (by decide) (fun r4 _ => ?_)
          refine st_v (rv_move rfl) (by decide) ?_
          refine st_v (rv_extract rfl rfl) (by decide) ?_
          refine st_v (rv_extract rfl rfl) (by decide) ?_
          refine st_v (rv_assign rfl) (by decide) ?_
          refine st_v (rv_assign rfl) (by decide) ?_
          refine st_nil ?_
          refine st_then ?_
          refine st_seq ?_
          refine st_region ?_
          refine st_v (rv_move rfl) (by decide) ?_
          refine st_v (rv_move rfl) (by decide) ?_
          refine st_bytes Tryd.underlying9 Tryd.underlying22 Tryd.underlying5 rfl (by decide) (fun v5 => ?_)
          refine st_v (rv_move rfl) (by decide) ?_
          refine st_bytes Tryd.underlying9 Tryd.underlying22 Tryd.underlying5 rfl (by decide) (fun v6 => ?_)
          refine st_v (rv_move rfl) (by decide) ?_
          refine st_call1 (ρ := Value) (fun r => .tuple #[r, vI 0]) (fun _ => True) (fun r => [own r 5 1 (n % 2000 + m % 2000) ((okmW (p % 3) key s (n % 2000 + m % 2000)).map U8)]) cal42 rfl (fun w hM => ((Expand_ok (p % 3) hk3 _ _ key s (n % 2000 + m % 2000) (longZ_of (by omega)) (by omega) (by omega) w (hL.at hM) ((rd_own (i := 1) rfl) w hM) ((rd_own (i := 0) rfl) w hM))).mono fun e w' ⟨r, h1, h2⟩ => ⟨r, h1, trivial, h2⟩) (by decide) (fun r7 _ => ?_)
          refine st_v (rv_move rfl) (by decide) ?_
          refine st_v (rv_extract rfl rfl) (by decide) ?_
          refine st_v (rv_extract rfl rfl) (by decide) ?_
          refine st_v (rv_assign rfl) (by decide) ?_
          refine st_v (rv_assign rfl) (by decide) ?_
          refine st_nil ?_
          refine st_then ?_
          refine st_seq ?_
          refine st_seq ?_
          refine st_drawStart mixed ?_
          refine st_drawSeg1 (E0 := [(1, _), (2, _), (3, _), (4, _), (12, _), (13, _), (14, _), (15, _), (16, _)]) [kpeq _, kpeq _, kpeq _] 0 3 [0, 1, 0, 7, 15, 31, 63, 31, 255, 511, 1023, 2047, 4095, 8191, 16383, 32767, 65535, 131071, 262143, 524287, 524287, 2097151, 4194303, 524287, 8912895, 33554431, 67108863] [1, 2, 3, 4, 12, 13, 14, 15, 16] (by kernel_rfl) (by decide) (by kernel_rfl) (.cons rfl (.cons rfl (.cons rfl (.cons rfl (.cons rfl (.cons rfl (.cons rfl (.cons rfl (.cons rfl (.nil _)))))))))) rfl rfl (hall_cons (hop_mv rfl (by decide) rfl rfl) (hall_cons (hop_val [(0, 98, _)] [] rfl rfl rfl (by decide) rfl (jcons rfl rfl rfl rfl rfl (jnil)) (xnil) (fun _ _ _ _ => does_v (rv_lenR (rd_own (i := 3) rfl) Tryd.underlying22 rfl))) (hall_cons (hop_mv rfl (by decide) rfl rfl) (hall_nil)))) (draw_end1 [(1, 99, _), (2, 100, _)] (jcons rfl rfl rfl rfl rfl (jcons rfl rfl rfl rfl rfl (jnil))) ?_)
          refine st_drawOp [0, 1, 0, 7, 15, 31, 63, 31, 255, 511, 1023, 2047, 4095, 8191, 16383, 32767, 65535, 131071, 262143, 524287, 524287, 2097151, 4194303, 524287, 8912895, 33554431, 67108863] (by kernel_rfl) rfl ?_
          refine st_v (rv_to (u := .bool false) (rv_neqZ rfl rfl) (by simp)) (by decide) ?_
          refine st_nil ?_
          refine st_then ?_
          refine st_drawOp [0, 1, 0, 7, 15, 31, 63, 31, 255, 511, 1023, 2047, 4095, 8191, 16383, 32767, 65535, 131071, 262143, 524287, 524287, 2097151, 4194303, 524287, 8912895, 33554431, 67108863] (by kernel_rfl) rfl ?_
          refine st_v (rv_move rfl) (by decide) ?_
          refine st_nil ?_
          refine st_then ?_
          refine st_drawSeg1 (E0 := [(1, _), (2, _), (3, _), (4, _), (12, _), (13, _), (14, _), (15, _), (16, _), (102, _)]) [kany, kany, kany, kany, kany, kpeq _, kpeq _, kpeq _] 5 8 [0, 1, 0, 7, 15, 31, 63, 31, 255, 511, 1023, 2047, 4095, 8191, 16383, 32767, 65535, 131071, 262143, 524287, 524287, 2097151, 4194303, 524287, 8912895, 33554431, 67108863] [1, 2, 3, 4, 12, 13, 14, 15, 16, 102] (by kernel_rfl) (by decide) (by kernel_rfl) (.cons rfl (.cons rfl (.cons rfl (.cons rfl (.cons rfl (.cons rfl (.cons rfl (.cons rfl (.cons rfl (.cons rfl (.nil _))))))))))) rfl rfl (hall_skip rfl (hall_skip rfl (hall_skip rfl (hall_skip rfl (hall_skip rfl (hall_cons (hop_on (j := 4) (b := false) [] [] rfl rfl rfl rfl rfl (by decide) rfl (jnil) (xnil) (fun _ _ _ _ => does_v (rv_move rfl))) (hall_cons (hop_on (j := 4) (b := false) [(5, 103, _)] [] rfl rfl rfl rfl rfl (by decide) rfl (jcons rfl rfl rfl rfl rfl (jnil)) (xnil) (fun _ _ _ _ => does_v (rv_lenR (rd_own (i := 0) rfl) Tryd.underlying22 rfl))) (hall_cons (hop_on (j := 4) (b := false) [] [] rfl rfl rfl rfl rfl (by decide) rfl (jnil) (xnil) (fun _ _ _ _ => does_v (rv_move rfl))) (hall_nil))))))))) (draw_end1 [(6, 104, _), (7, 105, _)] (jcons rfl rfl rfl rfl rfl (jcons rfl rfl rfl rfl rfl (jnil))) ?_)
          refine st_drawOp [0, 1, 0, 7, 15, 31, 63, 31, 255, 511, 1023, 2047, 4095, 8191, 16383, 32767, 65535, 131071, 262143, 524287, 524287, 2097151, 4194303, 524287, 8912895, 33554431, 67108863] (by kernel_rfl) rfl ?_
          refine st_gon rfl rfl ?_
          refine st_v (rv_to (u := .bool false) (rv_neqZ rfl rfl) (by simp)) (by decide) ?_
          refine st_nil ?_
          refine st_then ?_
          refine st_drawOp [0, 1, 0, 7, 15, 31, 63, 31, 255, 511, 1023, 2047, 4095, 8191, 16383, 32767, 65535, 131071, 262143, 524287, 524287, 2097151, 4194303, 524287, 8912895, 33554431, 67108863] (by kernel_rfl) rfl ?_
          first | refine st_v (rv_pick_true rfl rfl) (by decide) ?_ | refine st_v (rv_pick_false rfl rfl) (by decide) ?_ | refine st_v (rv_pick rfl rfl rfl) (by decide) ?_
          refine st_nil ?_
          refine st_then ?_
          refine st_drawOp [0, 1, 0, 7, 15, 31, 63, 31, 255, 511, 1023, 2047, 4095, 8191, 16383, 32767, 65535, 131071, 262143, 524287, 524287, 2097151, 4194303, 524287, 8912895, 33554431, 67108863] (by kernel_rfl) rfl ?_
          refine st_v (rv_move rfl) (by decide) ?_
          refine st_nil ?_
          refine st_then ?_
          refine st_drawOp [0, 1, 0, 7, 15, 31, 63, 31, 255, 511, 1023, 2047, 4095, 8191, 16383, 32767, 65535, 131071, 262143, 524287, 524287, 2097151, 4194303, 524287, 8912895, 33554431, 67108863] (by kernel_rfl) rfl ?_
          refine st_gon rfl rfl ?_
          refine st_v (rv_move rfl) (by decide) ?_
          refine st_nil ?_
          refine st_then ?_
          refine st_drawOp [0, 1, 0, 7, 15, 31, 63, 31, 255, 511, 1023, 2047, 4095, 8191, 16383, 32767, 65535, 131071, 262143, 524287, 524287, 2097151, 4194303, 524287, 8912895, 33554431, 67108863] (by kernel_rfl) rfl ?_
          refine st_gon rfl rfl ?_
          refine st_v (rv_neqZ rfl rfl) (by decide) ?_
          refine st_nil ?_
          refine st_then ?_
          refine st_drawOp [0, 1, 0, 7, 15, 31, 63, 31, 255, 511, 1023, 2047, 4095, 8191, 16383, 32767, 65535, 131071, 262143, 524287, 524287, 2097151, 4194303, 524287, 8912895, 33554431, 67108863] (by kernel_rfl) rfl ?_
          first | refine st_v (rv_pick_true rfl rfl) (by decide) ?_ | refine st_v (rv_pick_false rfl rfl) (by decide) ?_ | refine st_v (rv_pick rfl rfl rfl) (by decide) ?_
          refine st_nil ?_
          refine st_then ?_
          refine st_drawOp [0, 1, 0, 7, 15, 31, 63, 31, 255, 511, 1023, 2047, 4095, 8191, 16383, 32767, 65535, 131071, 262143, 524287, 524287, 2097151, 4194303, 524287, 8912895, 33554431, 67108863] (by kernel_rfl) rfl ?_
          refine st_v (rv_move rfl) (by decide) ?_
          refine st_nil ?_
          refine st_then ?_
          refine st_drawOp [0, 1, 0, 7, 15, 31, 63, 31, 255, 511, 1023, 2047, 4095, 8191, 16383, 32767, 65535, 131071, 262143, 524287, 524287, 2097151, 4194303, 524287, 8912895, 33554431, 67108863] (by kernel_rfl) rfl ?_
          refine st_gon rfl rfl ?_
          refine st_v (rv_move rfl) (by decide) ?_
          refine st_nil ?_
          refine st_then ?_
          refine st_drawOp [0, 1, 0, 7, 15, 31, 63, 31, 255, 511, 1023, 2047, 4095, 8191, 16383, 32767, 65535, 131071, 262143, 524287, 524287, 2097151, 4194303, 524287, 8912895, 33554431, 67108863] (by kernel_rfl) rfl ?_
          refine st_gon rfl rfl ?_
          refine st_v (rv_neqZ rfl rfl) (by decide) ?_
          refine st_nil ?_
          refine st_then ?_
          refine st_drawOp [0, 1, 0, 7, 15, 31, 63, 31, 255, 511, 1023, 2047, 4095, 8191, 16383, 32767, 65535, 131071, 262143, 524287, 524287, 2097151, 4194303, 524287, 8912895, 33554431, 67108863] (by kernel_rfl) rfl ?_
          first | refine st_v (rv_pick_true rfl rfl) (by decide) ?_ | refine st_v (rv_pick_false rfl rfl) (by decide) ?_ | refine st_v (rv_pick rfl rfl rfl) (by decide) ?_
          refine st_nil ?_
          refine st_then ?_
          refine st_drawOp [0, 1, 0, 7, 15, 31, 63, 31, 255, 511, 1023, 2047, 4095, 8191, 16383, 32767, 65535, 131071, 262143, 524287, 524287, 2097151, 4194303, 524287, 8912895, 33554431, 67108863] (by kernel_rfl) rfl ?_
          refine st_v (rv_move rfl) (by decide) ?_
          refine st_nil ?_
          refine st_then ?_
          refine st_drawSeg1 (E0 := [(1, _), (2, _), (3, _), (13, _), (14, _), (15, _), (116, _)]) [kany, kany, kany, kany, kany, kany, kany, kany, kany, kany, kany, kany, kany, kany, kany, kany, kany, kany, kany, kpeq _, kpeq _, kpeq _, kpeq _, kpeq _, kpeq _] 19 25 [0, 1, 0, 7, 15, 31, 63, 31, 255, 511, 1023, 2047, 4095, 8191, 16383, 32767, 65535, 131071, 262143, 524287, 524287, 2097151, 4194303, 524287, 8912895, 33554431, 67108863] [1, 2, 3, 13, 14, 15, 116] (by kernel_rfl) (by decide) (by kernel_rfl) (.cons rfl (.cons rfl (.cons rfl (.cons rfl (.cons rfl (.cons rfl (.cons rfl (.nil _)))))))) rfl rfl (hall_skip rfl (hall_skip rfl (hall_skip rfl (hall_skip rfl (hall_skip rfl (hall_skip rfl (hall_skip rfl (hall_skip rfl (hall_skip rfl (hall_skip rfl (hall_skip rfl (hall_skip rfl (hall_skip rfl (hall_skip rfl (hall_skip rfl (hall_skip rfl (hall_skip rfl (hall_skip rfl (hall_skip rfl (hall_cons (hop_on (j := 18) (b := false) [] [] rfl rfl rfl rfl rfl (by decide) rfl (jnil) (xnil) (fun _ _ _ _ => does_v (rv_move rfl))) (hall_cons (hop_on (j := 18) (b := false) [] [] rfl rfl rfl rfl rfl (by decide) rfl (jnil) (xnil) (fun _ _ _ _ => does_v (rv_move rfl))) (hall_cons (hop_on (j := 18) (b := false) [(19, 117, _), (20, 118, _)] [] rfl rfl rfl rfl rfl (by decide) rfl (jcons rfl rfl rfl rfl rfl (jcons rfl rfl rfl rfl rfl (jnil))) (xnil) (fun _ _ _ _ => does_v (rv_sliceR (rd_own (i := 0) rfl) Tryd.underlying22 sz5 rfl evB_none (evB_some rfl rfl) (by first | omega | (simp <;> omega)) (by first | omega | (simp <;> omega))))) (hall_cons (hop_on (j := 18) (b := false) [(21, 119, _)] [] rfl rfl rfl rfl rfl (by decide) rfl (jcons rfl rfl rfl rfl rfl (jnil)) (xnil) (fun _ _ _ _ => does_v (rv_string (fun w hM => ((rd_own (i := 0) rfl) w hM).part8 (by first | omega | (simp <;> omega)) (by first | omega | (simp <;> omega))) Tryd.underlying22 Tryd.underlying9 Tryd.underlying5 rfl))) (hall_cons (hop_on (j := 18) (b := false) [] [] rfl rfl rfl rfl rfl (by decide) rfl (jnil) (xnil) (fun _ _ _ _ => does_v (rv_move rfl))) (hall_cons (hop_on (j := 18) (b := false) [(23, 121, _)] [] rfl rfl rfl rfl rfl (by decide) rfl (jcons rfl rfl rfl rfl rfl (jnil)) (xnil) (fun _ _ _ _ => does_v (rv_string (rd_own (i := 3) rfl) Tryd.underlying22 Tryd.underlying9 Tryd.underlying5 rfl))) (hall_nil)))))))))))))))))))))))))) (draw_end1 [(22, 120, _), (24, 122, _)] (jcons rfl rfl rfl rfl rfl (jcons rfl rfl rfl rfl rfl (jnil))) ?_)
          refine st_drawTail (N := 25) [0, 1, 0, 7, 15, 31, 63, 31, 255, 511, 1023, 2047, 4095, 8191, 16383, 32767, 65535, 131071, 262143, 524287, 524287, 2097151, 4194303, 524287, 8912895, 33554431, 67108863] (by kernel_rfl) (by kernel_rfl) ?_
          refine st_gon rfl rfl ?_
          refine st_v (rv_to (u := .bool false) (rv_neqB rfl rfl) (by rw [Nat.sub_zero, List.drop_zero, okm_pre hk3]; simp)) (by decide) ?_
          first | refine st_v (rv_pick_true rfl rfl) (by decide) ?_ | refine st_v (rv_pick_false rfl rfl) (by decide) ?_ | refine st_v (rv_pick rfl rfl rfl) (by decide) ?_
          refine st_nil ?_
          refine st_then ?_
          refine st_false rfl ?_
          refine st_skip ?_
          refine st_then ?_
          refine st_seq ?_
          refine st_region ?_
          refine st_v (rv_move rfl) (by decide) ?_
          refine st_v (rv_move rfl) (by decide) ?_
          refine st_bytes Tryd.underlying9 Tryd.underlying22 Tryd.underlying5 rfl (by decide) (fun v8 => ?_)
          refine st_v (rv_move rfl) (by decide) ?_
          refine st_bytes Tryd.underlying9 Tryd.underlying22 Tryd.underlying5 rfl (by decide) (fun v9 => ?_)
          refine st_call1 (ρ := Value) (fun r => .tuple #[r, vI 0]) (fun _ => True) (fun r => [own r 5 1 (hsize (p % 3)) ((hmacW (p % 3) key s).map U8)]) cal38 rfl (fun w hM => ((HMAC_ok (p % 3) hk3 _ _ key s (by omega) (by omega) w (hL.at hM) ((rd_own (i := 1) rfl) w hM) ((rd_own (i := 0) rfl) w hM))).mono fun e w' ⟨r, h1, h2⟩ => ⟨r, h1, trivial, h2⟩) (by decide) (fun r10 _ => ?_)
          refine st_v (rv_move rfl) (by decide) ?_
          refine st_v (rv_extract rfl rfl) (by decide) ?_
          refine st_v (rv_extract rfl rfl) (by decide) ?_
          refine st_v (rv_assign rfl) (by decide) ?_
          refine st_v (rv_assign rfl) (by decide) ?_
          refine st_nil ?_
          refine st_then ?_
          refine st_seq ?_
          refine st_region ?_
          refine st_v (rv_move rfl) (by decide) ?_
          refine st_v (rv_assign rfl) (by decide) ?_
          refine st_nil ?_
          refine st_then ?_
          refine st_cutB (σ := List (BitVec 8)) [(2, _), (13, _), (17, _)] [_, _, _, _, _, _, _, _, _, _] (.cons rfl (.cons rfl (.cons rfl (.nil _)))) (fun w hM => hM.sublist (List.Sublist.cons_cons _ (List.Sublist.cons_cons _ (List.Sublist.cons_cons _ (List.Sublist.cons_cons _ (List.Sublist.cons_cons _ (List.Sublist.cons_cons _ (List.Sublist.cons_cons _ (List.Sublist.cons_cons _ (List.Sublist.cons_cons _ (List.Sublist.cons_cons _ (List.Sublist.slnil)))))))))))) [(19, fun e => vS e)] [] (fun e => hmacW (p % 3) e s = hmacW (p % 3) key s ∧ e.length ≤ 700000) ?_ ?_
          · -- up to the cut
            refine st_seq ?_
            refine st_region ?_
            refine st_v (rv_move rfl) (by decide) ?_
            refine st_v (rv_lenB Tryd.underlying9 rfl) (by decide) ?_
            refine st_v (rv_move rfl) (by decide) ?_
            refine st_call0 cal35 rfl (fun w hM => (BlockSize_ok (p % 3) hk3 w (hL.at hM))) (by decide) ?_
            refine st_v (rv_gtrZ rfl rfl) (by decide) ?_
            refine st_nil ?_
            refine st_then ?_
            refine st_cond rfl (fun hc139 => ?_) (fun hc139 => ?_)
            · -- t139 True
              try simp only [z1, z2, z3, z4, z5, z6, z7, z8, z9, z10, z11, z12, z13, z14] at hc139
              refine st_seq ?_
              refine st_region ?_
              refine st_v (rv_move rfl) (by decide) ?_
              refine st_v (rv_move rfl) (by decide) ?_
              refine st_bytes Tryd.underlying9 Tryd.underlying22 Tryd.underlying5 rfl (by decide) (fun v11 => ?_)
              refine st_call1 (ρ := Value) (fun r => .tuple #[r, vI 0]) (fun _ => True) (fun r => [own r 5 1 (hsize (p % 3)) ((hsum (p % 3) key).map U8)]) cal32 rfl (fun w hM => ((Sum_ok (p % 3) hk3 _ key (by omega) w (hL.at hM) ((rd_own (i := 0) rfl) w hM))).mono fun e w' ⟨r, h1, h2⟩ => ⟨r, h1, trivial, h2⟩) (by decide) (fun r12 _ => ?_)
              refine st_v (rv_move rfl) (by decide) ?_
              refine st_v (rv_extract rfl rfl) (by decide) ?_
              refine st_v (rv_extract rfl rfl) (by decide) ?_
              refine st_v (rv_assign rfl) (by decide) ?_
              refine st_v (rv_assign rfl) (by decide) ?_
              refine st_nil ?_
              refine st_then ?_
              refine st_region ?_
              refine st_v (rv_move rfl) (by decide) ?_
              refine st_v (rv_string (rd_own (i := 0) rfl) Tryd.underlying22 Tryd.underlying9 Tryd.underlying5 rfl) (by decide) ?_
              refine st_v (rv_assign rfl) (by decide) ?_
              refine st_nil ?_
              refine st_then ?_
              exact st_meet (hsum (p % 3) key) (⟨hmac_long hk3 key s (by omega), by rw [length_hsum hk3]; have := hsize_le (p % 3); omega⟩) (.cons rfl (.cons rfl (.cons rfl (.cons rfl (.nil _))))) (fun _ hM => hM.sublist (List.Sublist.cons _ (List.Sublist.cons _ (List.Sublist.cons_cons _ (List.Sublist.cons_cons _ (List.Sublist.cons_cons _ (List.Sublist.cons_cons _ (List.Sublist.cons_cons _ (List.Sublist.cons_cons _ (List.Sublist.cons_cons _ (List.Sublist.cons_cons _ (List.Sublist.cons_cons _ (List.Sublist.cons_cons _ (List.Sublist.slnil))))))))))))))
            · -- t139 False
              try simp only [z1, z2, z3, z4, z5, z6, z7, z8, z9, z10, z11, z12, z13, z14] at hc139
              refine st_seq ?_
              refine st_region ?_
              refine st_v (rv_move rfl) (by decide) ?_
              refine st_v (rv_lenB Tryd.underlying9 rfl) (by decide) ?_
              refine st_v (rv_move rfl) (by decide) ?_
              refine st_call0 cal35 rfl (fun w hM => (BlockSize_ok (p % 3) hk3 w (hL.at hM))) (by decide) ?_
              refine st_v (rv_lssZ rfl rfl) (by decide) ?_
              refine st_nil ?_
              refine st_then ?_
              refine st_cond rfl (fun hc153 => ?_) (fun hc153 => ?_)
              · -- t153 True
                try simp only [z1, z2, z3, z4, z5, z6, z7, z8, z9, z10, z11, z12, z13, z14] at hc153
                refine st_region ?_
                refine st_v (rv_move rfl) (by decide) ?_
                refine st_v (rv_concat (c := [0#8]) rfl rfl (by first | omega | (simp <;> omega))) (by decide) ?_
                refine st_v (rv_assign rfl) (by decide) ?_
                refine st_nil ?_
                refine st_then ?_
                exact st_meet (key ++ [0#8]) (⟨hmac_short key s (by omega), by simp; omega⟩) (.cons rfl (.cons rfl (.cons rfl (.cons rfl (.nil _))))) (fun _ hM => hM)
              · -- t153 False
                try simp only [z1, z2, z3, z4, z5, z6, z7, z8, z9, z10, z11, z12, z13, z14] at hc153
                refine st_skip ?_
                refine st_then ?_
                exact st_meet key (⟨rfl, by omega⟩) (.cons rfl (.cons rfl (.cons rfl (.cons rfl (.nil _))))) (fun _ hM => hM)
          · -- behind the cut
            intro e hI
            try dsimp only at hI
            dsimp only [List.map, List.cons_append, List.nil_append]
            obtain ⟨heq, hel⟩ := hI
            refine st_seq ?_
            refine st_region ?_
            refine st_v (rv_move rfl) (by decide) ?_
            refine st_v (rv_move rfl) (by decide) ?_
            refine st_bytes Tryd.underlying9 Tryd.underlying22 Tryd.underlying5 rfl (by decide) (fun v13 => ?_)
            refine st_v (rv_move rfl) (by decide) ?_
            refine st_bytes Tryd.underlying9 Tryd.underlying22 Tryd.underlying5 rfl (by decide) (fun v14 => ?_)
            refine st_call1 (ρ := Value) (fun r => .tuple #[r, vI 0]) (fun _ => True) (fun r => [own r 5 1 (hsize (p % 3)) ((hmacW (p % 3) e s).map U8)]) cal38 rfl (fun w hM => ((HMAC_ok (p % 3) hk3 _ _ e s (by omega) (by omega) w (hL.at hM) ((rd_own (i := 1) rfl) w hM) ((rd_own (i := 0) rfl) w hM))).mono fun e w' ⟨r, h1, h2⟩ => ⟨r, h1, trivial, h2⟩) (by decide) (fun r15 _ => ?_)
            refine st_v (rv_move rfl) (by decide) ?_
            refine st_v (rv_extract rfl rfl) (by decide) ?_
            refine st_v (rv_extract rfl rfl) (by decide) ?_
            refine st_v (rv_assign rfl) (by decide) ?_
            refine st_v (rv_assign rfl) (by decide) ?_
            refine st_nil ?_
            refine st_then ?_
            refine st_seq ?_
            refine st_region ?_
            refine st_v (rv_move rfl) (by decide) ?_
            refine st_v (rv_lenR (rd_own (i := 3) rfl) Tryd.underlying22 rfl) (by decide) ?_
            refine st_v (rv_move rfl) (by decide) ?_
            refine st_call0 cal34 rfl (fun w hM => (Size_ok (p % 3) hk3 w (hL.at hM))) (by decide) ?_
            refine st_v (rv_to (u := .bool true) (rv_eqlZ rfl rfl) (by simp)) (by decide) ?_
            refine st_v (rv_move rfl) (by decide) ?_
            refine st_gon rfl rfl ?_
            refine st_v (rv_move rfl) (by decide) ?_
            refine st_gon rfl rfl ?_
            refine st_v (rv_string (rd_own (i := 3) rfl) Tryd.underlying22 Tryd.underlying9 Tryd.underlying5 rfl) (by decide) ?_
            refine st_gon rfl rfl ?_
            refine st_v (rv_move rfl) (by decide) ?_
            refine st_gon rfl rfl ?_
            refine st_v (rv_string (rd_own (i := 0) rfl) Tryd.underlying22 Tryd.underlying9 Tryd.underlying5 rfl) (by decide) ?_
            refine st_gon rfl rfl ?_
            refine st_v (rv_to (u := .bool true) (rv_eqlB rfl rfl) (by rw [heq]; simp)) (by decide) ?_
            first | refine st_v (rv_pick_true rfl rfl) (by decide) ?_ | refine st_v (rv_pick_false rfl rfl) (by decide) ?_ | refine st_v (rv_pick rfl rfl rfl) (by decide) ?_
            refine st_v (rv_assign rfl) (by decide) ?_
            refine st_nil ?_
            refine st_then ?_
            refine st_ret ?_
            exact st_done rfl rfl (fun w hM => ⟨by first | (simp; done) | rfl, hM.sublist (List.nil_sublist _)⟩)
end Go.Proofs.YtjhjjhpfjadjpaaDoor
