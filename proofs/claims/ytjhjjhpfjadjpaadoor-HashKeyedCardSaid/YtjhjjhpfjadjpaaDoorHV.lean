/- Walks: what functions of the given program do, operation by operation. Written by wip/gen. -/
import Derived.Test.YtjhjjhpfjadjpaaDoorML
import Derived.Test.YtjhjjhpfjadjpaaDoorPK
namespace Go.Proofs.YtjhjjhpfjadjpaaDoor
set_option linter.all false
open Go
theorem withH0_calls (s : List (BitVec 8)) (vK vH : Value) (hs : s.length ≤ 900000) (w : World) (hKR : Rd w vK 64 1 ((constK 64).map U64)) (hHR : Rd w vH 8 1 ((constH 0 8).map U64)) :
    Calls Tryd.prog 85 #[vI (0 : Nat), vS s, vK, vH] w (fun r w' => r = .returned (vS (hsum 0 s)) ∧ Mem (All w) w w' []) := by
  have := with0_calls s vK vH (constK 64) (constH 0 8) hs (by rw [length_constK]; omega) (length_constH _ _) w (Rd.n_eq hKR (length_constK _).symm) (Rd.n_eq hHR (length_constH _ _).symm)
  rwa [with_eq0 s (by omega)] at this
set_option maxRecDepth 20000 in
theorem rSum0_calls (s : List (BitVec 8)) (hs : s.length ≤ 900000) (w : World) : Calls Tryd.prog 33 #[vI (0 : Nat), vS s] w (fun r w' => r = .returned (vS (hsum 0 s)) ∧ Mem (All w) w w' []) := by
  refine calls_of_st (n := 17) (args := [vI (0 : Nat), vS s]) Tryd.func33 rfl Tryd.ntmps33 (Nat.le_of_ble_eq_true rfl) (Mem.all w) ?_
  refine st_seq ?_
  refine st_region ?_
  refine st_v (rv_assign rfl) (by decide) ?_
  refine st_nil ?_
  refine st_then ?_
  refine st_seq ?_
  refine st_region ?_
  refine st_v (rv_move rfl) (by decide) ?_
  refine st_call1 (ρ := Value × Value) (fun r => .tuple #[r.1, r.2]) (fun _ => True) (fun r => [own r.1 77 1 64 ((constK 64).map U64), own r.2 77 1 8 ((constH 0 8).map U64)]) cal84 rfl (fun w hM => ((Constants0_calls w)).mono fun e w' ⟨r, h1, h2⟩ => ⟨r, h1, trivial, h2⟩) (by decide) (fun r1 _ => ?_)
  refine st_v (rv_move rfl) (by decide) ?_
  refine st_v (rv_extract (v := r1.1) rfl rfl) (by decide) ?_
  refine st_v (rv_extract (v := r1.2) rfl rfl) (by decide) ?_
  refine st_v (rv_assign rfl) (by decide) ?_
  refine st_v (rv_assign rfl) (by decide) ?_
  refine st_nil ?_
  refine st_then ?_
  refine st_seq ?_
  refine st_region ?_
  refine st_v (rv_move rfl) (by decide) ?_
  refine st_v (rv_move rfl) (by decide) ?_
  refine st_v (rv_move rfl) (by decide) ?_
  refine st_v (rv_move rfl) (by decide) ?_
  refine st_call0 cal85 rfl (fun w hM => (withH0_calls s _ _ hs w ((rd_own (i := 0) rfl) w hM) ((rd_own (i := 1) rfl) w hM))) (by decide) ?_
  refine st_v (rv_assign rfl) (by decide) ?_
  refine st_nil ?_
  refine st_then ?_
  refine st_ret ?_
  exact st_done rfl rfl (fun w hM => ⟨rfl, hM.sublist (List.nil_sublist _)⟩)
theorem withH1_calls (s : List (BitVec 8)) (vK vH : Value) (hs : s.length ≤ 900000) (w : World) (hKR : Rd w vK 80 1 ((constK 80).map U64)) (hHR : Rd w vH 8 1 ((constH 8 8).map U64)) :
    Calls Tryd.prog 85 #[vI (1 : Nat), vS s, vK, vH] w (fun r w' => r = .returned (vS (hsum 1 s)) ∧ Mem (All w) w w' []) := by
  have := with1_calls s vK vH (constK 80) (constH 8 8) hs (by rw [length_constK]; omega) (length_constH _ _) w (Rd.n_eq hKR (length_constK _).symm) (Rd.n_eq hHR (length_constH _ _).symm)
  rwa [with_eq1 s (by omega)] at this
set_option maxRecDepth 20000 in
theorem rSum1_calls (s : List (BitVec 8)) (hs : s.length ≤ 900000) (w : World) : Calls Tryd.prog 33 #[vI (1 : Nat), vS s] w (fun r w' => r = .returned (vS (hsum 1 s)) ∧ Mem (All w) w w' []) := by
  refine calls_of_st (n := 17) (args := [vI (1 : Nat), vS s]) Tryd.func33 rfl Tryd.ntmps33 (Nat.le_of_ble_eq_true rfl) (Mem.all w) ?_
  refine st_seq ?_
  refine st_region ?_
  refine st_v (rv_assign rfl) (by decide) ?_
  refine st_nil ?_
  refine st_then ?_
  refine st_seq ?_
  refine st_region ?_
  refine st_v (rv_move rfl) (by decide) ?_
  refine st_call1 (ρ := Value × Value) (fun r => .tuple #[r.1, r.2]) (fun _ => True) (fun r => [own r.1 77 1 80 ((constK 80).map U64), own r.2 77 1 8 ((constH 8 8).map U64)]) cal84 rfl (fun w hM => ((Constants1_calls w)).mono fun e w' ⟨r, h1, h2⟩ => ⟨r, h1, trivial, h2⟩) (by decide) (fun r1 _ => ?_)
  refine st_v (rv_move rfl) (by decide) ?_
  refine st_v (rv_extract (v := r1.1) rfl rfl) (by decide) ?_
  refine st_v (rv_extract (v := r1.2) rfl rfl) (by decide) ?_
  refine st_v (rv_assign rfl) (by decide) ?_
  refine st_v (rv_assign rfl) (by decide) ?_
  refine st_nil ?_
  refine st_then ?_
  refine st_seq ?_
  refine st_region ?_
  refine st_v (rv_move rfl) (by decide) ?_
  refine st_v (rv_move rfl) (by decide) ?_
  refine st_v (rv_move rfl) (by decide) ?_
  refine st_v (rv_move rfl) (by decide) ?_
  refine st_call0 cal85 rfl (fun w hM => (withH1_calls s _ _ hs w ((rd_own (i := 0) rfl) w hM) ((rd_own (i := 1) rfl) w hM))) (by decide) ?_
  refine st_v (rv_assign rfl) (by decide) ?_
  refine st_nil ?_
  refine st_then ?_
  refine st_ret ?_
  exact st_done rfl rfl (fun w hM => ⟨rfl, hM.sublist (List.nil_sublist _)⟩)
theorem withH2_calls (s : List (BitVec 8)) (vK vH : Value) (hs : s.length ≤ 900000) (w : World) (hKR : Rd w vK 80 1 ((constK 80).map U64)) (hHR : Rd w vH 8 1 ((constH 0 8).map U64)) :
    Calls Tryd.prog 85 #[vI (2 : Nat), vS s, vK, vH] w (fun r w' => r = .returned (vS (hsum 2 s)) ∧ Mem (All w) w w' []) := by
  have := with2_calls s vK vH (constK 80) (constH 0 8) hs (by rw [length_constK]; omega) (length_constH _ _) w (Rd.n_eq hKR (length_constK _).symm) (Rd.n_eq hHR (length_constH _ _).symm)
  rwa [with_eq2 s (by omega)] at this
set_option maxRecDepth 20000 in
theorem rSum2_calls (s : List (BitVec 8)) (hs : s.length ≤ 900000) (w : World) : Calls Tryd.prog 33 #[vI (2 : Nat), vS s] w (fun r w' => r = .returned (vS (hsum 2 s)) ∧ Mem (All w) w w' []) := by
  refine calls_of_st (n := 17) (args := [vI (2 : Nat), vS s]) Tryd.func33 rfl Tryd.ntmps33 (Nat.le_of_ble_eq_true rfl) (Mem.all w) ?_
  refine st_seq ?_
  refine st_region ?_
  refine st_v (rv_assign rfl) (by decide) ?_
  refine st_nil ?_
  refine st_then ?_
  refine st_seq ?_
  refine st_region ?_
  refine st_v (rv_move rfl) (by decide) ?_
  refine st_call1 (ρ := Value × Value) (fun r => .tuple #[r.1, r.2]) (fun _ => True) (fun r => [own r.1 77 1 80 ((constK 80).map U64), own r.2 77 1 8 ((constH 0 8).map U64)]) cal84 rfl (fun w hM => ((Constants2_calls w)).mono fun e w' ⟨r, h1, h2⟩ => ⟨r, h1, trivial, h2⟩) (by decide) (fun r1 _ => ?_)
  refine st_v (rv_move rfl) (by decide) ?_
  refine st_v (rv_extract (v := r1.1) rfl rfl) (by decide) ?_
  refine st_v (rv_extract (v := r1.2) rfl rfl) (by decide) ?_
  refine st_v (rv_assign rfl) (by decide) ?_
  refine st_v (rv_assign rfl) (by decide) ?_
  refine st_nil ?_
  refine st_then ?_
  refine st_seq ?_
  refine st_region ?_
  refine st_v (rv_move rfl) (by decide) ?_
  refine st_v (rv_move rfl) (by decide) ?_
  refine st_v (rv_move rfl) (by decide) ?_
  refine st_v (rv_move rfl) (by decide) ?_
  refine st_call0 cal85 rfl (fun w hM => (withH2_calls s _ _ hs w ((rd_own (i := 0) rfl) w hM) ((rd_own (i := 1) rfl) w hM))) (by decide) ?_
  refine st_v (rv_assign rfl) (by decide) ?_
  refine st_nil ?_
  refine st_then ?_
  refine st_ret ?_
  exact st_done rfl rfl (fun w hM => ⟨rfl, hM.sublist (List.nil_sublist _)⟩)
set_option maxRecDepth 20000 in
theorem lent_calls (s : List (BitVec 8)) (hs : s.length ≤ 1000000) (w : World) : Calls Tryd.prog 12 #[vS s] w (fun e w' => ∃ v, e = .returned v ∧ Mem (All w) w w' [rdA v (lentL s).length 1 ((lentL s).map U8)]) := by
  refine calls_of_st (n := 28) (args := [vS s]) Tryd.func12 rfl Tryd.ntmps12 (Nat.le_of_ble_eq_true rfl) (Mem.all w) ?_
  refine st_seq ?_
  refine st_region ?_
  refine st_v (rv_assign rfl) (by decide) ?_
  refine st_nil ?_
  refine st_then ?_
  refine st_seq ?_
  refine st_region ?_
  refine st_v (rv_move rfl) (by decide) ?_
  refine st_v (rv_lenB Tryd.underlying9 rfl) (by decide) ?_
  first | refine st_v (rv_addN (b := 160) rfl rfl (by first | omega | (simp; done) | (simp; omega))) (by decide) ?_ | refine st_v (rv_addZ rfl rfl (by first | omega | (simp; done) | (simp; omega))) (by decide) ?_
  refine st_make8 Tryd.underlying22 tyZ5 rfl rfl (by omega) (by omega) (by omega) (by decide) (fun b1 hb1 => ?_)
  refine st_v (rv_assign rfl) (by decide) ?_
  refine st_nil ?_
  refine st_then ?_
  refine st_seq ?_
  refine st_region ?_
  refine st_v (rv_move rfl) (by decide) ?_
  refine st_v (rv_move rfl) (by decide) ?_
  refine st_copy8 Tryd.underlying22 sz5 rfl rfl (i := 0) rfl (by first | omega | (simp [length_lentF]; done) | (simp [length_lentF] <;> omega)) (fun w _ => src_str _) (l' := [_]) rfl (by decide) ?_
  refine st_nil ?_
  refine st_then ?_
  refine st_seq ?_
  refine st_seq ?_
  refine st_region ?_
  refine st_v (rv_move rfl) (by decide) ?_
  refine st_v (rv_lenB Tryd.underlying9 rfl) (by decide) ?_
  refine st_v (rv_assign rfl) (by decide) ?_
  refine st_nil ?_
  refine st_then ?_
  refine st_block ?_
  refine st_loop (σ := Nat) (fun k => [(3, sl b1 0 (s.length + 160) (s.length + 160)), (4, vI (s.length + k : Nat))]) (fun k => [blk b1 (c8 (lentF s k)) 5]) (fun k => k ≤ 160) (fun k => 160 - k) 0 (by omega) (.cons rfl (.cons rfl (.nil _))) (fun _ hM => hM) ?_
  intro k hI
  refine st_seq ?_
  refine st_seq ?_
  refine st_region ?_
  refine st_v (rv_move rfl) (by decide) ?_
  refine st_v (rv_move rfl) (by decide) ?_
  refine st_v (rv_lenS Tryd.underlying22 rfl) (by decide) ?_
  refine st_v (rv_lssZ rfl rfl) (by decide) ?_
  refine st_nil ?_
  refine st_then ?_
  refine st_cond rfl (fun hc17 => ?_) (fun hc17 => ?_)
  · -- t17 True
    try simp only [z1, z2, z3, z4, z5, z6, z7, z8, z9, z10, z11, z12, z13, z14] at hc17
    refine st_skip ?_
    refine st_then ?_
    refine st_seq ?_
    refine st_block ?_
    refine st_region ?_
    refine st_v (rv_move rfl) (by decide) ?_
    refine st_v (rv_move rfl) (by decide) ?_
    refine st_v (rv_move rfl) (by decide) ?_
    refine st_v (rv_remN (b := 251) rfl rfl (by first | omega | (simp; done) | (simp; omega))) (by decide) ?_
    refine st_v (rv_convIto8 Tryd.underlying3 Tryd.underlying5 rfl) (by decide) ?_
    refine st_v (rv_xor8 (b := 165#8) rfl rfl) (by decide) ?_
    refine st_v (rv_indexS Tryd.underlying22 sz5 rfl rfl rfl (by first | omega | (simp [length_lentF] <;> omega)) (by first | exact (Nat.zero_add _).trans (Nat.mul_one _) | exact congrArg _ (Nat.mul_one _) | rfl)) (by decide) ?_
    refine st_store8 rfl rfl (i := 0) rfl sz5 (by first | omega | (simp [length_lentF] <;> omega)) (l' := [_]) rfl ?_
    refine st_nil ?_
    refine st_in_normal ?_
    refine st_then ?_
    refine st_region ?_
    refine st_v (rv_move rfl) (by decide) ?_
    first | refine st_v (rv_addN (b := 1) rfl rfl (by first | omega | (simp; done) | (simp; omega))) (by decide) ?_ | refine st_v (rv_addZ rfl rfl (by first | omega | (simp; done) | (simp; omega))) (by decide) ?_
    refine st_v (rv_assign rfl) (by decide) ?_
    refine st_nil ?_
    refine st_then ?_
    exact st_again (k + 1) (by omega) (by omega) (.cons rfl (.cons rfl (.nil _))) (fun _ hM => hM)
  · -- t17 False
    try simp only [z1, z2, z3, z4, z5, z6, z7, z8, z9, z10, z11, z12, z13, z14] at hc17
    obtain rfl : k = 160 := by omega
    refine st_exit ?_
    refine st_then_exit ?_
    refine st_then_exit ?_
    refine st_in_exit ?_
    refine st_then ?_
    refine st_seq ?_
    refine st_region ?_
    refine st_v (rv_move rfl) (by decide) ?_
    refine st_v (rv_assign rfl) (by decide) ?_
    refine st_nil ?_
    refine st_then ?_
    refine st_ret ?_
    exact st_done rfl rfl (fun w hM => ⟨_, rfl, by rw [length_lentL]; exact hM.blkRd8 (i := 0) rfl (length_lentL s) (Nat.le_refl _)⟩)
set_option maxRecDepth 20000 in
theorem still_calls (v : Value) (s : List (BitVec 8)) (hs : s.length ≤ 1000000) (w : World) (hA : Rd w v (lentL s).length 1 ((lentL s).map U8)) : Calls Tryd.prog 14 #[v, vS s] w (fun r w' => r = .returned (.bool true) ∧ Mem (All w) w w' []) := by
  refine calls_of_st (n := 13) (args := [v, vS s]) Tryd.func14 rfl Tryd.ntmps14 (Nat.le_of_ble_eq_true rfl) (Mem.all w) ?_
  refine st_seq ?_
  refine st_region ?_
  refine st_v (rv_assign rfl) (by decide) ?_
  refine st_nil ?_
  refine st_then ?_
  refine st_seq ?_
  refine st_region ?_
  refine st_v (rv_move rfl) (by decide) ?_
  refine st_callV cal12 rfl (fun w hM => lent_calls _ (by omega) w) (by decide) (fun v1 => ?_)
  refine st_v (rv_assign rfl) (by decide) ?_
  refine st_nil ?_
  refine st_then ?_
  refine st_seq ?_
  refine st_region ?_
  refine st_v (rv_move rfl) (by decide) ?_
  refine st_v (rv_string (rd_old hA hA.all) Tryd.underlying22 Tryd.underlying9 Tryd.underlying5 rfl) (by decide) ?_
  refine st_v (rv_move rfl) (by decide) ?_
  refine st_v (rv_string (rd_rd (i := 0) rfl) Tryd.underlying22 Tryd.underlying9 Tryd.underlying5 rfl) (by decide) ?_
  refine st_v (rv_to (rv_eqlB rfl rfl) (v := .bool (decide (lentL s = lentL s))) (u := .bool true) (by simp)) (by decide) ?_
  refine st_v (rv_assign rfl) (by decide) ?_
  refine st_nil ?_
  refine st_then ?_
  refine st_ret ?_
  exact st_done rfl rfl (fun w hM => ⟨rfl, hM.sublist (List.nil_sublist _)⟩)
end Go.Proofs.YtjhjjhpfjadjpaaDoor
