/- Walks: what functions of the given program do, operation by operation. Written by wip/gen. -/
import Derived.Test.YtjhjjhpfjadjpaaDoorHK
import Derived.Test.YtjhjjhpfjadjpaaDoorMN
namespace Go.Proofs.YtjhjjhpfjadjpaaDoor
set_option linter.all false
open Go
set_option maxRecDepth 20000 in
theorem prime_calls (n : Nat) (hn : n ≤ 1000) (w : World) : Calls Tryd.prog 137 #[U64 (BitVec.ofNat 64 n)] w (fun r w' => r = .returned (.bool (primeN n)) ∧ Mem (All w) w w' []) := by
  refine calls_of_st (n := 17) (args := [U64 (BitVec.ofNat 64 n)]) Tryd.func137 rfl Tryd.ntmps137 (Nat.le_of_ble_eq_true rfl) (Mem.all w) ?_
  refine st_seq ?_
  refine st_region ?_
  refine st_v (rv_assign rfl) (by decide) ?_
  refine st_nil ?_
  refine st_then ?_
  refine st_seq ?_
  refine st_seq ?_
  refine st_region ?_
  refine st_v (rv_assign rfl) (by decide) ?_
  refine st_nil ?_
  refine st_then ?_
  refine st_block ?_
  refine st_loopA (σ := Nat) [(0, kst _), (3, fun d => U64 (BitVec.ofNat 64 d))] [] (fun d => 2 ≤ d ∧ d ≤ 33 ∧ ∀ e, 2 ≤ e → e < d → n % e ≠ 0) (fun d => 33 - d) 2 (⟨Nat.le_refl _, by omega, fun e h1 h2 => by omega⟩) (.cons rfl (.cons rfl (.nil _))) (fun _ hM => hM) ?_
  intro d hI
  try dsimp only at hI
  dsimp only [List.map, kst]
  refine st_seq ?_
  refine st_seq ?_
  refine st_region ?_
  refine st_v (rv_move rfl) (by decide) ?_
  refine st_v (rv_move rfl) (by decide) ?_
  refine st_v (rv_mul64 rfl rfl) (by decide) ?_
  refine st_v (rv_move rfl) (by decide) ?_
  refine st_v (rv_leq64 rfl rfl) (by decide) ?_
  refine st_nil ?_
  refine st_then ?_
  refine st_cond rfl (fun hc8 => ?_) (fun hc8 => ?_)
  · -- t8 True
    try simp only [z1, z2, z3, z4, z5, z6, z7, z8, z9, z10, z11, z12, z13, z14] at hc8
    obtain ⟨hd2, hd33, hall⟩ := id hI
    have hsq : d * d ≤ n := (sq_le hd33 hn).1 hc8
    have hd31 : d ≤ 31 := Nat.le_of_not_lt fun h => by have := Nat.mul_le_mul h h; omega
    refine st_skip ?_
    refine st_then ?_
    refine st_seq ?_
    refine st_block ?_
    refine st_seq ?_
    refine st_region ?_
    refine st_v (rv_move rfl) (by decide) ?_
    refine st_v (rv_move rfl) (by decide) ?_
    refine st_v (rv_rem64 rfl rfl (ofNat_ne (by omega) (by omega))) (by decide) ?_
    refine st_v (rv_eql64 (b := 0#64) rfl rfl) (by decide) ?_
    refine st_nil ?_
    refine st_then ?_
    refine st_cond rfl (fun hc14 => ?_) (fun hc14 => ?_)
    · -- t14 True
      try simp only [z1, z2, z3, z4, z5, z6, z7, z8, z9, z10, z11, z12, z13, z14] at hc14
      have hp : primeN n = false := primeN_false hd2 hsq ((rem_ofNat (by omega) hn).1 hc14)
      refine st_seq ?_
      refine st_region ?_
      refine st_v (rv_assign rfl) (by decide) ?_
      refine st_nil ?_
      refine st_then ?_
      refine st_ret ?_
      refine st_in_ret ?_
      refine st_then_ret ?_
      refine st_then_ret ?_
      refine st_in_ret ?_
      refine st_then_ret ?_
      exact st_done rfl rfl (fun w hM => ⟨by first | (rw [hp]; done) | (rw [hp]; exact congrArg Ending.returned (congrArg Value.bool (decide_eq_decide.2 (lt_ofNat hn)))), hM.sublist (List.nil_sublist _)⟩)
    · -- t14 False
      try simp only [z1, z2, z3, z4, z5, z6, z7, z8, z9, z10, z11, z12, z13, z14] at hc14
      have hne : n % d ≠ 0 := fun h => hc14 ((rem_ofNat (by omega) hn).2 h)
      refine st_skip ?_
      refine st_in_normal ?_
      refine st_then ?_
      refine st_region ?_
      refine st_v (rv_move rfl) (by decide) ?_
      refine st_v (rv_add64 (b := 1#64) rfl rfl) (by decide) ?_
      refine st_v (rv_assign rfl) (by decide) ?_
      refine st_nil ?_
      refine st_then ?_
      exact st_again (d + 1) (⟨by omega, by omega, fun e h1 h2 => by rcases Nat.lt_succ_iff_lt_or_eq.1 h2 with h3 | h3; exact hI.2.2 e h1 h3; subst h3; exact hne⟩) (by omega) (.cons rfl (SubE.cons (congrArg some (congrArg U64 (BitVec.ofNat_add d 1).symm)) (.nil _))) (fun _ hM => hM)
  · -- t8 False
    try simp only [z1, z2, z3, z4, z5, z6, z7, z8, z9, z10, z11, z12, z13, z14] at hc8
    obtain ⟨hd2, hd33, hall⟩ := hI
    have hsq : ¬ (d * d ≤ n) := fun h => hc8 ((sq_le hd33 hn).2 h)
    have hp : primeN n = decide (1 < n) := primeN_true (by omega) hall
    refine st_exit ?_
    refine st_then_exit ?_
    refine st_then_exit ?_
    refine st_in_exit ?_
    refine st_then ?_
    refine st_seq ?_
    refine st_region ?_
    refine st_v (rv_move rfl) (by decide) ?_
    refine st_v (rv_gtr64 (b := 1#64) rfl rfl) (by decide) ?_
    refine st_v (rv_assign rfl) (by decide) ?_
    refine st_nil ?_
    refine st_then ?_
    refine st_ret ?_
    exact st_done rfl rfl (fun w hM => ⟨by first | (rw [hp]; done) | (rw [hp]; exact congrArg Ending.returned (congrArg Value.bool (decide_eq_decide.2 (lt_ofNat hn)))), hM.sublist (List.nil_sublist _)⟩)
set_option maxRecDepth 20000 in
theorem primes_calls (w : World) : Calls Tryd.prog 121 #[vI (80 : Nat)] w (fun e w' => ∃ r, e = .returned r ∧ Mem (All w) w w' [own r 77 1 80 ((primesTo 410).map U64)]) := by
  refine calls_of_st (n := 20) (args := [vI (80 : Nat)]) Tryd.func121 rfl Tryd.ntmps121 (Nat.le_of_ble_eq_true rfl) (Mem.all w) ?_
  refine st_seq ?_
  refine st_region ?_
  refine st_v (rv_assign rfl) (by decide) ?_
  refine st_nil ?_
  refine st_then ?_
  refine st_seq ?_
  refine st_region ?_
  refine st_v (rv_assign rfl) (by decide) ?_
  refine st_nil ?_
  refine st_then ?_
  refine st_seq ?_
  refine st_seq ?_
  refine st_region ?_
  refine st_v (rv_assign rfl) (by decide) ?_
  refine st_nil ?_
  refine st_then ?_
  refine st_block ?_
  refine st_ownNil64 77 1 ?_
  refine st_loopA (σ := Nat × Value) [(0, kst _), (3, fun (k, u) => u), (4, fun (k, u) => U64 (BitVec.ofNat 64 k))] [fun (k, u) => own u 77 1 (primesTo k).length ((primesTo k).map U64)] (fun (k, u) => k ≤ 410) (fun (k, u) => 410 - k) (2, nilS) (by omega) (.cons rfl (.cons rfl (.cons rfl (.nil _)))) (fun _ hM => hM) ?_
  intro ⟨k, u⟩ hI
  try dsimp only at hI
  dsimp only [List.map, kst]
  refine st_seq ?_
  refine st_seq ?_
  refine st_region ?_
  refine st_v (rv_move rfl) (by decide) ?_
  refine st_v (rv_lenR (rd_own (i := 0) rfl) Tryd.underlying121 rfl) (by decide) ?_
  refine st_v (rv_move rfl) (by decide) ?_
  refine st_v (rv_lssZ rfl rfl) (by decide) ?_
  refine st_nil ?_
  refine st_then ?_
  refine st_cond rfl (fun hc9 => ?_) (fun hc9 => ?_)
  · -- t9 True
    try simp only [z1, z2, z3, z4, z5, z6, z7, z8, z9, z10, z11, z12, z13, z14] at hc9
    have hk := primes_lt (k := k) (by omega)
    refine st_skip ?_
    refine st_then ?_
    refine st_seq ?_
    refine st_block ?_
    refine st_seq ?_
    refine st_region ?_
    refine st_v (rv_move rfl) (by decide) ?_
    refine st_call0 cal137 rfl (fun w hM => (prime_calls k (by omega) w)) (by decide) ?_
    refine st_v (rv_assign rfl) (by decide) ?_
    refine st_nil ?_
    refine st_then ?_
    refine st_seq ?_
    refine st_region ?_
    refine st_v (rv_move rfl) (by decide) ?_
    refine st_nil ?_
    refine st_then ?_
    refine st_cond rfl (fun hc14 => ?_) (fun hc14 => ?_)
    · -- t14 True
      try simp only [z1, z2, z3, z4, z5, z6, z7, z8, z9, z10, z11, z12, z13, z14] at hc14
      have he := primesTo_yes hc14
      refine st_region ?_
      refine st_v (rv_move rfl) (by decide) ?_
      refine st_v (rv_move rfl) (by decide) ?_
      refine st_buildSlice Tryd.underlying121 tyZ77 rfl rfl (by decide) (cs := #[_]) rfl (by decide) (fun b1 hb1 => ?_)
      refine st_append Tryd.underlying121 Tryd.underlying121 (.inr ⟨_, rfl⟩) tyZ77 rfl rfl rfl (i := 1) rfl (one64 _) (fun w hM => src_rd ((rd_l64 (q := [_]) (len := 1) (i := 0) rfl rfl rfl (by omega)) w hM) (one64 _)) (by first | omega | (simp; omega)) (by first | omega | (simp; omega)) (by decide) (fun vo => ?_)
      refine st_v (rv_assign rfl) (by decide) ?_
      refine st_nil ?_
      refine st_in_normal ?_
      refine st_then ?_
      refine st_region ?_
      refine st_v (rv_move rfl) (by decide) ?_
      refine st_v (rv_add64 (b := 1#64) rfl rfl) (by decide) ?_
      refine st_v (rv_assign rfl) (by decide) ?_
      refine st_nil ?_
      refine st_then ?_
      exact st_again (k + 1, _) (by omega) (by omega) (.cons rfl (.cons rfl (SubE.cons (congrArg some (congrArg U64 (BitVec.ofNat_add k 1).symm)) (.nil _)))) (by intro w hM; have hM := hM.sublist (List.Sublist.cons _ (List.Sublist.cons_cons _ (List.Sublist.slnil))); ((rw [he]; try rw [List.length_append, List.map_append])); exact hM)
    · -- t14 False
      try simp only [z1, z2, z3, z4, z5, z6, z7, z8, z9, z10, z11, z12, z13, z14] at hc14
      have he := primesTo_no (k := k) (by simpa using hc14)
      refine st_skip ?_
      refine st_in_normal ?_
      refine st_then ?_
      refine st_region ?_
      refine st_v (rv_move rfl) (by decide) ?_
      refine st_v (rv_add64 (b := 1#64) rfl rfl) (by decide) ?_
      refine st_v (rv_assign rfl) (by decide) ?_
      refine st_nil ?_
      refine st_then ?_
      exact st_again (k + 1, _) (by omega) (by omega) (.cons rfl (.cons rfl (SubE.cons (congrArg some (congrArg U64 (BitVec.ofNat_add k 1).symm)) (.nil _)))) (by intro w hM; ((rw [he]; try rw [List.length_append, List.map_append])); exact hM)
  · -- t9 False
    try simp only [z1, z2, z3, z4, z5, z6, z7, z8, z9, z10, z11, z12, z13, z14] at hc9
    obtain rfl : k = 410 := by have := primes_ge (k := k) (by omega); omega
    rw [primes410]
    refine st_exit ?_
    refine st_then_exit ?_
    refine st_then_exit ?_
    refine st_in_exit ?_
    refine st_then ?_
    refine st_seq ?_
    refine st_region ?_
    refine st_v (rv_move rfl) (by decide) ?_
    refine st_v (rv_assign rfl) (by decide) ?_
    refine st_nil ?_
    refine st_then ?_
    refine st_ret ?_
    exact st_done rfl rfl (fun w hM => ⟨_, rfl, hM.sublist (List.Sublist.refl _)⟩)
set_option maxRecDepth 20000 in
theorem times_calls (v u : Value) (a b : List (BitVec 32)) (ha : a.length ≤ 1000) (hb : b.length ≤ 1000) (w : World) (hA : Rd w v a.length 1 (a.map U32)) (hB : Rd w u b.length 1 (b.map U32)) : Calls Tryd.prog 138 #[v, u] w (fun e w' => ∃ r, e = .returned r ∧ Mem (All w) w w' [own r 91 1 (a.length + b.length) ((timesW a b).map U32)]) := by
  refine calls_of_st (n := 66) (args := [v, u]) Tryd.func138 rfl Tryd.ntmps138 (Nat.le_of_ble_eq_true rfl) (Mem.all w) ?_
  refine st_seq ?_
  refine st_region ?_
  refine st_v (rv_assign rfl) (by decide) ?_
  refine st_nil ?_
  refine st_then ?_
  refine st_seq ?_
  refine st_region ?_
  refine st_v (rv_move rfl) (by decide) ?_
  refine st_v (rv_lenR (rd_old hA hA.all) Tryd.underlying35 rfl) (by decide) ?_
  refine st_v (rv_move rfl) (by decide) ?_
  refine st_v (rv_lenR (rd_old hB hB.all) Tryd.underlying35 rfl) (by decide) ?_
  first | refine st_v (rv_addN rfl rfl (by first | omega | (simp; done) | (simp; omega))) (by decide) ?_ | refine st_v (rv_addZ rfl rfl (by first | omega | (simp; done) | (simp; omega))) (by decide) ?_
  refine st_make32 Tryd.underlying35 tyZ91 rfl rfl (by omega) (by omega) (by omega) (by decide) (fun b1 hb1 => ?_)
  refine st_v (rv_assign rfl) (by decide) ?_
  refine st_nil ?_
  refine st_then ?_
  refine st_seq ?_
  refine st_seq ?_
  refine st_region ?_
  refine st_v (rv_assign rfl) (by decide) ?_
  refine st_nil ?_
  refine st_then ?_
  refine st_block ?_
  refine st_loopA (σ := Nat) [(0, kst _), (1, kst _), (5, kst _), (6, fun i => vI i)] [fun i => blk b1 (c32 (tOut a b i)) 91] (fun i => i ≤ a.length) (fun i => a.length - i) 0 (by omega) (.cons rfl (.cons rfl (.cons rfl (.cons rfl (.nil _))))) (fun _ hM => hM) ?_
  intro i hI
  try dsimp only at hI
  dsimp only [List.map, kst]
  refine st_seq ?_
  refine st_seq ?_
  refine st_region ?_
  refine st_v (rv_move rfl) (by decide) ?_
  refine st_v (rv_move rfl) (by decide) ?_
  refine st_v (rv_lenR (rd_old hA hA.all) Tryd.underlying35 rfl) (by decide) ?_
  refine st_v (rv_lssZ rfl rfl) (by decide) ?_
  refine st_nil ?_
  refine st_then ?_
  refine st_cond rfl (fun hc18 => ?_) (fun hc18 => ?_)
  · -- t18 True
    try simp only [z1, z2, z3, z4, z5, z6, z7, z8, z9, z10, z11, z12, z13, z14] at hc18
    refine st_skip ?_
    refine st_then ?_
    refine st_seq ?_
    refine st_block ?_
    refine st_seq ?_
    refine st_region ?_
    refine st_v (rv_assign rfl) (by decide) ?_
    refine st_nil ?_
    refine st_then ?_
    refine st_seq ?_
    refine st_seq ?_
    refine st_region ?_
    refine st_v (rv_assign rfl) (by decide) ?_
    refine st_nil ?_
    refine st_then ?_
    refine st_block ?_
    refine st_loopA (σ := Nat) [(0, kst _), (1, kst _), (5, kst _), (6, kst _), (7, fun j => U64 (tIn (a.getD i 0#32) b (tOut a b i) i j).2), (8, fun j => vI j)] [fun j => blk b1 (c32 (tIn (a.getD i 0#32) b (tOut a b i) i j).1) 91] (fun j => j ≤ b.length) (fun j => b.length - j) 0 (by omega) (.cons rfl (.cons rfl (.cons rfl (.cons rfl (.cons rfl (.cons rfl (.nil _))))))) (fun _ hM => hM) ?_
    intro j hI
    try dsimp only at hI
    dsimp only [List.map, kst]
    refine st_seq ?_
    refine st_seq ?_
    refine st_region ?_
    refine st_v (rv_move rfl) (by decide) ?_
    refine st_v (rv_move rfl) (by decide) ?_
    refine st_v (rv_lenR (rd_old hB hB.all) Tryd.underlying35 rfl) (by decide) ?_
    refine st_v (rv_lssZ rfl rfl) (by decide) ?_
    refine st_nil ?_
    refine st_then ?_
    refine st_cond rfl (fun hc24 => ?_) (fun hc24 => ?_)
    · -- t24 True
      try simp only [z1, z2, z3, z4, z5, z6, z7, z8, z9, z10, z11, z12, z13, z14] at hc24
      refine st_skip ?_
      refine st_then ?_
      refine st_seq ?_
      refine st_block ?_
      refine st_seq ?_
      refine st_drawStart mixed ?_
      refine st_drawSeg1 (E0 := [(0, _), (1, _), (5, _), (6, _), (7, _), (8, _)]) [kpeq _, kpeq _, kpeq _, kpeq _, kpeq _, kpeq _, kpeq _, kpeq _, kpeq _, kpeq _, kpeq _, kpeq _, kpeq _, kpeq _, kpeq _, kpeq _, kpeq _, kpeq _, kpeq _, kpeq _] 0 20 [0, 0, 0, 6, 14, 30, 0, 0, 192, 448, 960, 2046, 4095, 0, 0, 0, 49152, 122880, 253952, 516096, 1048575, 2097151] [0, 1, 5, 6, 7, 8] (by kernel_rfl) (by decide) (by kernel_rfl) (.cons rfl (.cons rfl (.cons rfl (.cons rfl (.cons rfl (.cons rfl (.nil _))))))) rfl rfl (hall_cons (hop_mv rfl (by decide) rfl rfl) (hall_cons (hop_mv rfl (by decide) rfl rfl) (hall_cons (hop_mv rfl (by decide) rfl rfl) (hall_cons (hop_val [(1, 28, _), (2, 29, _)] [] rfl rfl rfl (by decide) rfl (jcons rfl rfl rfl rfl rfl (jcons rfl rfl rfl rfl rfl (jnil))) (xnil) (fun _ _ _ _ => does_v (rv_indexR1 (rd_old hA hA.all) Tryd.underlying35 sz91 rfl rfl rfl (by first | omega | (simp [length_tIn, length_tOut] <;> omega))))) (hall_cons (hop_val [(3, 30, _)] [] rfl rfl rfl (by decide) rfl (jcons rfl rfl rfl rfl rfl (jnil)) (xnil) (fun _ _ _ _ => does_v (rv_load_rd (rd_old hA hA.all) tyS91 rfl (get32 (by first | omega | (simp [length_tIn, length_tOut] <;> omega)))))) (hall_cons (hop_val [(4, 31, _)] [] rfl rfl rfl (by decide) rfl (jcons rfl rfl rfl rfl rfl (jnil)) (xnil) (fun _ _ _ _ => does_v (rv_conv32to64 Tryd.underlying91 Tryd.underlying77 rfl))) (hall_cons (hop_mv rfl (by decide) rfl rfl) (hall_cons (hop_mv rfl (by decide) rfl rfl) (hall_cons (hop_val [(6, 33, _), (7, 34, _)] [] rfl rfl rfl (by decide) rfl (jcons rfl rfl rfl rfl rfl (jcons rfl rfl rfl rfl rfl (jnil))) (xnil) (fun _ _ _ _ => does_v (rv_indexR1 (rd_old hB hB.all) Tryd.underlying35 sz91 rfl rfl rfl (by first | omega | (simp [length_tIn, length_tOut] <;> omega))))) (hall_cons (hop_val [(8, 35, _)] [] rfl rfl rfl (by decide) rfl (jcons rfl rfl rfl rfl rfl (jnil)) (xnil) (fun _ _ _ _ => does_v (rv_load_rd (rd_old hB hB.all) tyS91 rfl (get32 (by first | omega | (simp [length_tIn, length_tOut] <;> omega)))))) (hall_cons (hop_val [(9, 36, _)] [] rfl rfl rfl (by decide) rfl (jcons rfl rfl rfl rfl rfl (jnil)) (xnil) (fun _ _ _ _ => does_v (rv_conv32to64 Tryd.underlying91 Tryd.underlying77 rfl))) (hall_cons (hop_val [(5, 32, _), (10, 37, _)] [] rfl rfl rfl (by decide) rfl (jcons rfl rfl rfl rfl rfl (jcons rfl rfl rfl rfl rfl (jnil))) (xnil) (fun _ _ _ _ => does_v (rv_mul64 rfl rfl))) (hall_cons (hop_val [(0, 27, _), (11, 38, _)] [] rfl rfl rfl (by decide) rfl (jcons rfl rfl rfl rfl rfl (jcons rfl rfl rfl rfl rfl (jnil))) (xnil) (fun _ _ _ _ => does_v (rv_add64 rfl rfl))) (hall_cons (hop_mv rfl (by decide) rfl rfl) (hall_cons (hop_mv rfl (by decide) rfl rfl) (hall_cons (hop_mv rfl (by decide) rfl rfl) (hall_cons (hop_val [(14, 41, _), (15, 42, _)] [] rfl rfl rfl (by decide) rfl (jcons rfl rfl rfl rfl rfl (jcons rfl rfl rfl rfl rfl (jnil))) (xnil) (fun _ _ _ _ => does_v (rv_addN rfl rfl (by first | omega | (simp; done) | (simp; omega))))) (hall_cons (hop_val [(13, 40, _), (16, 43, _)] [] rfl rfl rfl (by decide) rfl (jcons rfl rfl rfl rfl rfl (jcons rfl rfl rfl rfl rfl (jnil))) (xnil) (fun _ _ _ _ => does_v (rv_indexS Tryd.underlying35 sz91 rfl rfl rfl (by first | omega | (simp [length_tIn, length_tOut] <;> omega)) (by first | exact (Nat.zero_add _).trans (Nat.mul_one _) | exact congrArg _ (Nat.mul_one _) | rfl)))) (hall_cons (hop_val [(17, 44, _)] [] rfl rfl rfl (by decide) rfl (jcons rfl rfl rfl rfl rfl (jnil)) (xnil) (fun _ _ _ _ => does_v (rv_load_blk tyS91 rfl (i := 0) rfl (cell32 (by first | omega | (simp [length_tIn, length_tOut] <;> omega)))))) (hall_cons (hop_val [(18, 45, _)] [] rfl rfl rfl (by decide) rfl (jcons rfl rfl rfl rfl rfl (jnil)) (xnil) (fun _ _ _ _ => does_v (rv_conv32to64 Tryd.underlying91 Tryd.underlying77 rfl))) (hall_nil))))))))))))))))))))) (draw_end1 [(12, 39, _), (19, 46, _)] (jcons rfl rfl rfl rfl rfl (jcons rfl rfl rfl rfl rfl (jnil))) ?_)
      refine st_drawTail (N := 20) [0, 0, 0, 6, 14, 30, 0, 0, 192, 448, 960, 2046, 4095, 0, 0, 0, 49152, 122880, 253952, 516096, 1048575, 2097151] (by kernel_rfl) (by kernel_rfl) ?_
      refine st_v (rv_add64 rfl rfl) (by decide) ?_
      refine st_v (rv_assign rfl) (by decide) ?_
      refine st_nil ?_
      refine st_then ?_
      refine st_seq ?_
      refine st_region ?_
      refine st_v (rv_move rfl) (by decide) ?_
      refine st_v (rv_move rfl) (by decide) ?_
      refine st_v (rv_move rfl) (by decide) ?_
      first | refine st_v (rv_addN rfl rfl (by first | omega | (simp; done) | (simp; omega))) (by decide) ?_ | refine st_v (rv_addZ rfl rfl (by first | omega | (simp; done) | (simp; omega))) (by decide) ?_
      refine st_v (rv_move rfl) (by decide) ?_
      refine st_v (rv_conv64to32 Tryd.underlying77 Tryd.underlying91 rfl) (by decide) ?_
      refine st_v (rv_indexS Tryd.underlying35 sz91 rfl rfl rfl (by first | omega | (simp [length_tIn, length_tOut] <;> omega)) (by first | exact (Nat.zero_add _).trans (Nat.mul_one _) | exact congrArg _ (Nat.mul_one _) | rfl)) (by decide) ?_
      refine st_store32 rfl rfl (i := 0) rfl sz91 (by first | omega | (simp [length_tIn, length_tOut] <;> omega)) (l' := [_]) rfl ?_
      refine st_nil ?_
      refine st_then ?_
      refine st_region ?_
      refine st_v (rv_move rfl) (by decide) ?_
      refine st_v (rv_shr64 (s := 32) rfl rfl rfl) (by decide) ?_
      refine st_v (rv_assign rfl) (by decide) ?_
      refine st_nil ?_
      refine st_in_normal ?_
      refine st_then ?_
      refine st_region ?_
      refine st_v (rv_move rfl) (by decide) ?_
      first | refine st_v (rv_addN (b := 1) rfl rfl (by first | omega | (simp; done) | (simp; omega))) (by decide) ?_ | refine st_v (rv_addZ rfl rfl (by first | omega | (simp; done) | (simp; omega))) (by decide) ?_
      refine st_v (rv_assign rfl) (by decide) ?_
      refine st_nil ?_
      refine st_then ?_
      exact st_again (j + 1) (by omega) (by omega) (.cons rfl (.cons rfl (.cons rfl (.cons rfl (.cons rfl (.cons rfl (.nil _))))))) (fun _ hM => hM)
    · -- t24 False
      try simp only [z1, z2, z3, z4, z5, z6, z7, z8, z9, z10, z11, z12, z13, z14] at hc24
      obtain rfl : j = b.length := by omega
      refine st_exit ?_
      refine st_then_exit ?_
      refine st_then_exit ?_
      refine st_in_exit ?_
      refine st_then ?_
      refine st_region ?_
      refine st_v (rv_move rfl) (by decide) ?_
      refine st_v (rv_move rfl) (by decide) ?_
      refine st_v (rv_move rfl) (by decide) ?_
      refine st_v (rv_lenR (rd_old hB hB.all) Tryd.underlying35 rfl) (by decide) ?_
      first | refine st_v (rv_addN rfl rfl (by first | omega | (simp; done) | (simp; omega))) (by decide) ?_ | refine st_v (rv_addZ rfl rfl (by first | omega | (simp; done) | (simp; omega))) (by decide) ?_
      refine st_v (rv_move rfl) (by decide) ?_
      refine st_v (rv_conv64to32 Tryd.underlying77 Tryd.underlying91 rfl) (by decide) ?_
      refine st_v (rv_indexS Tryd.underlying35 sz91 rfl rfl rfl (by first | omega | (simp [length_tIn, length_tOut] <;> omega)) (by first | exact (Nat.zero_add _).trans (Nat.mul_one _) | exact congrArg _ (Nat.mul_one _) | rfl)) (by decide) ?_
      refine st_store32 rfl rfl (i := 0) rfl sz91 (by first | omega | (simp [length_tIn, length_tOut] <;> omega)) (l' := [_]) rfl ?_
      refine st_nil ?_
      refine st_in_normal ?_
      refine st_then ?_
      refine st_region ?_
      refine st_v (rv_move rfl) (by decide) ?_
      first | refine st_v (rv_addN (b := 1) rfl rfl (by first | omega | (simp; done) | (simp; omega))) (by decide) ?_ | refine st_v (rv_addZ rfl rfl (by first | omega | (simp; done) | (simp; omega))) (by decide) ?_
      refine st_v (rv_assign rfl) (by decide) ?_
      refine st_nil ?_
      refine st_then ?_
      exact st_again (i + 1) (by omega) (by omega) (.cons rfl (.cons rfl (.cons rfl (.cons rfl (.nil _))))) (fun _ hM => hM)
  · -- t18 False
    try simp only [z1, z2, z3, z4, z5, z6, z7, z8, z9, z10, z11, z12, z13, z14] at hc18
    obtain rfl : i = a.length := by omega
    refine st_exit ?_
    refine st_then_exit ?_
    refine st_then_exit ?_
    refine st_in_exit ?_
    refine st_then ?_
    refine st_seq ?_
    refine st_region ?_
    refine st_v (rv_move rfl) (by decide) ?_
    refine st_v (rv_assign rfl) (by decide) ?_
    refine st_nil ?_
    refine st_then ?_
    refine st_ret ?_
    exact st_done rfl rfl (fun w hM => ⟨_, rfl, (hM.c32Own (i := 0) rfl (length_tOut a b _)).sublist (List.cons_sublist_cons.2 (List.nil_sublist _))⟩)
set_option maxRecDepth 20000 in
theorem above_calls (v u : Value) (a b : List (BitVec 32)) (ha : a.length ≤ 1000) (hb : b.length ≤ 1000) (w : World) (hA : Rd w v a.length 1 (a.map U32)) (hB : Rd w u b.length 1 (b.map U32)) : Calls Tryd.prog 139 #[v, u] w (fun r w' => r = .returned (.bool (aboveW a b (max a.length b.length))) ∧ Mem (All w) w w' []) := by
  refine calls_of_st (n := 45) (args := [v, u]) Tryd.func139 rfl Tryd.ntmps139 (Nat.le_of_ble_eq_true rfl) (Mem.all w) ?_
  refine st_seq ?_
  refine st_region ?_
  refine st_v (rv_assign rfl) (by decide) ?_
  refine st_nil ?_
  refine st_then ?_
  refine st_seq ?_
  refine st_region ?_
  refine st_v (rv_move rfl) (by decide) ?_
  refine st_v (rv_lenR (rd_old hA hA.all) Tryd.underlying35 rfl) (by decide) ?_
  refine st_v (rv_assign rfl) (by decide) ?_
  refine st_nil ?_
  refine st_then ?_
  refine st_cutB (σ := Unit) [(0, _), (1, _)] [] (.cons rfl (.cons rfl (.nil _))) (fun w hM => hM.sublist (List.Sublist.slnil)) [(5, fun _ => vI (max a.length b.length : Nat))] [] (fun _ => True) ?_ ?_
  · -- up to the cut
    refine st_seq ?_
    refine st_region ?_
    refine st_v (rv_move rfl) (by decide) ?_
    refine st_v (rv_lenR (rd_old hB hB.all) Tryd.underlying35 rfl) (by decide) ?_
    refine st_v (rv_move rfl) (by decide) ?_
    refine st_v (rv_gtrZ rfl rfl) (by decide) ?_
    refine st_nil ?_
    refine st_then ?_
    refine st_cond rfl (fun hc14 => ?_) (fun hc14 => ?_)
    · -- t14 True
      try simp only [z1, z2, z3, z4, z5, z6, z7, z8, z9, z10, z11, z12, z13, z14] at hc14
      refine st_region ?_
      refine st_v (rv_move rfl) (by decide) ?_
      refine st_v (rv_lenR (rd_old hB hB.all) Tryd.underlying35 rfl) (by decide) ?_
      refine st_v (rv_assign rfl) (by decide) ?_
      refine st_nil ?_
      refine st_then ?_
      exact st_meet () (trivial) (SubE.cons (congrArg some (congrArg (fun z : Nat => vI z) (by omega))) (.cons rfl (.cons rfl (.nil _)))) (fun _ hM => hM)
    · -- t14 False
      try simp only [z1, z2, z3, z4, z5, z6, z7, z8, z9, z10, z11, z12, z13, z14] at hc14
      refine st_skip ?_
      refine st_then ?_
      exact st_meet () (trivial) (SubE.cons (congrArg some (congrArg (fun z : Nat => vI z) (by omega))) (.cons rfl (.cons rfl (.nil _)))) (fun _ hM => hM)
  · -- behind the cut
    intro _ hI
    try dsimp only at hI
    dsimp only [List.map, List.cons_append, List.nil_append]
    refine st_seq ?_
    refine st_seq ?_
    refine st_region ?_
    refine st_v (rv_move rfl) (by decide) ?_
    first | refine st_v (rv_subN (b := 1) rfl rfl (by first | omega | (simp; done) | (simp; omega))) (by decide) ?_ | refine st_v (rv_subZ rfl rfl (by first | omega | (simp; done) | (simp; omega))) (by decide) ?_
    refine st_v (rv_assign rfl) (by decide) ?_
    refine st_nil ?_
    refine st_then ?_
    refine st_block ?_
    refine st_loopA (σ := Nat) [(0, kst _), (1, kst _), (6, fun j => vI ((j : Int) - 1))] [] (fun j => j ≤ max a.length b.length ∧ aboveW a b (max a.length b.length) = aboveW a b j) (fun j => j) (max a.length b.length) (⟨Nat.le_refl _, rfl⟩) (.cons rfl (.cons rfl (SubE.cons (congrArg some (congrArg (fun z : Int => vI z) (by first | rfl | omega))) (.nil _)))) (fun _ hM => hM) ?_
    intro j hI
    try dsimp only at hI
    dsimp only [List.map, kst]
    refine st_seq ?_
    refine st_seq ?_
    refine st_region ?_
    refine st_v (rv_move rfl) (by decide) ?_
    refine st_v (rv_geqZ rfl rfl) (by decide) ?_
    refine st_nil ?_
    refine st_then ?_
    refine st_cond rfl (fun hc20 => ?_) (fun hc20 => ?_)
    · -- t20 True
      try simp only [z1, z2, z3, z4, z5, z6, z7, z8, z9, z10, z11, z12, z13, z14] at hc20
      obtain ⟨m, rfl⟩ : ∃ m, j = m + 1 := ⟨j - 1, by omega⟩
      obtain ⟨hJ1, hJ2⟩ := id hI
      rw [show (((m + 1 : Nat) : Int) - 1) = ((m : Nat) : Int) by omega]
      refine st_skip ?_
      refine st_then ?_
      refine st_seq ?_
      refine st_block ?_
      refine st_seq ?_
      refine st_region ?_
      refine st_v (rv_assign rfl) (by decide) ?_
      refine st_nil ?_
      refine st_then ?_
      refine st_seq ?_
      refine st_region ?_
      refine st_v (rv_assign rfl) (by decide) ?_
      refine st_nil ?_
      refine st_then ?_
      refine st_cutB (σ := Unit) [(0, _), (1, _), (6, _), (8, _)] [] (.cons rfl (.cons rfl (.cons rfl (.cons rfl (.nil _))))) (fun w hM => hM.sublist (List.Sublist.slnil)) [(7, fun _ => U32 (a.getD m 0#32))] [] (fun _ => True) ?_ ?_
      · -- up to the cut
        refine st_seq ?_
        refine st_region ?_
        refine st_v (rv_move rfl) (by decide) ?_
        refine st_v (rv_move rfl) (by decide) ?_
        refine st_v (rv_lenR (rd_old hA hA.all) Tryd.underlying35 rfl) (by decide) ?_
        refine st_v (rv_lssZ rfl rfl) (by decide) ?_
        refine st_nil ?_
        refine st_then ?_
        refine st_cond rfl (fun hc26 => ?_) (fun hc26 => ?_)
        · -- t26 True
          try simp only [z1, z2, z3, z4, z5, z6, z7, z8, z9, z10, z11, z12, z13, z14] at hc26
          refine st_region ?_
          refine st_v (rv_move rfl) (by decide) ?_
          refine st_v (rv_move rfl) (by decide) ?_
          refine st_v (rv_indexR1 (rd_old hA hA.all) Tryd.underlying35 sz91 rfl rfl rfl (by first | omega | (simp <;> omega))) (by decide) ?_
          refine st_v (rv_load_rd (rd_old hA hA.all) tyS91 rfl (get32 (by first | omega | (simp <;> omega)))) (by decide) ?_
          refine st_v (rv_assign rfl) (by decide) ?_
          refine st_nil ?_
          refine st_then ?_
          exact st_meet () (trivial) (SubE.cons ((by first | rfl | exact congrArg some (show Value.int .u32 0 = U32 (a.getD m 0#32) by rw [getD_out (by omega)]; rfl))) (.cons rfl (.cons rfl (.cons rfl (.cons rfl (.nil _)))))) (fun _ hM => hM)
        · -- t26 False
          try simp only [z1, z2, z3, z4, z5, z6, z7, z8, z9, z10, z11, z12, z13, z14] at hc26
          refine st_skip ?_
          refine st_then ?_
          exact st_meet () (trivial) (SubE.cons ((by first | rfl | exact congrArg some (show Value.int .u32 0 = U32 (a.getD m 0#32) by rw [getD_out (by omega)]; rfl))) (.cons rfl (.cons rfl (.cons rfl (.cons rfl (.nil _)))))) (fun _ hM => hM)
      · -- behind the cut
        intro _ hI
        try dsimp only at hI
        dsimp only [List.map, List.cons_append, List.nil_append]
        refine st_cutB (σ := Unit) [(0, _), (1, _), (6, _), (7, _)] [] (.cons rfl (.cons rfl (.cons rfl (.cons rfl (.nil _))))) (fun w hM => hM.sublist (List.Sublist.slnil)) [(8, fun _ => U32 (b.getD m 0#32))] [] (fun _ => True) ?_ ?_
        · -- up to the cut
          refine st_seq ?_
          refine st_region ?_
          refine st_v (rv_move rfl) (by decide) ?_
          refine st_v (rv_move rfl) (by decide) ?_
          refine st_v (rv_lenR (rd_old hB hB.all) Tryd.underlying35 rfl) (by decide) ?_
          refine st_v (rv_lssZ rfl rfl) (by decide) ?_
          refine st_nil ?_
          refine st_then ?_
          refine st_cond rfl (fun hc34 => ?_) (fun hc34 => ?_)
          · -- t34 True
            try simp only [z1, z2, z3, z4, z5, z6, z7, z8, z9, z10, z11, z12, z13, z14] at hc34
            refine st_region ?_
            refine st_v (rv_move rfl) (by decide) ?_
            refine st_v (rv_move rfl) (by decide) ?_
            refine st_v (rv_indexR1 (rd_old hB hB.all) Tryd.underlying35 sz91 rfl rfl rfl (by first | omega | (simp <;> omega))) (by decide) ?_
            refine st_v (rv_load_rd (rd_old hB hB.all) tyS91 rfl (get32 (by first | omega | (simp <;> omega)))) (by decide) ?_
            refine st_v (rv_assign rfl) (by decide) ?_
            refine st_nil ?_
            refine st_then ?_
            exact st_meet () (trivial) (SubE.cons ((by first | rfl | exact congrArg some (show Value.int .u32 0 = U32 (b.getD m 0#32) by rw [getD_out (by omega)]; rfl))) (.cons rfl (.cons rfl (.cons rfl (.cons rfl (.nil _)))))) (fun _ hM => hM)
          · -- t34 False
            try simp only [z1, z2, z3, z4, z5, z6, z7, z8, z9, z10, z11, z12, z13, z14] at hc34
            refine st_skip ?_
            refine st_then ?_
            exact st_meet () (trivial) (SubE.cons ((by first | rfl | exact congrArg some (show Value.int .u32 0 = U32 (b.getD m 0#32) by rw [getD_out (by omega)]; rfl))) (.cons rfl (.cons rfl (.cons rfl (.cons rfl (.nil _)))))) (fun _ hM => hM)
        · -- behind the cut
          intro _ hI
          try dsimp only at hI
          dsimp only [List.map, List.cons_append, List.nil_append]
          refine st_seq ?_
          refine st_region ?_
          refine st_v (rv_move rfl) (by decide) ?_
          refine st_v (rv_move rfl) (by decide) ?_
          refine st_v (rv_neq32 rfl rfl) (by decide) ?_
          refine st_nil ?_
          refine st_then ?_
          refine st_cond rfl (fun hc41 => ?_) (fun hc41 => ?_)
          · -- t41 True
            try simp only [z1, z2, z3, z4, z5, z6, z7, z8, z9, z10, z11, z12, z13, z14] at hc41
            refine st_seq ?_
            refine st_region ?_
            refine st_v (rv_move rfl) (by decide) ?_
            refine st_v (rv_move rfl) (by decide) ?_
            refine st_v (rv_gtr32 rfl rfl) (by decide) ?_
            refine st_v (rv_assign rfl) (by decide) ?_
            refine st_nil ?_
            refine st_then ?_
            refine st_ret ?_
            refine st_in_ret ?_
            refine st_then_ret ?_
            refine st_then_ret ?_
            refine st_in_ret ?_
            refine st_then_ret ?_
            exact st_done rfl rfl (fun w hM => ⟨by first | (rw [hJ2, aboveW, if_neg hc41]; done) | (rw [hJ2]; rfl), hM.sublist (List.nil_sublist _)⟩)
          · -- t41 False
            try simp only [z1, z2, z3, z4, z5, z6, z7, z8, z9, z10, z11, z12, z13, z14] at hc41
            have heq : a.getD m 0#32 = b.getD m 0#32 := by simpa using hc41
            refine st_skip ?_
            refine st_in_normal ?_
            refine st_then ?_
            refine st_region ?_
            refine st_v (rv_move rfl) (by decide) ?_
            first | refine st_v (rv_subN (b := 1) rfl rfl (by first | omega | (simp; done) | (simp; omega))) (by decide) ?_ | refine st_v (rv_subZ rfl rfl (by first | omega | (simp; done) | (simp; omega))) (by decide) ?_
            refine st_v (rv_assign rfl) (by decide) ?_
            refine st_nil ?_
            refine st_then ?_
            exact st_again m (⟨by omega, by rw [hJ2, aboveW, if_pos heq]⟩) (by omega) (.cons rfl (.cons rfl (SubE.cons (congrArg some (congrArg (fun z : Int => vI z) (by first | rfl | omega))) (.nil _)))) (fun _ hM => hM)
    · -- t20 False
      try simp only [z1, z2, z3, z4, z5, z6, z7, z8, z9, z10, z11, z12, z13, z14] at hc20
      obtain rfl : j = 0 := by omega
      have hJ2 := hI.2
      refine st_exit ?_
      refine st_then_exit ?_
      refine st_then_exit ?_
      refine st_in_exit ?_
      refine st_then ?_
      refine st_seq ?_
      refine st_region ?_
      refine st_v (rv_assign rfl) (by decide) ?_
      refine st_nil ?_
      refine st_then ?_
      refine st_ret ?_
      exact st_done rfl rfl (fun w hM => ⟨by first | (rw [hJ2, aboveW, if_neg hc41]; done) | (rw [hJ2]; rfl), hM.sublist (List.nil_sublist _)⟩)
theorem aboveF_calls (p : BitVec 64) (pw : Nat) (t : List (BitVec 32)) (v u : Value) (ht : t.length = 3) (hp : pw ≤ 3) (w : World) (hA : Rd w v (frX t pw).length 1 ((frX t pw).map U32)) (hB : Rd w u (limW p pw).length 1 ((limW p pw).map U32)) :
    Calls Tryd.prog 139 #[v, u] w (fun r w' => r = .returned (.bool (frB p pw t)) ∧ Mem (All w) w w' []) :=
  above_calls v u (frX t pw) (limW p pw) (by have := length_frX ht pw; omega) (by rw [length_limW]; omega) w hA hB
set_option maxRecDepth 20000 in
set_option maxHeartbeats 1000000 in
theorem fraction2_calls (p : BitVec 64) (w : World) : Calls Tryd.prog 122 #[U64 p, vI (2 : Nat)] w (fun r w' => r = .returned (U64 (fracW p 2)) ∧ Mem (All w) w w' []) := by
  refine calls_of_st (n := 66) (args := [U64 p, vI (2 : Nat)]) Tryd.func122 rfl Tryd.ntmps122 (Nat.le_of_ble_eq_true rfl) (Mem.all w) ?_
  refine st_seq ?_
  refine st_region ?_
  refine st_v (rv_assign rfl) (by decide) ?_
  refine st_nil ?_
  refine st_then ?_
  refine st_seq ?_
  refine st_region ?_
  refine st_v (rv_move rfl) (by decide) ?_
  first | refine st_v (rv_mulN (a := 2) rfl rfl (by first | omega | (simp; done) | (simp; omega))) (by decide) ?_ | refine st_v (rv_mulZ rfl rfl (by first | omega | (simp; done) | (simp; omega))) (by decide) ?_
  first | refine st_v (rv_addN (b := 1) rfl rfl (by first | omega | (simp; done) | (simp; omega))) (by decide) ?_ | refine st_v (rv_addZ rfl rfl (by first | omega | (simp; done) | (simp; omega))) (by decide) ?_
  refine st_make32 Tryd.underlying35 tyZ91 rfl rfl (by omega) (by omega) (by omega) (by decide) (fun b1 hb1 => ?_)
  refine st_v (rv_assign rfl) (by decide) ?_
  refine st_nil ?_
  refine st_then ?_
  refine st_seq ?_
  refine st_region ?_
  refine st_v (rv_move rfl) (by decide) ?_
  refine st_v (rv_move rfl) (by decide) ?_
  first | refine st_v (rv_mulN (a := 2) rfl rfl (by first | omega | (simp; done) | (simp; omega))) (by decide) ?_ | refine st_v (rv_mulZ rfl rfl (by first | omega | (simp; done) | (simp; omega))) (by decide) ?_
  refine st_v (rv_move rfl) (by decide) ?_
  refine st_v (rv_conv64to32 Tryd.underlying77 Tryd.underlying91 rfl) (by decide) ?_
  refine st_v (rv_indexS Tryd.underlying35 sz91 rfl rfl rfl (by first | omega | (simp [length_frT, length_frW, length_timesW, length_limW] <;> omega)) (by first | exact (Nat.zero_add _).trans (Nat.mul_one _) | exact congrArg _ (Nat.mul_one _) | rfl)) (by decide) ?_
  refine st_store32 rfl rfl (i := 0) rfl sz91 (by first | omega | (simp [length_frT, length_frW, length_timesW, length_limW] <;> omega)) (l' := [_]) rfl ?_
  refine st_nil ?_
  refine st_then ?_
  refine st_seq ?_
  refine st_region ?_
  refine st_buildO Tryd.underlying35 tyZ91 rfl rfl (by decide) (cs := (([0#32, 0#32, 0#32] : List (BitVec 32)).map U32).toArray) rfl rfl (by decide) (fun v2 => ?_)
  refine st_v (rv_assign rfl) (by decide) ?_
  refine st_nil ?_
  refine st_then ?_
  refine st_seq ?_
  refine st_seq ?_
  refine st_region ?_
  refine st_v (rv_assign rfl) (by decide) ?_
  refine st_nil ?_
  refine st_then ?_
  refine st_block ?_
  refine st_loopA (σ := Nat × Value) [(1, kst _), (5, kst _), (6, fun (s, y) => y), (7, fun (s, y) => vI ((68 : Int) - s))] [fun (s, y) => own y 91 1 3 ((frW p 2 s).map U32), kst _] (fun (s, y) => s ≤ 69) (fun (s, y) => 69 - s) (0, _) (by omega) (.cons rfl (.cons rfl (.cons rfl (SubE.cons (congrArg some (congrArg (fun z : Int => vI z) (by first | rfl | omega))) (.nil _))))) (fun _ hM => hM) ?_
  intro ⟨s, y⟩ hI
  try dsimp only at hI
  dsimp only [List.map, kst]
  refine st_seq ?_
  refine st_seq ?_
  refine st_region ?_
  refine st_v (rv_move rfl) (by decide) ?_
  refine st_v (rv_geqZ rfl rfl) (by decide) ?_
  refine st_nil ?_
  refine st_then ?_
  refine st_cond rfl (fun hc23 => ?_) (fun hc23 => ?_)
  · -- t23 True
    try simp only [z1, z2, z3, z4, z5, z6, z7, z8, z9, z10, z11, z12, z13, z14] at hc23
    have hs : s ≤ 68 := by omega
    rw [show ((68 : Int) - s) = ((68 - s : Nat) : Int) by omega]
    refine st_skip ?_
    refine st_then ?_
    refine st_seq ?_
    refine st_block ?_
    refine st_seq ?_
    refine st_region ?_
    refine st_buildO Tryd.underlying35 tyZ91 rfl rfl (by decide) (cs := (([] : List (BitVec 32)).map U32).toArray) rfl rfl (by decide) (fun v3 => ?_)
    refine st_v (rv_move rfl) (by decide) ?_
    refine st_append Tryd.underlying35 Tryd.underlying35 (.inr ⟨_, rfl⟩) tyZ91 rfl rfl rfl (i := 0) rfl (one32 _) (fun w hM => src_rd ((rd_own (i := 1) rfl) w hM) (one32 _)) (by first | omega | (simp; omega)) (by first | omega | (simp; omega)) (by decide) (fun v3 => ?_)
    rw [← List.map_append, List.nil_append, Nat.zero_add]
    refine st_v (rv_assign rfl) (by decide) ?_
    refine st_nil ?_
    refine st_then ?_
    refine st_seq ?_
    refine st_drawStart mixed ?_
    refine st_drawSeg1 (E0 := [(1, _), (5, _), (6, _), (7, _), (8, _)]) [kpeq _, kpeq _, kpeq _, kpeq _, kpeq _, kpeq _, kpeq _, kpeq _, kpeq _, kpeq _, kpeq _, kpeq _] 0 12 [0, 0, 2, 0, 0, 16, 56, 120, 0, 256, 768, 2040, 4095, 8191] [1, 5, 6, 7, 8] (by kernel_rfl) (by decide) (by kernel_rfl) (.cons rfl (.cons rfl (.cons rfl (.cons rfl (.cons rfl (.nil _)))))) rfl rfl (hall_cons (hop_mv rfl (by decide) rfl rfl) (hall_cons (hop_mv rfl (by decide) rfl rfl) (hall_cons (hop_val [(1, 30, _)] [] rfl rfl rfl (by decide) rfl (jcons rfl rfl rfl rfl rfl (jnil)) (xnil) (fun _ _ _ _ => does_v (rv_quoN (b := 32) rfl rfl (by first | omega | (simp; done) | (simp; omega))))) (hall_cons (hop_mv rfl (by decide) rfl rfl) (hall_cons (hop_mv rfl (by decide) rfl rfl) (hall_cons (hop_val [(4, 33, _)] [] rfl rfl rfl (by decide) rfl (jcons rfl rfl rfl rfl rfl (jnil)) (xnil) (fun _ _ _ _ => does_v (rv_quoN (b := 32) rfl rfl (by first | omega | (simp; done) | (simp; omega))))) (hall_cons (hop_val [(3, 32, _), (5, 34, _)] [] rfl rfl rfl (by decide) rfl (jcons rfl rfl rfl rfl rfl (jcons rfl rfl rfl rfl rfl (jnil))) (xnil) (fun _ _ _ _ => does_v (rv_indexR1 (rd_own (i := 0) rfl) Tryd.underlying35 sz91 rfl rfl rfl (by first | omega | (simp [length_frT, length_frW, length_timesW, length_limW] <;> omega))))) (hall_cons (hop_val [(6, 35, _)] [] rfl rfl rfl (by decide) rfl (jcons rfl rfl rfl rfl rfl (jnil)) (xnil) (fun _ _ _ _ => does_v (rv_load_rd (rd_own (i := 0) rfl) tyS91 rfl (get32 (by first | omega | (simp [length_frT, length_frW, length_timesW, length_limW] <;> omega)))))) (hall_cons (hop_mv rfl (by decide) rfl rfl) (hall_cons (hop_val [(8, 37, _)] [] rfl rfl rfl (by decide) rfl (jcons rfl rfl rfl rfl rfl (jnil)) (xnil) (fun _ _ _ _ => does_v (rv_remN (b := 32) rfl rfl (by first | omega | (simp; done) | (simp; omega))))) (hall_cons (hop_val [(9, 38, _)] [] rfl rfl rfl (by decide) rfl (jcons rfl rfl rfl rfl rfl (jnil)) (xnil) (fun _ _ _ _ => does_v (rv_shl32 (a := 1#32) rfl rfl rfl))) (hall_cons (hop_val [(7, 36, _), (10, 39, _)] [] rfl rfl rfl (by decide) rfl (jcons rfl rfl rfl rfl rfl (jcons rfl rfl rfl rfl rfl (jnil))) (xnil) (fun _ _ _ _ => does_v (rv_or32 rfl rfl))) (hall_nil))))))))))))) (draw_end1 [(0, 29, _), (2, 31, _), (11, 40, _)] (jcons rfl rfl rfl rfl rfl (jcons rfl rfl rfl rfl rfl (jcons rfl rfl rfl rfl rfl (jnil)))) ?_)
    refine st_drawTail (N := 12) [0, 0, 2, 0, 0, 16, 56, 120, 0, 256, 768, 2040, 4095, 8191] (by kernel_rfl) (by kernel_rfl) ?_
    refine st_v (rv_indexR1 (rd_own (i := 0) rfl) Tryd.underlying35 sz91 rfl rfl rfl (by first | omega | (simp [length_frT, length_frW, length_timesW, length_limW] <;> omega))) (by decide) ?_
    refine st_storeOwn32 rfl rfl (i := 0) rfl sz91 (by first | omega | (simp [length_frT, length_frW, length_timesW, length_limW] <;> omega)) rfl ?_
    refine st_nil ?_
    refine st_then ?_
    refine st_seq ?_
    refine st_region ?_
    refine st_v (rv_move rfl) (by decide) ?_
    refine st_v (rv_move rfl) (by decide) ?_
    refine st_callV cal138 rfl (fun w hM => (times_calls _ _ (frT (frW p 2 s) (68 - s)) (frT (frW p 2 s) (68 - s)) (by simp [length_frT, length_frW]) (by simp [length_frT, length_frW]) w (Rd.n_eq ((rd_own (i := 0) rfl) w hM) (by simp only [length_timesW, length_frT, length_frW])) (Rd.n_eq ((rd_own (i := 0) rfl) w hM) (by simp only [length_timesW, length_frT, length_frW])))) (by decide) (fun v4 => ?_)
    refine st_v (rv_assign rfl) (by decide) ?_
    refine st_nil ?_
    refine st_then ?_
    refine st_seq ?_
    refine st_seq ?_
    refine st_region ?_
    refine st_v (rv_move rfl) (by decide) ?_
    refine st_v (rv_eqlZ rfl rfl) (by decide) ?_
    refine st_nil ?_
    refine st_then ?_
    refine st_false rfl ?_
    refine st_skip ?_
    refine st_then ?_
    refine st_seq ?_
    refine st_region ?_
    refine st_v (rv_move rfl) (by decide) ?_
    refine st_v (rv_move rfl) (by decide) ?_
    refine st_call0 cal139 rfl (fun w hM => (aboveF_calls p 2 (frT (frW p 2 s) (68 - s)) _ _ (by simp [length_frT, length_frW]) (by decide) w (Rd.n_eq ((rd_own (i := 0) rfl) w hM) (by simp [frX, length_timesW, length_frT, length_frW])) (Rd.n_eq ((rd_w32 (i := 3) rfl (by first | omega | (simp [length_frT, length_frW, length_timesW, length_limW]; done) | (simp [length_frT, length_frW, length_timesW, length_limW] <;> omega)) (by omega)) w hM) (by simp [limW])))) (by decide) ?_
    refine st_v (rv_assign rfl) (by decide) ?_
    refine st_nil ?_
    refine st_then ?_
    refine st_seq ?_
    refine st_region ?_
    refine st_v (rv_move rfl) (by decide) ?_
    refine st_v (rv_not rfl) (by decide) ?_
    refine st_nil ?_
    refine st_then ?_
    refine st_cond rfl (fun hc54 => ?_) (fun hc54 => ?_)
    · -- t54 True
      try simp only [z1, z2, z3, z4, z5, z6, z7, z8, z9, z10, z11, z12, z13, z14] at hc54
      have hfr : frW p 2 (s + 1) = (frT (frW p 2 s) (68 - s)) := by rw [frW, if_neg (by simpa using hc54)]
      refine st_region ?_
      refine st_v (rv_move rfl) (by decide) ?_
      refine st_v (rv_assign rfl) (by decide) ?_
      refine st_nil ?_
      refine st_in_normal ?_
      refine st_then ?_
      refine st_region ?_
      refine st_v (rv_move rfl) (by decide) ?_
      first | refine st_v (rv_subN (b := 1) rfl rfl (by first | omega | (simp; done) | (simp; omega))) (by decide) ?_ | refine st_v (rv_subZ rfl rfl (by first | omega | (simp; done) | (simp; omega))) (by decide) ?_
      refine st_v (rv_assign rfl) (by decide) ?_
      refine st_nil ?_
      refine st_then ?_
      exact st_again (s + 1, _) (by omega) (by omega) (.cons rfl (.cons rfl (.cons rfl (SubE.cons (congrArg some (congrArg (fun z : Int => vI z) (by first | rfl | omega))) (.nil _))))) (by intro w hM; have hM := hM.sublist (List.Sublist.cons _ (List.Sublist.cons_cons _ (List.Sublist.cons _ (List.Sublist.cons_cons _ (List.Sublist.slnil))))); (rw [hfr]); exact hM)
    · -- t54 False
      try simp only [z1, z2, z3, z4, z5, z6, z7, z8, z9, z10, z11, z12, z13, z14] at hc54
      have hfr : frW p 2 (s + 1) = frW p 2 s := by rw [frW, if_pos (by simpa using hc54)]
      refine st_skip ?_
      refine st_in_normal ?_
      refine st_then ?_
      refine st_region ?_
      refine st_v (rv_move rfl) (by decide) ?_
      first | refine st_v (rv_subN (b := 1) rfl rfl (by first | omega | (simp; done) | (simp; omega))) (by decide) ?_ | refine st_v (rv_subZ rfl rfl (by first | omega | (simp; done) | (simp; omega))) (by decide) ?_
      refine st_v (rv_assign rfl) (by decide) ?_
      refine st_nil ?_
      refine st_then ?_
      exact st_again (s + 1, _) (by omega) (by omega) (.cons rfl (.cons rfl (.cons rfl (SubE.cons (congrArg some (congrArg (fun z : Int => vI z) (by first | rfl | omega))) (.nil _))))) (by intro w hM; have hM := hM.sublist (List.Sublist.cons _ (List.Sublist.cons _ (List.Sublist.cons_cons _ (List.Sublist.cons_cons _ (List.Sublist.slnil))))); (rw [hfr]); exact hM)
  · -- t23 False
    try simp only [z1, z2, z3, z4, z5, z6, z7, z8, z9, z10, z11, z12, z13, z14] at hc23
    obtain rfl : s = 69 := by omega
    refine st_exit ?_
    refine st_then_exit ?_
    refine st_then_exit ?_
    refine st_in_exit ?_
    refine st_then ?_
    refine st_seq ?_
    refine st_drawStart mixed ?_
    refine st_drawSeg1 (E0 := [(6, _)]) [kpeq _, kpeq _, kpeq _, kpeq _, kpeq _, kpeq _, kpeq _, kpeq _, kpeq _] 0 9 [0, 1, 3, 7, 15, 0, 32, 96, 224, 511, 1023] [6] (by kernel_rfl) (by decide) (by kernel_rfl) (.cons rfl (.nil _)) rfl rfl (hall_cons (hop_mv rfl (by decide) rfl rfl) (hall_cons (hop_val [(0, 56, _)] [] rfl rfl rfl (by decide) rfl (jcons rfl rfl rfl rfl rfl (jnil)) (xnil) (fun _ _ _ _ => does_v (rv_indexR1 (rd_own (i := 0) rfl) Tryd.underlying35 sz91 rfl rfl (j := 1) rfl (by first | omega | (simp [length_frT, length_frW, length_timesW, length_limW] <;> omega))))) (hall_cons (hop_val [(1, 57, _)] [] rfl rfl rfl (by decide) rfl (jcons rfl rfl rfl rfl rfl (jnil)) (xnil) (fun _ _ _ _ => does_v (rv_load_rd (rd_own (i := 0) rfl) tyS91 rfl (get32 (by first | omega | (simp [length_frT, length_frW, length_timesW, length_limW] <;> omega)))))) (hall_cons (hop_val [(2, 58, _)] [] rfl rfl rfl (by decide) rfl (jcons rfl rfl rfl rfl rfl (jnil)) (xnil) (fun _ _ _ _ => does_v (rv_conv32to64 Tryd.underlying91 Tryd.underlying77 rfl))) (hall_cons (hop_val [(3, 59, _)] [] rfl rfl rfl (by decide) rfl (jcons rfl rfl rfl rfl rfl (jnil)) (xnil) (fun _ _ _ _ => does_v (rv_shl64 (s := 32) rfl rfl rfl))) (hall_cons (hop_mv rfl (by decide) rfl rfl) (hall_cons (hop_val [(5, 61, _)] [] rfl rfl rfl (by decide) rfl (jcons rfl rfl rfl rfl rfl (jnil)) (xnil) (fun _ _ _ _ => does_v (rv_indexR1 (rd_own (i := 0) rfl) Tryd.underlying35 sz91 rfl rfl (j := 0) rfl (by first | omega | (simp [length_frT, length_frW, length_timesW, length_limW] <;> omega))))) (hall_cons (hop_val [(6, 62, _)] [] rfl rfl rfl (by decide) rfl (jcons rfl rfl rfl rfl rfl (jnil)) (xnil) (fun _ _ _ _ => does_v (rv_load_rd (rd_own (i := 0) rfl) tyS91 rfl (get32 (by first | omega | (simp [length_frT, length_frW, length_timesW, length_limW] <;> omega)))))) (hall_cons (hop_val [(7, 63, _)] [] rfl rfl rfl (by decide) rfl (jcons rfl rfl rfl rfl rfl (jnil)) (xnil) (fun _ _ _ _ => does_v (rv_conv32to64 Tryd.underlying91 Tryd.underlying77 rfl))) (hall_nil)))))))))) (draw_end1 [(4, 60, _), (8, 64, _)] (jcons rfl rfl rfl rfl rfl (jcons rfl rfl rfl rfl rfl (jnil))) ?_)
    refine st_drawTail (N := 9) [0, 1, 3, 7, 15, 0, 32, 96, 224, 511, 1023] (by kernel_rfl) (by kernel_rfl) ?_
    refine st_v (rv_or64 rfl rfl) (by decide) ?_
    refine st_v (rv_assign rfl) (by decide) ?_
    refine st_nil ?_
    refine st_then ?_
    refine st_ret ?_
    exact st_done rfl rfl (fun w hM => ⟨rfl, hM.sublist (List.nil_sublist _)⟩)
set_option maxRecDepth 20000 in
set_option maxHeartbeats 1000000 in
theorem fraction3_calls (p : BitVec 64) (w : World) : Calls Tryd.prog 122 #[U64 p, vI (3 : Nat)] w (fun r w' => r = .returned (U64 (fracW p 3)) ∧ Mem (All w) w w' []) := by
  refine calls_of_st (n := 66) (args := [U64 p, vI (3 : Nat)]) Tryd.func122 rfl Tryd.ntmps122 (Nat.le_of_ble_eq_true rfl) (Mem.all w) ?_
  refine st_seq ?_
  refine st_region ?_
  refine st_v (rv_assign rfl) (by decide) ?_
  refine st_nil ?_
  refine st_then ?_
  refine st_seq ?_
  refine st_region ?_
  refine st_v (rv_move rfl) (by decide) ?_
  first | refine st_v (rv_mulN (a := 2) rfl rfl (by first | omega | (simp; done) | (simp; omega))) (by decide) ?_ | refine st_v (rv_mulZ rfl rfl (by first | omega | (simp; done) | (simp; omega))) (by decide) ?_
  first | refine st_v (rv_addN (b := 1) rfl rfl (by first | omega | (simp; done) | (simp; omega))) (by decide) ?_ | refine st_v (rv_addZ rfl rfl (by first | omega | (simp; done) | (simp; omega))) (by decide) ?_
  refine st_make32 Tryd.underlying35 tyZ91 rfl rfl (by omega) (by omega) (by omega) (by decide) (fun b1 hb1 => ?_)
  refine st_v (rv_assign rfl) (by decide) ?_
  refine st_nil ?_
  refine st_then ?_
  refine st_seq ?_
  refine st_region ?_
  refine st_v (rv_move rfl) (by decide) ?_
  refine st_v (rv_move rfl) (by decide) ?_
  first | refine st_v (rv_mulN (a := 2) rfl rfl (by first | omega | (simp; done) | (simp; omega))) (by decide) ?_ | refine st_v (rv_mulZ rfl rfl (by first | omega | (simp; done) | (simp; omega))) (by decide) ?_
  refine st_v (rv_move rfl) (by decide) ?_
  refine st_v (rv_conv64to32 Tryd.underlying77 Tryd.underlying91 rfl) (by decide) ?_
  refine st_v (rv_indexS Tryd.underlying35 sz91 rfl rfl rfl (by first | omega | (simp [length_frT, length_frW, length_timesW, length_limW] <;> omega)) (by first | exact (Nat.zero_add _).trans (Nat.mul_one _) | exact congrArg _ (Nat.mul_one _) | rfl)) (by decide) ?_
  refine st_store32 rfl rfl (i := 0) rfl sz91 (by first | omega | (simp [length_frT, length_frW, length_timesW, length_limW] <;> omega)) (l' := [_]) rfl ?_
  refine st_nil ?_
  refine st_then ?_
  refine st_seq ?_
  refine st_region ?_
  refine st_buildO Tryd.underlying35 tyZ91 rfl rfl (by decide) (cs := (([0#32, 0#32, 0#32] : List (BitVec 32)).map U32).toArray) rfl rfl (by decide) (fun v2 => ?_)
  refine st_v (rv_assign rfl) (by decide) ?_
  refine st_nil ?_
  refine st_then ?_
  refine st_seq ?_
  refine st_seq ?_
  refine st_region ?_
  refine st_v (rv_assign rfl) (by decide) ?_
  refine st_nil ?_
  refine st_then ?_
  refine st_block ?_
  refine st_loopA (σ := Nat × Value) [(1, kst _), (5, kst _), (6, fun (s, y) => y), (7, fun (s, y) => vI ((68 : Int) - s))] [fun (s, y) => own y 91 1 3 ((frW p 3 s).map U32), kst _] (fun (s, y) => s ≤ 69) (fun (s, y) => 69 - s) (0, _) (by omega) (.cons rfl (.cons rfl (.cons rfl (SubE.cons (congrArg some (congrArg (fun z : Int => vI z) (by first | rfl | omega))) (.nil _))))) (fun _ hM => hM) ?_
  intro ⟨s, y⟩ hI
  try dsimp only at hI
  dsimp only [List.map, kst]
  refine st_seq ?_
  refine st_seq ?_
  refine st_region ?_
  refine st_v (rv_move rfl) (by decide) ?_
  refine st_v (rv_geqZ rfl rfl) (by decide) ?_
  refine st_nil ?_
  refine st_then ?_
  refine st_cond rfl (fun hc23 => ?_) (fun hc23 => ?_)
  · -- t23 True
    try simp only [z1, z2, z3, z4, z5, z6, z7, z8, z9, z10, z11, z12, z13, z14] at hc23
    have hs : s ≤ 68 := by omega
    rw [show ((68 : Int) - s) = ((68 - s : Nat) : Int) by omega]
    refine st_skip ?_
    refine st_then ?_
    refine st_seq ?_
    refine st_block ?_
    refine st_seq ?_
    refine st_region ?_
    refine st_buildO Tryd.underlying35 tyZ91 rfl rfl (by decide) (cs := (([] : List (BitVec 32)).map U32).toArray) rfl rfl (by decide) (fun v3 => ?_)
    refine st_v (rv_move rfl) (by decide) ?_
    refine st_append Tryd.underlying35 Tryd.underlying35 (.inr ⟨_, rfl⟩) tyZ91 rfl rfl rfl (i := 0) rfl (one32 _) (fun w hM => src_rd ((rd_own (i := 1) rfl) w hM) (one32 _)) (by first | omega | (simp; omega)) (by first | omega | (simp; omega)) (by decide) (fun v3 => ?_)
    rw [← List.map_append, List.nil_append, Nat.zero_add]
    refine st_v (rv_assign rfl) (by decide) ?_
    refine st_nil ?_
    refine st_then ?_
    refine st_seq ?_
    refine st_drawStart mixed ?_
    refine st_drawSeg1 (E0 := [(1, _), (5, _), (6, _), (7, _), (8, _)]) [kpeq _, kpeq _, kpeq _, kpeq _, kpeq _, kpeq _, kpeq _, kpeq _, kpeq _, kpeq _, kpeq _, kpeq _] 0 12 [0, 0, 2, 0, 0, 16, 56, 120, 0, 256, 768, 2040, 4095, 8191] [1, 5, 6, 7, 8] (by kernel_rfl) (by decide) (by kernel_rfl) (.cons rfl (.cons rfl (.cons rfl (.cons rfl (.cons rfl (.nil _)))))) rfl rfl (hall_cons (hop_mv rfl (by decide) rfl rfl) (hall_cons (hop_mv rfl (by decide) rfl rfl) (hall_cons (hop_val [(1, 30, _)] [] rfl rfl rfl (by decide) rfl (jcons rfl rfl rfl rfl rfl (jnil)) (xnil) (fun _ _ _ _ => does_v (rv_quoN (b := 32) rfl rfl (by first | omega | (simp; done) | (simp; omega))))) (hall_cons (hop_mv rfl (by decide) rfl rfl) (hall_cons (hop_mv rfl (by decide) rfl rfl) (hall_cons (hop_val [(4, 33, _)] [] rfl rfl rfl (by decide) rfl (jcons rfl rfl rfl rfl rfl (jnil)) (xnil) (fun _ _ _ _ => does_v (rv_quoN (b := 32) rfl rfl (by first | omega | (simp; done) | (simp; omega))))) (hall_cons (hop_val [(3, 32, _), (5, 34, _)] [] rfl rfl rfl (by decide) rfl (jcons rfl rfl rfl rfl rfl (jcons rfl rfl rfl rfl rfl (jnil))) (xnil) (fun _ _ _ _ => does_v (rv_indexR1 (rd_own (i := 0) rfl) Tryd.underlying35 sz91 rfl rfl rfl (by first | omega | (simp [length_frT, length_frW, length_timesW, length_limW] <;> omega))))) (hall_cons (hop_val [(6, 35, _)] [] rfl rfl rfl (by decide) rfl (jcons rfl rfl rfl rfl rfl (jnil)) (xnil) (fun _ _ _ _ => does_v (rv_load_rd (rd_own (i := 0) rfl) tyS91 rfl (get32 (by first | omega | (simp [length_frT, length_frW, length_timesW, length_limW] <;> omega)))))) (hall_cons (hop_mv rfl (by decide) rfl rfl) (hall_cons (hop_val [(8, 37, _)] [] rfl rfl rfl (by decide) rfl (jcons rfl rfl rfl rfl rfl (jnil)) (xnil) (fun _ _ _ _ => does_v (rv_remN (b := 32) rfl rfl (by first | omega | (simp; done) | (simp; omega))))) (hall_cons (hop_val [(9, 38, _)] [] rfl rfl rfl (by decide) rfl (jcons rfl rfl rfl rfl rfl (jnil)) (xnil) (fun _ _ _ _ => does_v (rv_shl32 (a := 1#32) rfl rfl rfl))) (hall_cons (hop_val [(7, 36, _), (10, 39, _)] [] rfl rfl rfl (by decide) rfl (jcons rfl rfl rfl rfl rfl (jcons rfl rfl rfl rfl rfl (jnil))) (xnil) (fun _ _ _ _ => does_v (rv_or32 rfl rfl))) (hall_nil))))))))))))) (draw_end1 [(0, 29, _), (2, 31, _), (11, 40, _)] (jcons rfl rfl rfl rfl rfl (jcons rfl rfl rfl rfl rfl (jcons rfl rfl rfl rfl rfl (jnil)))) ?_)
    refine st_drawTail (N := 12) [0, 0, 2, 0, 0, 16, 56, 120, 0, 256, 768, 2040, 4095, 8191] (by kernel_rfl) (by kernel_rfl) ?_
    refine st_v (rv_indexR1 (rd_own (i := 0) rfl) Tryd.underlying35 sz91 rfl rfl rfl (by first | omega | (simp [length_frT, length_frW, length_timesW, length_limW] <;> omega))) (by decide) ?_
    refine st_storeOwn32 rfl rfl (i := 0) rfl sz91 (by first | omega | (simp [length_frT, length_frW, length_timesW, length_limW] <;> omega)) rfl ?_
    refine st_nil ?_
    refine st_then ?_
    refine st_seq ?_
    refine st_region ?_
    refine st_v (rv_move rfl) (by decide) ?_
    refine st_v (rv_move rfl) (by decide) ?_
    refine st_callV cal138 rfl (fun w hM => (times_calls _ _ (frT (frW p 3 s) (68 - s)) (frT (frW p 3 s) (68 - s)) (by simp [length_frT, length_frW]) (by simp [length_frT, length_frW]) w (Rd.n_eq ((rd_own (i := 0) rfl) w hM) (by simp only [length_timesW, length_frT, length_frW])) (Rd.n_eq ((rd_own (i := 0) rfl) w hM) (by simp only [length_timesW, length_frT, length_frW])))) (by decide) (fun v4 => ?_)
    refine st_v (rv_assign rfl) (by decide) ?_
    refine st_nil ?_
    refine st_then ?_
    refine st_seq ?_
    refine st_seq ?_
    refine st_region ?_
    refine st_v (rv_move rfl) (by decide) ?_
    refine st_v (rv_eqlZ rfl rfl) (by decide) ?_
    refine st_nil ?_
    refine st_then ?_
    refine st_true rfl ?_
    refine st_region ?_
    refine st_v (rv_move rfl) (by decide) ?_
    refine st_v (rv_move rfl) (by decide) ?_
    refine st_callV cal138 rfl (fun w hM => (times_calls _ _ (timesW (frT (frW p 3 s) (68 - s)) (frT (frW p 3 s) (68 - s))) (frT (frW p 3 s) (68 - s)) (by simp [length_timesW, length_frT, length_frW]) (by simp [length_frT, length_frW]) w (Rd.n_eq ((rd_own (i := 0) rfl) w hM) (by simp only [length_timesW, length_frT, length_frW])) (Rd.n_eq ((rd_own (i := 1) rfl) w hM) (by simp only [length_timesW, length_frT, length_frW])))) (by decide) (fun v5 => ?_)
    refine st_v (rv_assign rfl) (by decide) ?_
    refine st_nil ?_
    refine st_then ?_
    refine st_seq ?_
    refine st_region ?_
    refine st_v (rv_move rfl) (by decide) ?_
    refine st_v (rv_move rfl) (by decide) ?_
    refine st_call0 cal139 rfl (fun w hM => (aboveF_calls p 3 (frT (frW p 3 s) (68 - s)) _ _ (by simp [length_frT, length_frW]) (by decide) w (Rd.n_eq ((rd_own (i := 0) rfl) w hM) (by simp [frX, length_timesW, length_frT, length_frW])) (Rd.n_eq ((rd_w32 (i := 4) rfl (by first | omega | (simp [length_frT, length_frW, length_timesW, length_limW]; done) | (simp [length_frT, length_frW, length_timesW, length_limW] <;> omega)) (by omega)) w hM) (by simp [limW])))) (by decide) ?_
    refine st_v (rv_assign rfl) (by decide) ?_
    refine st_nil ?_
    refine st_then ?_
    refine st_seq ?_
    refine st_region ?_
    refine st_v (rv_move rfl) (by decide) ?_
    refine st_v (rv_not rfl) (by decide) ?_
    refine st_nil ?_
    refine st_then ?_
    refine st_cond rfl (fun hc54 => ?_) (fun hc54 => ?_)
    · -- t54 True
      try simp only [z1, z2, z3, z4, z5, z6, z7, z8, z9, z10, z11, z12, z13, z14] at hc54
      have hfr : frW p 3 (s + 1) = (frT (frW p 3 s) (68 - s)) := by rw [frW, if_neg (by simpa using hc54)]
      refine st_region ?_
      refine st_v (rv_move rfl) (by decide) ?_
      refine st_v (rv_assign rfl) (by decide) ?_
      refine st_nil ?_
      refine st_in_normal ?_
      refine st_then ?_
      refine st_region ?_
      refine st_v (rv_move rfl) (by decide) ?_
      first | refine st_v (rv_subN (b := 1) rfl rfl (by first | omega | (simp; done) | (simp; omega))) (by decide) ?_ | refine st_v (rv_subZ rfl rfl (by first | omega | (simp; done) | (simp; omega))) (by decide) ?_
      refine st_v (rv_assign rfl) (by decide) ?_
      refine st_nil ?_
      refine st_then ?_
      exact st_again (s + 1, _) (by omega) (by omega) (.cons rfl (.cons rfl (.cons rfl (SubE.cons (congrArg some (congrArg (fun z : Int => vI z) (by first | rfl | omega))) (.nil _))))) (by intro w hM; have hM := hM.sublist (List.Sublist.cons _ (List.Sublist.cons _ (List.Sublist.cons_cons _ (List.Sublist.cons _ (List.Sublist.cons_cons _ (List.Sublist.slnil)))))); (rw [hfr]); exact hM)
    · -- t54 False
      try simp only [z1, z2, z3, z4, z5, z6, z7, z8, z9, z10, z11, z12, z13, z14] at hc54
      have hfr : frW p 3 (s + 1) = frW p 3 s := by rw [frW, if_pos (by simpa using hc54)]
      refine st_skip ?_
      refine st_in_normal ?_
      refine st_then ?_
      refine st_region ?_
      refine st_v (rv_move rfl) (by decide) ?_
      first | refine st_v (rv_subN (b := 1) rfl rfl (by first | omega | (simp; done) | (simp; omega))) (by decide) ?_ | refine st_v (rv_subZ rfl rfl (by first | omega | (simp; done) | (simp; omega))) (by decide) ?_
      refine st_v (rv_assign rfl) (by decide) ?_
      refine st_nil ?_
      refine st_then ?_
      exact st_again (s + 1, _) (by omega) (by omega) (.cons rfl (.cons rfl (.cons rfl (SubE.cons (congrArg some (congrArg (fun z : Int => vI z) (by first | rfl | omega))) (.nil _))))) (by intro w hM; have hM := hM.sublist (List.Sublist.cons _ (List.Sublist.cons _ (List.Sublist.cons _ (List.Sublist.cons_cons _ (List.Sublist.cons_cons _ (List.Sublist.slnil)))))); (rw [hfr]); exact hM)
  · -- t23 False
    try simp only [z1, z2, z3, z4, z5, z6, z7, z8, z9, z10, z11, z12, z13, z14] at hc23
    obtain rfl : s = 69 := by omega
    refine st_exit ?_
    refine st_then_exit ?_
    refine st_then_exit ?_
    refine st_in_exit ?_
    refine st_then ?_
    refine st_seq ?_
    refine st_drawStart mixed ?_
    refine st_drawSeg1 (E0 := [(6, _)]) [kpeq _, kpeq _, kpeq _, kpeq _, kpeq _, kpeq _, kpeq _, kpeq _, kpeq _] 0 9 [0, 1, 3, 7, 15, 0, 32, 96, 224, 511, 1023] [6] (by kernel_rfl) (by decide) (by kernel_rfl) (.cons rfl (.nil _)) rfl rfl (hall_cons (hop_mv rfl (by decide) rfl rfl) (hall_cons (hop_val [(0, 56, _)] [] rfl rfl rfl (by decide) rfl (jcons rfl rfl rfl rfl rfl (jnil)) (xnil) (fun _ _ _ _ => does_v (rv_indexR1 (rd_own (i := 0) rfl) Tryd.underlying35 sz91 rfl rfl (j := 1) rfl (by first | omega | (simp [length_frT, length_frW, length_timesW, length_limW] <;> omega))))) (hall_cons (hop_val [(1, 57, _)] [] rfl rfl rfl (by decide) rfl (jcons rfl rfl rfl rfl rfl (jnil)) (xnil) (fun _ _ _ _ => does_v (rv_load_rd (rd_own (i := 0) rfl) tyS91 rfl (get32 (by first | omega | (simp [length_frT, length_frW, length_timesW, length_limW] <;> omega)))))) (hall_cons (hop_val [(2, 58, _)] [] rfl rfl rfl (by decide) rfl (jcons rfl rfl rfl rfl rfl (jnil)) (xnil) (fun _ _ _ _ => does_v (rv_conv32to64 Tryd.underlying91 Tryd.underlying77 rfl))) (hall_cons (hop_val [(3, 59, _)] [] rfl rfl rfl (by decide) rfl (jcons rfl rfl rfl rfl rfl (jnil)) (xnil) (fun _ _ _ _ => does_v (rv_shl64 (s := 32) rfl rfl rfl))) (hall_cons (hop_mv rfl (by decide) rfl rfl) (hall_cons (hop_val [(5, 61, _)] [] rfl rfl rfl (by decide) rfl (jcons rfl rfl rfl rfl rfl (jnil)) (xnil) (fun _ _ _ _ => does_v (rv_indexR1 (rd_own (i := 0) rfl) Tryd.underlying35 sz91 rfl rfl (j := 0) rfl (by first | omega | (simp [length_frT, length_frW, length_timesW, length_limW] <;> omega))))) (hall_cons (hop_val [(6, 62, _)] [] rfl rfl rfl (by decide) rfl (jcons rfl rfl rfl rfl rfl (jnil)) (xnil) (fun _ _ _ _ => does_v (rv_load_rd (rd_own (i := 0) rfl) tyS91 rfl (get32 (by first | omega | (simp [length_frT, length_frW, length_timesW, length_limW] <;> omega)))))) (hall_cons (hop_val [(7, 63, _)] [] rfl rfl rfl (by decide) rfl (jcons rfl rfl rfl rfl rfl (jnil)) (xnil) (fun _ _ _ _ => does_v (rv_conv32to64 Tryd.underlying91 Tryd.underlying77 rfl))) (hall_nil)))))))))) (draw_end1 [(4, 60, _), (8, 64, _)] (jcons rfl rfl rfl rfl rfl (jcons rfl rfl rfl rfl rfl (jnil))) ?_)
    refine st_drawTail (N := 9) [0, 1, 3, 7, 15, 0, 32, 96, 224, 511, 1023] (by kernel_rfl) (by kernel_rfl) ?_
    refine st_v (rv_or64 rfl rfl) (by decide) ?_
    refine st_v (rv_assign rfl) (by decide) ?_
    refine st_nil ?_
    refine st_then ?_
    refine st_ret ?_
    exact st_done rfl rfl (fun w hM => ⟨rfl, hM.sublist (List.nil_sublist _)⟩)
set_option maxRecDepth 20000 in
set_option maxHeartbeats 1000000 in
theorem Constants0_calls (w : World) : Calls Tryd.prog 84 #[vI (0 : Nat)] w (fun e w' => ∃ r : Value × Value, e = .returned (.tuple #[r.1, r.2]) ∧ Mem (All w) w w' [own r.1 77 1 64 ((constK 64).map U64), own r.2 77 1 8 ((constH 0 8).map U64)]) := by
  have hpl : (primesTo 410).length = 80 := primes410
  refine calls_of_st (n := 49) (args := [vI (0 : Nat)]) Tryd.func84 rfl Tryd.ntmps84 (Nat.le_of_ble_eq_true rfl) (Mem.all w) ?_
  refine st_seq ?_
  refine st_region ?_
  refine st_v (rv_assign rfl) (by decide) ?_
  refine st_v (rv_assign rfl) (by decide) ?_
  refine st_nil ?_
  refine st_then ?_
  refine st_seq ?_
  refine st_region ?_
  refine st_v (rv_assign rfl) (by decide) ?_
  refine st_nil ?_
  refine st_then ?_
  refine st_seq ?_
  refine st_seq ?_
  refine st_region ?_
  refine st_v (rv_move rfl) (by decide) ?_
  refine st_v (rv_eqlZ rfl rfl) (by decide) ?_
  refine st_nil ?_
  refine st_then ?_
  refine st_true rfl ?_
  refine st_region ?_
  refine st_v (rv_assign rfl) (by decide) ?_
  refine st_nil ?_
  refine st_then ?_
  refine st_seq ?_
  refine st_region ?_
  refine st_callV cal121 rfl (fun w hM => (primes_calls w)) (by decide) (fun v1 => ?_)
  refine st_v (rv_assign rfl) (by decide) ?_
  refine st_nil ?_
  refine st_then ?_
  refine st_seq ?_
  refine st_region ?_
  refine st_v (rv_assign rfl) (by decide) ?_
  refine st_nil ?_
  refine st_then ?_
  refine st_seq ?_
  refine st_seq ?_
  refine st_region ?_
  refine st_v (rv_assign rfl) (by decide) ?_
  refine st_nil ?_
  refine st_then ?_
  refine st_block ?_
  refine st_ownNil64 77 1 ?_
  refine st_loopA (σ := Nat × Value) [(0, kst _), (4, kst _), (5, kst _), (6, fun (i, u) => u), (7, fun (i, u) => vI i)] [fun (i, u) => own u 77 1 i ((constK i).map U64), kst _] (fun (i, u) => i ≤ 64) (fun (i, u) => 64 - i) (0, nilS) (by omega) (.cons rfl (.cons rfl (.cons rfl (.cons rfl (.cons rfl (.nil _)))))) (fun _ hM => hM) ?_
  intro ⟨i, u⟩ hI
  try dsimp only at hI
  dsimp only [List.map, kst]
  refine st_seq ?_
  refine st_seq ?_
  refine st_region ?_
  refine st_v (rv_move rfl) (by decide) ?_
  refine st_v (rv_move rfl) (by decide) ?_
  refine st_v (rv_lssZ rfl rfl) (by decide) ?_
  refine st_nil ?_
  refine st_then ?_
  refine st_cond rfl (fun hc18 => ?_) (fun hc18 => ?_)
  · -- t18 True
    try simp only [z1, z2, z3, z4, z5, z6, z7, z8, z9, z10, z11, z12, z13, z14] at hc18
    refine st_skip ?_
    refine st_then ?_
    refine st_seq ?_
    refine st_block ?_
    refine st_seq ?_
    refine st_region ?_
    refine st_v (rv_move rfl) (by decide) ?_
    refine st_v (rv_move rfl) (by decide) ?_
    refine st_v (rv_indexR1 (rd_own (i := 1) rfl) Tryd.underlying121 sz77 rfl rfl rfl (by first | omega | (simp [show pl.length = 80 from primes410, primes410, pl] <;> omega))) (by decide) ?_
    refine st_v (rv_load_rd (rd_own (i := 1) rfl) tyS77 rfl (get64 (by first | omega | (simp [show pl.length = 80 from primes410, primes410, pl] <;> omega)))) (by decide) ?_
    refine st_call0 cal122 rfl (fun w hM => (fraction3_calls _ w)) (by decide) ?_
    refine st_v (rv_assign rfl) (by decide) ?_
    refine st_nil ?_
    refine st_then ?_
    refine st_region ?_
    refine st_v (rv_move rfl) (by decide) ?_
    refine st_v (rv_move rfl) (by decide) ?_
    refine st_buildSlice Tryd.underlying121 tyZ77 rfl rfl (by decide) (cs := #[_]) rfl (by decide) (fun b2 hb2 => ?_)
    refine st_append Tryd.underlying121 Tryd.underlying121 (.inr ⟨_, rfl⟩) tyZ77 rfl rfl rfl (i := 1) rfl (one64 _) (fun w hM => src_rd ((rd_l64 (q := [_]) (len := 1) (i := 0) rfl rfl rfl (by omega)) w hM) (one64 _)) (by first | omega | (simp; omega)) (by first | omega | (simp; omega)) (by decide) (fun vk => ?_)
    refine st_v (rv_assign rfl) (by decide) ?_
    refine st_nil ?_
    refine st_in_normal ?_
    refine st_then ?_
    refine st_region ?_
    refine st_v (rv_move rfl) (by decide) ?_
    first | refine st_v (rv_addN (b := 1) rfl rfl (by first | omega | (simp; done) | (simp; omega))) (by decide) ?_ | refine st_v (rv_addZ rfl rfl (by first | omega | (simp; done) | (simp; omega))) (by decide) ?_
    refine st_v (rv_assign rfl) (by decide) ?_
    refine st_nil ?_
    refine st_then ?_
    exact st_again (i + 1, _) (by omega) (by omega) (.cons rfl (.cons rfl (.cons rfl (.cons rfl (.cons rfl (.nil _)))))) (by intro w hM; have hM := hM.sublist (List.Sublist.cons _ (List.Sublist.cons_cons _ (List.Sublist.cons_cons _ (List.Sublist.slnil)))); (rw [show constK (i + 1) = constK i ++ [fracW (pl.getD i 0#64) 3] from rfl, List.map_append]); exact hM)
  · -- t18 False
    try simp only [z1, z2, z3, z4, z5, z6, z7, z8, z9, z10, z11, z12, z13, z14] at hc18
    obtain rfl : i = 64 := by omega
    refine st_exit ?_
    refine st_then_exit ?_
    refine st_then_exit ?_
    refine st_in_exit ?_
    refine st_then ?_
    refine st_seq ?_
    refine st_region ?_
    refine st_v (rv_assign rfl) (by decide) ?_
    refine st_nil ?_
    refine st_then ?_
    refine st_seq ?_
    refine st_seq ?_
    refine st_region ?_
    refine st_v (rv_move rfl) (by decide) ?_
    refine st_v (rv_eqlZ rfl rfl) (by decide) ?_
    refine st_nil ?_
    refine st_then ?_
    refine st_false rfl ?_
    refine st_skip ?_
    refine st_then ?_
    refine st_seq ?_
    refine st_region ?_
    refine st_v (rv_assign rfl) (by decide) ?_
    refine st_nil ?_
    refine st_then ?_
    refine st_seq ?_
    refine st_seq ?_
    refine st_region ?_
    refine st_v (rv_assign rfl) (by decide) ?_
    refine st_nil ?_
    refine st_then ?_
    refine st_block ?_
    refine st_ownNil64 77 1 ?_
    refine st_loopA (σ := Nat × Value) [(5, kst _), (6, kst _), (9, kst _), (10, fun (i, u) => u), (11, fun (i, u) => vI i)] [fun (i, u) => own u 77 1 i ((constH 0 i).map U64), kst _, kst _] (fun (i, u) => i ≤ 8) (fun (i, u) => 8 - i) (0, nilS) (by omega) (.cons rfl (.cons rfl (.cons rfl (.cons rfl (.cons rfl (.nil _)))))) (fun _ hM => hM) ?_
    intro ⟨i, u⟩ hI
    try dsimp only at hI
    dsimp only [List.map, kst]
    refine st_seq ?_
    refine st_seq ?_
    refine st_region ?_
    refine st_v (rv_move rfl) (by decide) ?_
    refine st_v (rv_lssZ rfl rfl) (by decide) ?_
    refine st_nil ?_
    refine st_then ?_
    refine st_cond rfl (fun hc33 => ?_) (fun hc33 => ?_)
    · -- t33 True
      try simp only [z1, z2, z3, z4, z5, z6, z7, z8, z9, z10, z11, z12, z13, z14] at hc33
      refine st_skip ?_
      refine st_then ?_
      refine st_seq ?_
      refine st_block ?_
      refine st_seq ?_
      refine st_region ?_
      refine st_v (rv_move rfl) (by decide) ?_
      refine st_v (rv_move rfl) (by decide) ?_
      refine st_v (rv_move rfl) (by decide) ?_
      first | refine st_v (rv_addN rfl rfl (by first | omega | (simp; done) | (simp; omega))) (by decide) ?_ | refine st_v (rv_addZ rfl rfl (by first | omega | (simp; done) | (simp; omega))) (by decide) ?_
      refine st_v (rv_indexR1 (rd_own (i := 2) rfl) Tryd.underlying121 sz77 rfl rfl rfl (by first | omega | (simp [show pl.length = 80 from primes410, primes410, pl] <;> omega))) (by decide) ?_
      refine st_v (rv_load_rd (rd_own (i := 2) rfl) tyS77 rfl (get64 (by first | omega | (simp [show pl.length = 80 from primes410, primes410, pl] <;> omega)))) (by decide) ?_
      refine st_call0 cal122 rfl (fun w hM => (fraction2_calls _ w)) (by decide) ?_
      refine st_v (rv_assign rfl) (by decide) ?_
      refine st_nil ?_
      refine st_then ?_
      refine st_region ?_
      refine st_v (rv_move rfl) (by decide) ?_
      refine st_v (rv_move rfl) (by decide) ?_
      refine st_buildSlice Tryd.underlying121 tyZ77 rfl rfl (by decide) (cs := #[_]) rfl (by decide) (fun b3 hb3 => ?_)
      refine st_append Tryd.underlying121 Tryd.underlying121 (.inr ⟨_, rfl⟩) tyZ77 rfl rfl rfl (i := 1) rfl (one64 _) (fun w hM => src_rd ((rd_l64 (q := [_]) (len := 1) (i := 0) rfl rfl rfl (by omega)) w hM) (one64 _)) (by first | omega | (simp; omega)) (by first | omega | (simp; omega)) (by decide) (fun vh => ?_)
      refine st_v (rv_assign rfl) (by decide) ?_
      refine st_nil ?_
      refine st_in_normal ?_
      refine st_then ?_
      refine st_region ?_
      refine st_v (rv_move rfl) (by decide) ?_
      first | refine st_v (rv_addN (b := 1) rfl rfl (by first | omega | (simp; done) | (simp; omega))) (by decide) ?_ | refine st_v (rv_addZ rfl rfl (by first | omega | (simp; done) | (simp; omega))) (by decide) ?_
      refine st_v (rv_assign rfl) (by decide) ?_
      refine st_nil ?_
      refine st_then ?_
      exact st_again (i + 1, _) (by omega) (by omega) (.cons rfl (.cons rfl (.cons rfl (.cons rfl (.cons rfl (.nil _)))))) (by intro w hM; have hM := hM.sublist (List.Sublist.cons _ (List.Sublist.cons_cons _ (List.Sublist.cons_cons _ (List.Sublist.cons_cons _ (List.Sublist.slnil))))); (rw [show constH 0 (i + 1) = constH 0 i ++ [fracW (pl.getD (0 + i) 0#64) 2] from rfl, List.map_append]); exact hM)
    · -- t33 False
      try simp only [z1, z2, z3, z4, z5, z6, z7, z8, z9, z10, z11, z12, z13, z14] at hc33
      obtain rfl : i = 8 := by omega
      refine st_exit ?_
      refine st_then_exit ?_
      refine st_then_exit ?_
      refine st_in_exit ?_
      refine st_then ?_
      refine st_seq ?_
      refine st_region ?_
      refine st_v (rv_move rfl) (by decide) ?_
      refine st_v (rv_move rfl) (by decide) ?_
      refine st_v (rv_assign rfl) (by decide) ?_
      refine st_v (rv_assign rfl) (by decide) ?_
      refine st_nil ?_
      refine st_then ?_
      refine st_ret ?_
      exact st_done2 rfl rfl rfl (fun w hM => ⟨(_, _), rfl, (Mem.front (Mem.front hM (i := 0) rfl) (i := 1) rfl).sublist (List.cons_sublist_cons.2 (List.cons_sublist_cons.2 (List.nil_sublist _)))⟩)
set_option maxRecDepth 20000 in
set_option maxHeartbeats 1000000 in
theorem Constants1_calls (w : World) : Calls Tryd.prog 84 #[vI (1 : Nat)] w (fun e w' => ∃ r : Value × Value, e = .returned (.tuple #[r.1, r.2]) ∧ Mem (All w) w w' [own r.1 77 1 80 ((constK 80).map U64), own r.2 77 1 8 ((constH 8 8).map U64)]) := by
  have hpl : (primesTo 410).length = 80 := primes410
  refine calls_of_st (n := 49) (args := [vI (1 : Nat)]) Tryd.func84 rfl Tryd.ntmps84 (Nat.le_of_ble_eq_true rfl) (Mem.all w) ?_
  refine st_seq ?_
  refine st_region ?_
  refine st_v (rv_assign rfl) (by decide) ?_
  refine st_v (rv_assign rfl) (by decide) ?_
  refine st_nil ?_
  refine st_then ?_
  refine st_seq ?_
  refine st_region ?_
  refine st_v (rv_assign rfl) (by decide) ?_
  refine st_nil ?_
  refine st_then ?_
  refine st_seq ?_
  refine st_seq ?_
  refine st_region ?_
  refine st_v (rv_move rfl) (by decide) ?_
  refine st_v (rv_eqlZ rfl rfl) (by decide) ?_
  refine st_nil ?_
  refine st_then ?_
  refine st_false rfl ?_
  refine st_skip ?_
  refine st_then ?_
  refine st_seq ?_
  refine st_region ?_
  refine st_callV cal121 rfl (fun w hM => (primes_calls w)) (by decide) (fun v1 => ?_)
  refine st_v (rv_assign rfl) (by decide) ?_
  refine st_nil ?_
  refine st_then ?_
  refine st_seq ?_
  refine st_region ?_
  refine st_v (rv_assign rfl) (by decide) ?_
  refine st_nil ?_
  refine st_then ?_
  refine st_seq ?_
  refine st_seq ?_
  refine st_region ?_
  refine st_v (rv_assign rfl) (by decide) ?_
  refine st_nil ?_
  refine st_then ?_
  refine st_block ?_
  refine st_ownNil64 77 1 ?_
  refine st_loopA (σ := Nat × Value) [(0, kst _), (4, kst _), (5, kst _), (6, fun (i, u) => u), (7, fun (i, u) => vI i)] [fun (i, u) => own u 77 1 i ((constK i).map U64), kst _] (fun (i, u) => i ≤ 80) (fun (i, u) => 80 - i) (0, nilS) (by omega) (.cons rfl (.cons rfl (.cons rfl (.cons rfl (.cons rfl (.nil _)))))) (fun _ hM => hM) ?_
  intro ⟨i, u⟩ hI
  try dsimp only at hI
  dsimp only [List.map, kst]
  refine st_seq ?_
  refine st_seq ?_
  refine st_region ?_
  refine st_v (rv_move rfl) (by decide) ?_
  refine st_v (rv_move rfl) (by decide) ?_
  refine st_v (rv_lssZ rfl rfl) (by decide) ?_
  refine st_nil ?_
  refine st_then ?_
  refine st_cond rfl (fun hc18 => ?_) (fun hc18 => ?_)
  · -- t18 True
    try simp only [z1, z2, z3, z4, z5, z6, z7, z8, z9, z10, z11, z12, z13, z14] at hc18
    refine st_skip ?_
    refine st_then ?_
    refine st_seq ?_
    refine st_block ?_
    refine st_seq ?_
    refine st_region ?_
    refine st_v (rv_move rfl) (by decide) ?_
    refine st_v (rv_move rfl) (by decide) ?_
    refine st_v (rv_indexR1 (rd_own (i := 1) rfl) Tryd.underlying121 sz77 rfl rfl rfl (by first | omega | (simp [show pl.length = 80 from primes410, primes410, pl] <;> omega))) (by decide) ?_
    refine st_v (rv_load_rd (rd_own (i := 1) rfl) tyS77 rfl (get64 (by first | omega | (simp [show pl.length = 80 from primes410, primes410, pl] <;> omega)))) (by decide) ?_
    refine st_call0 cal122 rfl (fun w hM => (fraction3_calls _ w)) (by decide) ?_
    refine st_v (rv_assign rfl) (by decide) ?_
    refine st_nil ?_
    refine st_then ?_
    refine st_region ?_
    refine st_v (rv_move rfl) (by decide) ?_
    refine st_v (rv_move rfl) (by decide) ?_
    refine st_buildSlice Tryd.underlying121 tyZ77 rfl rfl (by decide) (cs := #[_]) rfl (by decide) (fun b2 hb2 => ?_)
    refine st_append Tryd.underlying121 Tryd.underlying121 (.inr ⟨_, rfl⟩) tyZ77 rfl rfl rfl (i := 1) rfl (one64 _) (fun w hM => src_rd ((rd_l64 (q := [_]) (len := 1) (i := 0) rfl rfl rfl (by omega)) w hM) (one64 _)) (by first | omega | (simp; omega)) (by first | omega | (simp; omega)) (by decide) (fun vk => ?_)
    refine st_v (rv_assign rfl) (by decide) ?_
    refine st_nil ?_
    refine st_in_normal ?_
    refine st_then ?_
    refine st_region ?_
    refine st_v (rv_move rfl) (by decide) ?_
    first | refine st_v (rv_addN (b := 1) rfl rfl (by first | omega | (simp; done) | (simp; omega))) (by decide) ?_ | refine st_v (rv_addZ rfl rfl (by first | omega | (simp; done) | (simp; omega))) (by decide) ?_
    refine st_v (rv_assign rfl) (by decide) ?_
    refine st_nil ?_
    refine st_then ?_
    exact st_again (i + 1, _) (by omega) (by omega) (.cons rfl (.cons rfl (.cons rfl (.cons rfl (.cons rfl (.nil _)))))) (by intro w hM; have hM := hM.sublist (List.Sublist.cons _ (List.Sublist.cons_cons _ (List.Sublist.cons_cons _ (List.Sublist.slnil)))); (rw [show constK (i + 1) = constK i ++ [fracW (pl.getD i 0#64) 3] from rfl, List.map_append]); exact hM)
  · -- t18 False
    try simp only [z1, z2, z3, z4, z5, z6, z7, z8, z9, z10, z11, z12, z13, z14] at hc18
    obtain rfl : i = 80 := by omega
    refine st_exit ?_
    refine st_then_exit ?_
    refine st_then_exit ?_
    refine st_in_exit ?_
    refine st_then ?_
    refine st_seq ?_
    refine st_region ?_
    refine st_v (rv_assign rfl) (by decide) ?_
    refine st_nil ?_
    refine st_then ?_
    refine st_seq ?_
    refine st_seq ?_
    refine st_region ?_
    refine st_v (rv_move rfl) (by decide) ?_
    refine st_v (rv_eqlZ rfl rfl) (by decide) ?_
    refine st_nil ?_
    refine st_then ?_
    refine st_true rfl ?_
    refine st_region ?_
    refine st_v (rv_assign rfl) (by decide) ?_
    refine st_nil ?_
    refine st_then ?_
    refine st_seq ?_
    refine st_region ?_
    refine st_v (rv_assign rfl) (by decide) ?_
    refine st_nil ?_
    refine st_then ?_
    refine st_seq ?_
    refine st_seq ?_
    refine st_region ?_
    refine st_v (rv_assign rfl) (by decide) ?_
    refine st_nil ?_
    refine st_then ?_
    refine st_block ?_
    refine st_ownNil64 77 1 ?_
    refine st_loopA (σ := Nat × Value) [(5, kst _), (6, kst _), (9, kst _), (10, fun (i, u) => u), (11, fun (i, u) => vI i)] [fun (i, u) => own u 77 1 i ((constH 8 i).map U64), kst _, kst _] (fun (i, u) => i ≤ 8) (fun (i, u) => 8 - i) (0, nilS) (by omega) (.cons rfl (.cons rfl (.cons rfl (.cons rfl (.cons rfl (.nil _)))))) (fun _ hM => hM) ?_
    intro ⟨i, u⟩ hI
    try dsimp only at hI
    dsimp only [List.map, kst]
    refine st_seq ?_
    refine st_seq ?_
    refine st_region ?_
    refine st_v (rv_move rfl) (by decide) ?_
    refine st_v (rv_lssZ rfl rfl) (by decide) ?_
    refine st_nil ?_
    refine st_then ?_
    refine st_cond rfl (fun hc33 => ?_) (fun hc33 => ?_)
    · -- t33 True
      try simp only [z1, z2, z3, z4, z5, z6, z7, z8, z9, z10, z11, z12, z13, z14] at hc33
      refine st_skip ?_
      refine st_then ?_
      refine st_seq ?_
      refine st_block ?_
      refine st_seq ?_
      refine st_region ?_
      refine st_v (rv_move rfl) (by decide) ?_
      refine st_v (rv_move rfl) (by decide) ?_
      refine st_v (rv_move rfl) (by decide) ?_
      first | refine st_v (rv_addN rfl rfl (by first | omega | (simp; done) | (simp; omega))) (by decide) ?_ | refine st_v (rv_addZ rfl rfl (by first | omega | (simp; done) | (simp; omega))) (by decide) ?_
      refine st_v (rv_indexR1 (rd_own (i := 2) rfl) Tryd.underlying121 sz77 rfl rfl rfl (by first | omega | (simp [show pl.length = 80 from primes410, primes410, pl] <;> omega))) (by decide) ?_
      refine st_v (rv_load_rd (rd_own (i := 2) rfl) tyS77 rfl (get64 (by first | omega | (simp [show pl.length = 80 from primes410, primes410, pl] <;> omega)))) (by decide) ?_
      refine st_call0 cal122 rfl (fun w hM => (fraction2_calls _ w)) (by decide) ?_
      refine st_v (rv_assign rfl) (by decide) ?_
      refine st_nil ?_
      refine st_then ?_
      refine st_region ?_
      refine st_v (rv_move rfl) (by decide) ?_
      refine st_v (rv_move rfl) (by decide) ?_
      refine st_buildSlice Tryd.underlying121 tyZ77 rfl rfl (by decide) (cs := #[_]) rfl (by decide) (fun b3 hb3 => ?_)
      refine st_append Tryd.underlying121 Tryd.underlying121 (.inr ⟨_, rfl⟩) tyZ77 rfl rfl rfl (i := 1) rfl (one64 _) (fun w hM => src_rd ((rd_l64 (q := [_]) (len := 1) (i := 0) rfl rfl rfl (by omega)) w hM) (one64 _)) (by first | omega | (simp; omega)) (by first | omega | (simp; omega)) (by decide) (fun vh => ?_)
      refine st_v (rv_assign rfl) (by decide) ?_
      refine st_nil ?_
      refine st_in_normal ?_
      refine st_then ?_
      refine st_region ?_
      refine st_v (rv_move rfl) (by decide) ?_
      first | refine st_v (rv_addN (b := 1) rfl rfl (by first | omega | (simp; done) | (simp; omega))) (by decide) ?_ | refine st_v (rv_addZ rfl rfl (by first | omega | (simp; done) | (simp; omega))) (by decide) ?_
      refine st_v (rv_assign rfl) (by decide) ?_
      refine st_nil ?_
      refine st_then ?_
      exact st_again (i + 1, _) (by omega) (by omega) (.cons rfl (.cons rfl (.cons rfl (.cons rfl (.cons rfl (.nil _)))))) (by intro w hM; have hM := hM.sublist (List.Sublist.cons _ (List.Sublist.cons_cons _ (List.Sublist.cons_cons _ (List.Sublist.cons_cons _ (List.Sublist.slnil))))); (rw [show constH 8 (i + 1) = constH 8 i ++ [fracW (pl.getD (8 + i) 0#64) 2] from rfl, List.map_append]); exact hM)
    · -- t33 False
      try simp only [z1, z2, z3, z4, z5, z6, z7, z8, z9, z10, z11, z12, z13, z14] at hc33
      obtain rfl : i = 8 := by omega
      refine st_exit ?_
      refine st_then_exit ?_
      refine st_then_exit ?_
      refine st_in_exit ?_
      refine st_then ?_
      refine st_seq ?_
      refine st_region ?_
      refine st_v (rv_move rfl) (by decide) ?_
      refine st_v (rv_move rfl) (by decide) ?_
      refine st_v (rv_assign rfl) (by decide) ?_
      refine st_v (rv_assign rfl) (by decide) ?_
      refine st_nil ?_
      refine st_then ?_
      refine st_ret ?_
      exact st_done2 rfl rfl rfl (fun w hM => ⟨(_, _), rfl, (Mem.front (Mem.front hM (i := 0) rfl) (i := 1) rfl).sublist (List.cons_sublist_cons.2 (List.cons_sublist_cons.2 (List.nil_sublist _)))⟩)
set_option maxRecDepth 20000 in
set_option maxHeartbeats 1000000 in
theorem Constants2_calls (w : World) : Calls Tryd.prog 84 #[vI (2 : Nat)] w (fun e w' => ∃ r : Value × Value, e = .returned (.tuple #[r.1, r.2]) ∧ Mem (All w) w w' [own r.1 77 1 80 ((constK 80).map U64), own r.2 77 1 8 ((constH 0 8).map U64)]) := by
  have hpl : (primesTo 410).length = 80 := primes410
  refine calls_of_st (n := 49) (args := [vI (2 : Nat)]) Tryd.func84 rfl Tryd.ntmps84 (Nat.le_of_ble_eq_true rfl) (Mem.all w) ?_
  refine st_seq ?_
  refine st_region ?_
  refine st_v (rv_assign rfl) (by decide) ?_
  refine st_v (rv_assign rfl) (by decide) ?_
  refine st_nil ?_
  refine st_then ?_
  refine st_seq ?_
  refine st_region ?_
  refine st_v (rv_assign rfl) (by decide) ?_
  refine st_nil ?_
  refine st_then ?_
  refine st_seq ?_
  refine st_seq ?_
  refine st_region ?_
  refine st_v (rv_move rfl) (by decide) ?_
  refine st_v (rv_eqlZ rfl rfl) (by decide) ?_
  refine st_nil ?_
  refine st_then ?_
  refine st_false rfl ?_
  refine st_skip ?_
  refine st_then ?_
  refine st_seq ?_
  refine st_region ?_
  refine st_callV cal121 rfl (fun w hM => (primes_calls w)) (by decide) (fun v1 => ?_)
  refine st_v (rv_assign rfl) (by decide) ?_
  refine st_nil ?_
  refine st_then ?_
  refine st_seq ?_
  refine st_region ?_
  refine st_v (rv_assign rfl) (by decide) ?_
  refine st_nil ?_
  refine st_then ?_
  refine st_seq ?_
  refine st_seq ?_
  refine st_region ?_
  refine st_v (rv_assign rfl) (by decide) ?_
  refine st_nil ?_
  refine st_then ?_
  refine st_block ?_
  refine st_ownNil64 77 1 ?_
  refine st_loopA (σ := Nat × Value) [(0, kst _), (4, kst _), (5, kst _), (6, fun (i, u) => u), (7, fun (i, u) => vI i)] [fun (i, u) => own u 77 1 i ((constK i).map U64), kst _] (fun (i, u) => i ≤ 80) (fun (i, u) => 80 - i) (0, nilS) (by omega) (.cons rfl (.cons rfl (.cons rfl (.cons rfl (.cons rfl (.nil _)))))) (fun _ hM => hM) ?_
  intro ⟨i, u⟩ hI
  try dsimp only at hI
  dsimp only [List.map, kst]
  refine st_seq ?_
  refine st_seq ?_
  refine st_region ?_
  refine st_v (rv_move rfl) (by decide) ?_
  refine st_v (rv_move rfl) (by decide) ?_
  refine st_v (rv_lssZ rfl rfl) (by decide) ?_
  refine st_nil ?_
  refine st_then ?_
  refine st_cond rfl (fun hc18 => ?_) (fun hc18 => ?_)
  · -- t18 True
    try simp only [z1, z2, z3, z4, z5, z6, z7, z8, z9, z10, z11, z12, z13, z14] at hc18
    refine st_skip ?_
    refine st_then ?_
    refine st_seq ?_
    refine st_block ?_
    refine st_seq ?_
    refine st_region ?_
    refine st_v (rv_move rfl) (by decide) ?_
    refine st_v (rv_move rfl) (by decide) ?_
    refine st_v (rv_indexR1 (rd_own (i := 1) rfl) Tryd.underlying121 sz77 rfl rfl rfl (by first | omega | (simp [show pl.length = 80 from primes410, primes410, pl] <;> omega))) (by decide) ?_
    refine st_v (rv_load_rd (rd_own (i := 1) rfl) tyS77 rfl (get64 (by first | omega | (simp [show pl.length = 80 from primes410, primes410, pl] <;> omega)))) (by decide) ?_
    refine st_call0 cal122 rfl (fun w hM => (fraction3_calls _ w)) (by decide) ?_
    refine st_v (rv_assign rfl) (by decide) ?_
    refine st_nil ?_
    refine st_then ?_
    refine st_region ?_
    refine st_v (rv_move rfl) (by decide) ?_
    refine st_v (rv_move rfl) (by decide) ?_
    refine st_buildSlice Tryd.underlying121 tyZ77 rfl rfl (by decide) (cs := #[_]) rfl (by decide) (fun b2 hb2 => ?_)
    refine st_append Tryd.underlying121 Tryd.underlying121 (.inr ⟨_, rfl⟩) tyZ77 rfl rfl rfl (i := 1) rfl (one64 _) (fun w hM => src_rd ((rd_l64 (q := [_]) (len := 1) (i := 0) rfl rfl rfl (by omega)) w hM) (one64 _)) (by first | omega | (simp; omega)) (by first | omega | (simp; omega)) (by decide) (fun vk => ?_)
    refine st_v (rv_assign rfl) (by decide) ?_
    refine st_nil ?_
    refine st_in_normal ?_
    refine st_then ?_
    refine st_region ?_
    refine st_v (rv_move rfl) (by decide) ?_
    first | refine st_v (rv_addN (b := 1) rfl rfl (by first | omega | (simp; done) | (simp; omega))) (by decide) ?_ | refine st_v (rv_addZ rfl rfl (by first | omega | (simp; done) | (simp; omega))) (by decide) ?_
    refine st_v (rv_assign rfl) (by decide) ?_
    refine st_nil ?_
    refine st_then ?_
    exact st_again (i + 1, _) (by omega) (by omega) (.cons rfl (.cons rfl (.cons rfl (.cons rfl (.cons rfl (.nil _)))))) (by intro w hM; have hM := hM.sublist (List.Sublist.cons _ (List.Sublist.cons_cons _ (List.Sublist.cons_cons _ (List.Sublist.slnil)))); (rw [show constK (i + 1) = constK i ++ [fracW (pl.getD i 0#64) 3] from rfl, List.map_append]); exact hM)
  · -- t18 False
    try simp only [z1, z2, z3, z4, z5, z6, z7, z8, z9, z10, z11, z12, z13, z14] at hc18
    obtain rfl : i = 80 := by omega
    refine st_exit ?_
    refine st_then_exit ?_
    refine st_then_exit ?_
    refine st_in_exit ?_
    refine st_then ?_
    refine st_seq ?_
    refine st_region ?_
    refine st_v (rv_assign rfl) (by decide) ?_
    refine st_nil ?_
    refine st_then ?_
    refine st_seq ?_
    refine st_seq ?_
    refine st_region ?_
    refine st_v (rv_move rfl) (by decide) ?_
    refine st_v (rv_eqlZ rfl rfl) (by decide) ?_
    refine st_nil ?_
    refine st_then ?_
    refine st_false rfl ?_
    refine st_skip ?_
    refine st_then ?_
    refine st_seq ?_
    refine st_region ?_
    refine st_v (rv_assign rfl) (by decide) ?_
    refine st_nil ?_
    refine st_then ?_
    refine st_seq ?_
    refine st_seq ?_
    refine st_region ?_
    refine st_v (rv_assign rfl) (by decide) ?_
    refine st_nil ?_
    refine st_then ?_
    refine st_block ?_
    refine st_ownNil64 77 1 ?_
    refine st_loopA (σ := Nat × Value) [(5, kst _), (6, kst _), (9, kst _), (10, fun (i, u) => u), (11, fun (i, u) => vI i)] [fun (i, u) => own u 77 1 i ((constH 0 i).map U64), kst _, kst _] (fun (i, u) => i ≤ 8) (fun (i, u) => 8 - i) (0, nilS) (by omega) (.cons rfl (.cons rfl (.cons rfl (.cons rfl (.cons rfl (.nil _)))))) (fun _ hM => hM) ?_
    intro ⟨i, u⟩ hI
    try dsimp only at hI
    dsimp only [List.map, kst]
    refine st_seq ?_
    refine st_seq ?_
    refine st_region ?_
    refine st_v (rv_move rfl) (by decide) ?_
    refine st_v (rv_lssZ rfl rfl) (by decide) ?_
    refine st_nil ?_
    refine st_then ?_
    refine st_cond rfl (fun hc33 => ?_) (fun hc33 => ?_)
    · -- t33 True
      try simp only [z1, z2, z3, z4, z5, z6, z7, z8, z9, z10, z11, z12, z13, z14] at hc33
      refine st_skip ?_
      refine st_then ?_
      refine st_seq ?_
      refine st_block ?_
      refine st_seq ?_
      refine st_region ?_
      refine st_v (rv_move rfl) (by decide) ?_
      refine st_v (rv_move rfl) (by decide) ?_
      refine st_v (rv_move rfl) (by decide) ?_
      first | refine st_v (rv_addN rfl rfl (by first | omega | (simp; done) | (simp; omega))) (by decide) ?_ | refine st_v (rv_addZ rfl rfl (by first | omega | (simp; done) | (simp; omega))) (by decide) ?_
      refine st_v (rv_indexR1 (rd_own (i := 2) rfl) Tryd.underlying121 sz77 rfl rfl rfl (by first | omega | (simp [show pl.length = 80 from primes410, primes410, pl] <;> omega))) (by decide) ?_
      refine st_v (rv_load_rd (rd_own (i := 2) rfl) tyS77 rfl (get64 (by first | omega | (simp [show pl.length = 80 from primes410, primes410, pl] <;> omega)))) (by decide) ?_
      refine st_call0 cal122 rfl (fun w hM => (fraction2_calls _ w)) (by decide) ?_
      refine st_v (rv_assign rfl) (by decide) ?_
      refine st_nil ?_
      refine st_then ?_
      refine st_region ?_
      refine st_v (rv_move rfl) (by decide) ?_
      refine st_v (rv_move rfl) (by decide) ?_
      refine st_buildSlice Tryd.underlying121 tyZ77 rfl rfl (by decide) (cs := #[_]) rfl (by decide) (fun b3 hb3 => ?_)
      refine st_append Tryd.underlying121 Tryd.underlying121 (.inr ⟨_, rfl⟩) tyZ77 rfl rfl rfl (i := 1) rfl (one64 _) (fun w hM => src_rd ((rd_l64 (q := [_]) (len := 1) (i := 0) rfl rfl rfl (by omega)) w hM) (one64 _)) (by first | omega | (simp; omega)) (by first | omega | (simp; omega)) (by decide) (fun vh => ?_)
      refine st_v (rv_assign rfl) (by decide) ?_
      refine st_nil ?_
      refine st_in_normal ?_
      refine st_then ?_
      refine st_region ?_
      refine st_v (rv_move rfl) (by decide) ?_
      first | refine st_v (rv_addN (b := 1) rfl rfl (by first | omega | (simp; done) | (simp; omega))) (by decide) ?_ | refine st_v (rv_addZ rfl rfl (by first | omega | (simp; done) | (simp; omega))) (by decide) ?_
      refine st_v (rv_assign rfl) (by decide) ?_
      refine st_nil ?_
      refine st_then ?_
      exact st_again (i + 1, _) (by omega) (by omega) (.cons rfl (.cons rfl (.cons rfl (.cons rfl (.cons rfl (.nil _)))))) (by intro w hM; have hM := hM.sublist (List.Sublist.cons _ (List.Sublist.cons_cons _ (List.Sublist.cons_cons _ (List.Sublist.cons_cons _ (List.Sublist.slnil))))); (rw [show constH 0 (i + 1) = constH 0 i ++ [fracW (pl.getD (0 + i) 0#64) 2] from rfl, List.map_append]); exact hM)
    · -- t33 False
      try simp only [z1, z2, z3, z4, z5, z6, z7, z8, z9, z10, z11, z12, z13, z14] at hc33
      obtain rfl : i = 8 := by omega
      refine st_exit ?_
      refine st_then_exit ?_
      refine st_then_exit ?_
      refine st_in_exit ?_
      refine st_then ?_
      refine st_seq ?_
      refine st_region ?_
      refine st_v (rv_move rfl) (by decide) ?_
      refine st_v (rv_move rfl) (by decide) ?_
      refine st_v (rv_assign rfl) (by decide) ?_
      refine st_v (rv_assign rfl) (by decide) ?_
      refine st_nil ?_
      refine st_then ?_
      refine st_ret ?_
      exact st_done2 rfl rfl rfl (fun w hM => ⟨(_, _), rfl, (Mem.front (Mem.front hM (i := 0) rfl) (i := 1) rfl).sublist (List.cons_sublist_cons.2 (List.cons_sublist_cons.2 (List.nil_sublist _)))⟩)
set_option maxRecDepth 20000 in
theorem rKnown_calls (z : Int) (w : World) : Calls Tryd.prog 28 #[vI z] w (fun r w' => r = .returned (.bool (knownZ z)) ∧ Mem (All w) w w' []) := by
  refine calls_of_st (n := 9) (args := [vI z]) Tryd.func28 rfl Tryd.ntmps28 (Nat.le_of_ble_eq_true rfl) (Mem.all w) ?_
  refine st_seq ?_
  refine st_region ?_
  refine st_v (rv_assign rfl) (by decide) ?_
  refine st_nil ?_
  refine st_then ?_
  refine st_seq ?_
  refine st_region ?_
  refine st_v (rv_move rfl) (by decide) ?_
  refine st_v (rv_geqZ rfl rfl) (by decide) ?_
  refine st_v (rv_move rfl) (by decide) ?_
  refine' st_and 3 (L := _) (s := 5) (d := 8) [2] rfl (fun hg3 => ?_) (fun _ => ?_) ?_; rotate_left
  · -- true
    try simp only [decide_eq_true_eq, decide_eq_false_iff_not, Bool.and_eq_true, Bool.not_eq_true] at hg3
    refine st_gon rfl rfl ?_
    refine st_v (rv_move rfl) (by decide) ?_
    refine st_gon rfl rfl ?_
    refine st_v (rv_leqZ rfl rfl) (by decide) ?_
    first | refine st_v (rv_pick_true rfl rfl) (by decide) ?_ | refine st_v (rv_pick_false rfl rfl) (by decide) ?_ | refine st_v (rv_pick rfl rfl rfl) (by decide) ?_
    refine st_nil ?_
    exact st_meet_b (.cons rfl (.cons rfl (.nil _)))
  · -- false
    refine st_gskip rfl rfl rfl (by decide) ?_
    refine st_gskip rfl rfl rfl (by decide) ?_
    first | refine st_v (rv_pick_true rfl rfl) (by decide) ?_ | refine st_v (rv_pick_false rfl rfl) (by decide) ?_ | refine st_v (rv_pick rfl rfl rfl) (by decide) ?_
    refine st_nil ?_
    exact st_meet_b (.cons rfl (.cons rfl (.nil _)))
  refine st_v (rv_assign rfl) (by decide) ?_
  refine st_nil ?_
  refine st_then ?_
  refine st_ret ?_
  exact st_done rfl rfl (fun w hM => ⟨by rw [knownZ, show decide (z < 3) = decide (z ≤ 2) from decide_eq_decide.2 (by omega)], hM.sublist (List.nil_sublist _)⟩)
theorem rKnown_ok {k : Nat} (hk : k ≤ 2) (w : World) : Calls Tryd.prog 28 #[vI (k : Nat)] w (fun r w' => r = .returned (.bool true) ∧ Mem (All w) w w' []) := by
  have := rKnown_calls (k : Int) w
  rwa [knownZ_of hk] at this
theorem rKnown_bad {z : Int} (hz : knownZ z = false) (w : World) : Calls Tryd.prog 28 #[vI z] w (fun r w' => r = .returned (.bool false) ∧ Mem (All w) w w' []) := by
  have := rKnown_calls z w
  rwa [hz] at this
set_option maxRecDepth 20000 in
theorem rSize_bad (z : Int) (hz : knownZ z = false) (w : World) : Calls Tryd.prog 36 #[vI z] w (fun r w' => r = .returned (vI 0) ∧ Mem (All w) w w' []) := by
  refine calls_of_st (n := 12) (args := [vI z]) Tryd.func36 rfl Tryd.ntmps36 (Nat.le_of_ble_eq_true rfl) (Mem.all w) ?_
  refine st_seq ?_
  refine st_region ?_
  refine st_v (rv_assign rfl) (by decide) ?_
  refine st_nil ?_
  refine st_then ?_
  refine st_seq ?_
  refine st_region ?_
  refine st_v (rv_move rfl) (by decide) ?_
  refine st_call0 cal28 rfl (fun w hM => (rKnown_bad hz w)) (by decide) ?_
  refine st_v (rv_assign rfl) (by decide) ?_
  refine st_nil ?_
  refine st_then ?_
  refine st_seq ?_
  refine st_seq ?_
  refine st_region ?_
  refine st_v (rv_move rfl) (by decide) ?_
  refine st_v (rv_not rfl) (by decide) ?_
  refine st_nil ?_
  refine st_then ?_
  refine st_true rfl ?_
  refine st_seq ?_
  refine st_region ?_
  refine st_v (rv_assign rfl) (by decide) ?_
  refine st_nil ?_
  refine st_then ?_
  refine st_ret ?_
  refine st_then_ret ?_
  exact st_done rfl rfl (fun w hM => ⟨rfl, hM.sublist (List.nil_sublist _)⟩)
set_option maxRecDepth 20000 in
theorem rSize0 (w : World) : Calls Tryd.prog 36 #[vI (0 : Nat)] w (fun r w' => r = .returned (vI (32 : Nat)) ∧ Mem (All w) w w' []) := by
  refine calls_of_st (n := 12) (args := [vI (0 : Nat)]) Tryd.func36 rfl Tryd.ntmps36 (Nat.le_of_ble_eq_true rfl) (Mem.all w) ?_
  refine st_seq ?_
  refine st_region ?_
  refine st_v (rv_assign rfl) (by decide) ?_
  refine st_nil ?_
  refine st_then ?_
  refine st_seq ?_
  refine st_region ?_
  refine st_v (rv_move rfl) (by decide) ?_
  refine st_call0 cal28 rfl (fun w hM => (rKnown_ok (k := 0) (by decide) w)) (by decide) ?_
  refine st_v (rv_assign rfl) (by decide) ?_
  refine st_nil ?_
  refine st_then ?_
  refine st_seq ?_
  refine st_seq ?_
  refine st_region ?_
  refine st_v (rv_move rfl) (by decide) ?_
  refine st_v (rv_not rfl) (by decide) ?_
  refine st_nil ?_
  refine st_then ?_
  refine st_false rfl ?_
  refine st_skip ?_
  refine st_then ?_
  refine st_seq ?_
  refine st_region ?_
  refine st_buildSlice Tryd.underlying47 tyZ3 rfl rfl (by decide) (cs := #[_, _, _]) rfl (by decide) (fun b1 hb1 => ?_)
  refine st_v (rv_move rfl) (by decide) ?_
  refine st_v (rv_indexS Tryd.underlying47 sz3 rfl rfl rfl (by first | omega | (simp <;> omega)) (by first | exact (Nat.zero_add _).trans (Nat.mul_one _) | exact congrArg _ (Nat.mul_one _) | rfl)) (by decide) ?_
  refine st_v (rv_load_blk tyS3 rfl (i := 0) rfl rfl) (by decide) ?_
  refine st_v (rv_assign rfl) (by decide) ?_
  refine st_nil ?_
  refine st_then ?_
  refine st_ret ?_
  exact st_done rfl rfl (fun w hM => ⟨rfl, hM.sublist (List.nil_sublist _)⟩)
set_option maxRecDepth 20000 in
theorem rSize1 (w : World) : Calls Tryd.prog 36 #[vI (1 : Nat)] w (fun r w' => r = .returned (vI (48 : Nat)) ∧ Mem (All w) w w' []) := by
  refine calls_of_st (n := 12) (args := [vI (1 : Nat)]) Tryd.func36 rfl Tryd.ntmps36 (Nat.le_of_ble_eq_true rfl) (Mem.all w) ?_
  refine st_seq ?_
  refine st_region ?_
  refine st_v (rv_assign rfl) (by decide) ?_
  refine st_nil ?_
  refine st_then ?_
  refine st_seq ?_
  refine st_region ?_
  refine st_v (rv_move rfl) (by decide) ?_
  refine st_call0 cal28 rfl (fun w hM => (rKnown_ok (k := 1) (by decide) w)) (by decide) ?_
  refine st_v (rv_assign rfl) (by decide) ?_
  refine st_nil ?_
  refine st_then ?_
  refine st_seq ?_
  refine st_seq ?_
  refine st_region ?_
  refine st_v (rv_move rfl) (by decide) ?_
  refine st_v (rv_not rfl) (by decide) ?_
  refine st_nil ?_
  refine st_then ?_
  refine st_false rfl ?_
  refine st_skip ?_
  refine st_then ?_
  refine st_seq ?_
  refine st_region ?_
  refine st_buildSlice Tryd.underlying47 tyZ3 rfl rfl (by decide) (cs := #[_, _, _]) rfl (by decide) (fun b1 hb1 => ?_)
  refine st_v (rv_move rfl) (by decide) ?_
  refine st_v (rv_indexS Tryd.underlying47 sz3 rfl rfl rfl (by first | omega | (simp <;> omega)) (by first | exact (Nat.zero_add _).trans (Nat.mul_one _) | exact congrArg _ (Nat.mul_one _) | rfl)) (by decide) ?_
  refine st_v (rv_load_blk tyS3 rfl (i := 0) rfl rfl) (by decide) ?_
  refine st_v (rv_assign rfl) (by decide) ?_
  refine st_nil ?_
  refine st_then ?_
  refine st_ret ?_
  exact st_done rfl rfl (fun w hM => ⟨rfl, hM.sublist (List.nil_sublist _)⟩)
set_option maxRecDepth 20000 in
theorem rSize2 (w : World) : Calls Tryd.prog 36 #[vI (2 : Nat)] w (fun r w' => r = .returned (vI (64 : Nat)) ∧ Mem (All w) w w' []) := by
  refine calls_of_st (n := 12) (args := [vI (2 : Nat)]) Tryd.func36 rfl Tryd.ntmps36 (Nat.le_of_ble_eq_true rfl) (Mem.all w) ?_
  refine st_seq ?_
  refine st_region ?_
  refine st_v (rv_assign rfl) (by decide) ?_
  refine st_nil ?_
  refine st_then ?_
  refine st_seq ?_
  refine st_region ?_
  refine st_v (rv_move rfl) (by decide) ?_
  refine st_call0 cal28 rfl (fun w hM => (rKnown_ok (k := 2) (by decide) w)) (by decide) ?_
  refine st_v (rv_assign rfl) (by decide) ?_
  refine st_nil ?_
  refine st_then ?_
  refine st_seq ?_
  refine st_seq ?_
  refine st_region ?_
  refine st_v (rv_move rfl) (by decide) ?_
  refine st_v (rv_not rfl) (by decide) ?_
  refine st_nil ?_
  refine st_then ?_
  refine st_false rfl ?_
  refine st_skip ?_
  refine st_then ?_
  refine st_seq ?_
  refine st_region ?_
  refine st_buildSlice Tryd.underlying47 tyZ3 rfl rfl (by decide) (cs := #[_, _, _]) rfl (by decide) (fun b1 hb1 => ?_)
  refine st_v (rv_move rfl) (by decide) ?_
  refine st_v (rv_indexS Tryd.underlying47 sz3 rfl rfl rfl (by first | omega | (simp <;> omega)) (by first | exact (Nat.zero_add _).trans (Nat.mul_one _) | exact congrArg _ (Nat.mul_one _) | rfl)) (by decide) ?_
  refine st_v (rv_load_blk tyS3 rfl (i := 0) rfl rfl) (by decide) ?_
  refine st_v (rv_assign rfl) (by decide) ?_
  refine st_nil ?_
  refine st_then ?_
  refine st_ret ?_
  exact st_done rfl rfl (fun w hM => ⟨rfl, hM.sublist (List.nil_sublist _)⟩)
theorem rSize_ok (k : Nat) (hk : k ≤ 2) (w : World) : Calls Tryd.prog 36 #[vI (k : Nat)] w (fun r w' => r = .returned (vI (hsize k : Nat)) ∧ Mem (All w) w w' []) := by
  match k, hk with
  | 0, _ => exact rSize0 w
  | 1, _ => exact rSize1 w
  | 2, _ => exact rSize2 w
set_option maxRecDepth 20000 in
theorem rBlockSize_bad (z : Int) (hz : knownZ z = false) (w : World) : Calls Tryd.prog 37 #[vI z] w (fun r w' => r = .returned (vI 0) ∧ Mem (All w) w w' []) := by
  refine calls_of_st (n := 12) (args := [vI z]) Tryd.func37 rfl Tryd.ntmps37 (Nat.le_of_ble_eq_true rfl) (Mem.all w) ?_
  refine st_seq ?_
  refine st_region ?_
  refine st_v (rv_assign rfl) (by decide) ?_
  refine st_nil ?_
  refine st_then ?_
  refine st_seq ?_
  refine st_region ?_
  refine st_v (rv_move rfl) (by decide) ?_
  refine st_call0 cal28 rfl (fun w hM => (rKnown_bad hz w)) (by decide) ?_
  refine st_v (rv_assign rfl) (by decide) ?_
  refine st_nil ?_
  refine st_then ?_
  refine st_seq ?_
  refine st_seq ?_
  refine st_region ?_
  refine st_v (rv_move rfl) (by decide) ?_
  refine st_v (rv_not rfl) (by decide) ?_
  refine st_nil ?_
  refine st_then ?_
  refine st_true rfl ?_
  refine st_seq ?_
  refine st_region ?_
  refine st_v (rv_assign rfl) (by decide) ?_
  refine st_nil ?_
  refine st_then ?_
  refine st_ret ?_
  refine st_then_ret ?_
  exact st_done rfl rfl (fun w hM => ⟨rfl, hM.sublist (List.nil_sublist _)⟩)
set_option maxRecDepth 20000 in
theorem rBlockSize0 (w : World) : Calls Tryd.prog 37 #[vI (0 : Nat)] w (fun r w' => r = .returned (vI (64 : Nat)) ∧ Mem (All w) w w' []) := by
  refine calls_of_st (n := 12) (args := [vI (0 : Nat)]) Tryd.func37 rfl Tryd.ntmps37 (Nat.le_of_ble_eq_true rfl) (Mem.all w) ?_
  refine st_seq ?_
  refine st_region ?_
  refine st_v (rv_assign rfl) (by decide) ?_
  refine st_nil ?_
  refine st_then ?_
  refine st_seq ?_
  refine st_region ?_
  refine st_v (rv_move rfl) (by decide) ?_
  refine st_call0 cal28 rfl (fun w hM => (rKnown_ok (k := 0) (by decide) w)) (by decide) ?_
  refine st_v (rv_assign rfl) (by decide) ?_
  refine st_nil ?_
  refine st_then ?_
  refine st_seq ?_
  refine st_seq ?_
  refine st_region ?_
  refine st_v (rv_move rfl) (by decide) ?_
  refine st_v (rv_not rfl) (by decide) ?_
  refine st_nil ?_
  refine st_then ?_
  refine st_false rfl ?_
  refine st_skip ?_
  refine st_then ?_
  refine st_seq ?_
  refine st_region ?_
  refine st_buildSlice Tryd.underlying47 tyZ3 rfl rfl (by decide) (cs := #[_, _, _]) rfl (by decide) (fun b1 hb1 => ?_)
  refine st_v (rv_move rfl) (by decide) ?_
  refine st_v (rv_indexS Tryd.underlying47 sz3 rfl rfl rfl (by first | omega | (simp <;> omega)) (by first | exact (Nat.zero_add _).trans (Nat.mul_one _) | exact congrArg _ (Nat.mul_one _) | rfl)) (by decide) ?_
  refine st_v (rv_load_blk tyS3 rfl (i := 0) rfl rfl) (by decide) ?_
  refine st_v (rv_assign rfl) (by decide) ?_
  refine st_nil ?_
  refine st_then ?_
  refine st_ret ?_
  exact st_done rfl rfl (fun w hM => ⟨rfl, hM.sublist (List.nil_sublist _)⟩)
set_option maxRecDepth 20000 in
theorem rBlockSize1 (w : World) : Calls Tryd.prog 37 #[vI (1 : Nat)] w (fun r w' => r = .returned (vI (128 : Nat)) ∧ Mem (All w) w w' []) := by
  refine calls_of_st (n := 12) (args := [vI (1 : Nat)]) Tryd.func37 rfl Tryd.ntmps37 (Nat.le_of_ble_eq_true rfl) (Mem.all w) ?_
  refine st_seq ?_
  refine st_region ?_
  refine st_v (rv_assign rfl) (by decide) ?_
  refine st_nil ?_
  refine st_then ?_
  refine st_seq ?_
  refine st_region ?_
  refine st_v (rv_move rfl) (by decide) ?_
  refine st_call0 cal28 rfl (fun w hM => (rKnown_ok (k := 1) (by decide) w)) (by decide) ?_
  refine st_v (rv_assign rfl) (by decide) ?_
  refine st_nil ?_
  refine st_then ?_
  refine st_seq ?_
  refine st_seq ?_
  refine st_region ?_
  refine st_v (rv_move rfl) (by decide) ?_
  refine st_v (rv_not rfl) (by decide) ?_
  refine st_nil ?_
  refine st_then ?_
  refine st_false rfl ?_
  refine st_skip ?_
  refine st_then ?_
  refine st_seq ?_
  refine st_region ?_
  refine st_buildSlice Tryd.underlying47 tyZ3 rfl rfl (by decide) (cs := #[_, _, _]) rfl (by decide) (fun b1 hb1 => ?_)
  refine st_v (rv_move rfl) (by decide) ?_
  refine st_v (rv_indexS Tryd.underlying47 sz3 rfl rfl rfl (by first | omega | (simp <;> omega)) (by first | exact (Nat.zero_add _).trans (Nat.mul_one _) | exact congrArg _ (Nat.mul_one _) | rfl)) (by decide) ?_
  refine st_v (rv_load_blk tyS3 rfl (i := 0) rfl rfl) (by decide) ?_
  refine st_v (rv_assign rfl) (by decide) ?_
  refine st_nil ?_
  refine st_then ?_
  refine st_ret ?_
  exact st_done rfl rfl (fun w hM => ⟨rfl, hM.sublist (List.nil_sublist _)⟩)
set_option maxRecDepth 20000 in
theorem rBlockSize2 (w : World) : Calls Tryd.prog 37 #[vI (2 : Nat)] w (fun r w' => r = .returned (vI (128 : Nat)) ∧ Mem (All w) w w' []) := by
  refine calls_of_st (n := 12) (args := [vI (2 : Nat)]) Tryd.func37 rfl Tryd.ntmps37 (Nat.le_of_ble_eq_true rfl) (Mem.all w) ?_
  refine st_seq ?_
  refine st_region ?_
  refine st_v (rv_assign rfl) (by decide) ?_
  refine st_nil ?_
  refine st_then ?_
  refine st_seq ?_
  refine st_region ?_
  refine st_v (rv_move rfl) (by decide) ?_
  refine st_call0 cal28 rfl (fun w hM => (rKnown_ok (k := 2) (by decide) w)) (by decide) ?_
  refine st_v (rv_assign rfl) (by decide) ?_
  refine st_nil ?_
  refine st_then ?_
  refine st_seq ?_
  refine st_seq ?_
  refine st_region ?_
  refine st_v (rv_move rfl) (by decide) ?_
  refine st_v (rv_not rfl) (by decide) ?_
  refine st_nil ?_
  refine st_then ?_
  refine st_false rfl ?_
  refine st_skip ?_
  refine st_then ?_
  refine st_seq ?_
  refine st_region ?_
  refine st_buildSlice Tryd.underlying47 tyZ3 rfl rfl (by decide) (cs := #[_, _, _]) rfl (by decide) (fun b1 hb1 => ?_)
  refine st_v (rv_move rfl) (by decide) ?_
  refine st_v (rv_indexS Tryd.underlying47 sz3 rfl rfl rfl (by first | omega | (simp <;> omega)) (by first | exact (Nat.zero_add _).trans (Nat.mul_one _) | exact congrArg _ (Nat.mul_one _) | rfl)) (by decide) ?_
  refine st_v (rv_load_blk tyS3 rfl (i := 0) rfl rfl) (by decide) ?_
  refine st_v (rv_assign rfl) (by decide) ?_
  refine st_nil ?_
  refine st_then ?_
  refine st_ret ?_
  exact st_done rfl rfl (fun w hM => ⟨rfl, hM.sublist (List.nil_sublist _)⟩)
theorem rBlockSize_ok (k : Nat) (hk : k ≤ 2) (w : World) : Calls Tryd.prog 37 #[vI (k : Nat)] w (fun r w' => r = .returned (vI (hbs k : Nat)) ∧ Mem (All w) w w' []) := by
  match k, hk with
  | 0, _ => exact rBlockSize0 w
  | 1, _ => exact rBlockSize1 w
  | 2, _ => exact rBlockSize2 w
set_option maxRecDepth 20000 in
theorem number_calls (v : BitVec 64) (n : Nat) (hn : n ≤ 1000) (w : World) : Calls Tryd.prog 125 #[U64 v, vI (n : Nat)] w (fun r w' => r = .returned (vS (numW v n)) ∧ Mem (All w) w w' []) := by
  refine calls_of_st (n := 21) (args := [U64 v, vI (n : Nat)]) Tryd.func125 rfl Tryd.ntmps125 (Nat.le_of_ble_eq_true rfl) (Mem.all w) ?_
  refine st_seq ?_
  refine st_region ?_
  refine st_v (rv_assign rfl) (by decide) ?_
  refine st_nil ?_
  refine st_then ?_
  refine st_seq ?_
  refine st_region ?_
  refine st_v (rv_assign rfl) (by decide) ?_
  refine st_nil ?_
  refine st_then ?_
  refine st_seq ?_
  refine st_seq ?_
  refine st_region ?_
  refine st_v (rv_assign rfl) (by decide) ?_
  refine st_nil ?_
  refine st_then ?_
  refine st_block ?_
  refine st_loopA (σ := Nat) [(0, fun i => U64 (numV v i)), (1, kst _), (5, fun i => vS (numW v i)), (6, fun i => vI i)] [] (fun i => i ≤ n) (fun i => n - i) 0 (by omega) (.cons rfl (.cons rfl (.cons rfl (.cons rfl (.nil _))))) (fun _ hM => hM) ?_
  intro i hI
  try dsimp only at hI
  dsimp only [List.map, kst]
  refine st_seq ?_
  refine st_seq ?_
  refine st_region ?_
  refine st_v (rv_move rfl) (by decide) ?_
  refine st_v (rv_move rfl) (by decide) ?_
  refine st_v (rv_lssZ rfl rfl) (by decide) ?_
  refine st_nil ?_
  refine st_then ?_
  refine st_cond rfl (fun hc9 => ?_) (fun hc9 => ?_)
  · -- t9 True
    try simp only [z1, z2, z3, z4, z5, z6, z7, z8, z9, z10, z11, z12, z13, z14] at hc9
    refine st_skip ?_
    refine st_then ?_
    refine st_seq ?_
    refine st_block ?_
    refine st_seq ?_
    refine st_region ?_
    refine st_v (rv_move rfl) (by decide) ?_
    refine st_v (rv_conv64to8 Tryd.underlying77 Tryd.underlying5 rfl) (by decide) ?_
    refine st_buildSlice Tryd.underlying22 tyZ5 rfl rfl (by decide) (cs := #[_]) rfl (by decide) (fun b1 hb1 => ?_)
    refine st_v (rv_string (rd_l8 (q := [_]) (len := 1) (i := 0) rfl rfl rfl (by omega)) Tryd.underlying22 Tryd.underlying9 Tryd.underlying5 rfl) (by decide) ?_
    refine st_v (rv_move rfl) (by decide) ?_
    refine st_v (rv_concat rfl rfl (by first | omega | (simp [length_numW] <;> omega))) (by decide) ?_
    refine st_v (rv_assign rfl) (by decide) ?_
    refine st_nil ?_
    refine st_then ?_
    refine st_region ?_
    refine st_v (rv_move rfl) (by decide) ?_
    refine st_v (rv_shr64 (s := 8) rfl rfl rfl) (by decide) ?_
    refine st_v (rv_assign rfl) (by decide) ?_
    refine st_nil ?_
    refine st_in_normal ?_
    refine st_then ?_
    refine st_region ?_
    refine st_v (rv_move rfl) (by decide) ?_
    first | refine st_v (rv_addN (b := 1) rfl rfl (by first | omega | (simp; done) | (simp; omega))) (by decide) ?_ | refine st_v (rv_addZ rfl rfl (by first | omega | (simp; done) | (simp; omega))) (by decide) ?_
    refine st_v (rv_assign rfl) (by decide) ?_
    refine st_nil ?_
    refine st_then ?_
    exact st_again (i + 1) (by omega) (by omega) (.cons rfl (.cons rfl (.cons rfl (.cons rfl (.nil _))))) (fun _ hM => hM.sublist (List.Sublist.cons _ (List.Sublist.slnil)))
  · -- t9 False
    try simp only [z1, z2, z3, z4, z5, z6, z7, z8, z9, z10, z11, z12, z13, z14] at hc9
    obtain rfl : i = n := by omega
    refine st_exit ?_
    refine st_then_exit ?_
    refine st_then_exit ?_
    refine st_in_exit ?_
    refine st_then ?_
    refine st_seq ?_
    refine st_region ?_
    refine st_v (rv_move rfl) (by decide) ?_
    refine st_v (rv_assign rfl) (by decide) ?_
    refine st_nil ?_
    refine st_then ?_
    refine st_ret ?_
    exact st_done rfl rfl (fun w hM => ⟨rfl, hM.sublist (List.nil_sublist _)⟩)
set_option maxRecDepth 20000 in
theorem turned32_calls (x : BitVec 64) (n : Nat) (hn : n ≤ 32) (w : World) : Calls Tryd.prog 140 #[U64 x, vI (n : Nat), vI (32 : Nat)] w (fun r w' => r = .returned (U64 (trR 32 x n)) ∧ Mem (All w) w w' []) := by
  refine calls_of_st (n := 29) (args := [U64 x, vI (n : Nat), vI (32 : Nat)]) Tryd.func140 rfl Tryd.ntmps140 (Nat.le_of_ble_eq_true rfl) (Mem.all w) ?_
  refine st_seq ?_
  refine st_region ?_
  refine st_v (rv_assign rfl) (by decide) ?_
  refine st_nil ?_
  refine st_then ?_
  refine st_seq ?_
  refine st_seq ?_
  refine st_region ?_
  refine st_v (rv_move rfl) (by decide) ?_
  refine st_v (rv_eqlZ rfl rfl) (by decide) ?_
  refine st_nil ?_
  refine st_then ?_
  refine st_true rfl ?_
  refine st_seq ?_
  refine st_region ?_
  refine st_v (rv_move rfl) (by decide) ?_
  refine st_v (rv_conv64to32 Tryd.underlying77 Tryd.underlying91 rfl) (by decide) ?_
  refine st_v (rv_assign rfl) (by decide) ?_
  refine st_nil ?_
  refine st_then ?_
  refine st_seq ?_
  refine st_drawStart mixed ?_
  refine st_drawSeg1 (E0 := [(1, _), (6, _), (7, _)]) [kpeq _, kpeq _, kpeq _, kpeq _, kpeq _, kpeq _, kpeq _] 0 7 [0, 0, 3, 0, 0, 16, 56, 127, 255, 511] [1, 6, 7] (by kernel_rfl) (by decide) (by kernel_rfl) (.cons rfl (.cons rfl (.cons rfl (.nil _)))) rfl rfl (hall_cons (hop_mv rfl (by decide) rfl rfl) (hall_cons (hop_mv rfl (by decide) rfl rfl) (hall_cons (hop_val [(0, 12, _), (1, 13, _)] [] rfl rfl rfl (by decide) rfl (jcons rfl rfl rfl rfl rfl (jcons rfl rfl rfl rfl rfl (jnil))) (xnil) (fun _ _ _ _ => does_v (rv_shr32 rfl rfl rfl))) (hall_cons (hop_mv rfl (by decide) rfl rfl) (hall_cons (hop_mv rfl (by decide) rfl rfl) (hall_cons (hop_val [(4, 16, _)] [] rfl rfl rfl (by decide) rfl (jcons rfl rfl rfl rfl rfl (jnil)) (xnil) (fun _ _ _ _ => does_v (rv_subN (a := 32) rfl rfl (by first | omega | (simp; done) | (simp; omega))))) (hall_cons (hop_val [(3, 15, _), (5, 17, _)] [] rfl rfl rfl (by decide) rfl (jcons rfl rfl rfl rfl rfl (jcons rfl rfl rfl rfl rfl (jnil))) (xnil) (fun _ _ _ _ => does_v (rv_shl32 rfl rfl rfl))) (hall_nil)))))))) (draw_end1 [(2, 14, _), (6, 18, _)] (jcons rfl rfl rfl rfl rfl (jcons rfl rfl rfl rfl rfl (jnil))) ?_)
  refine st_drawTail (N := 7) [0, 0, 3, 0, 0, 16, 56, 127, 255, 511] (by kernel_rfl) (by kernel_rfl) ?_
  refine st_v (rv_or32 rfl rfl) (by decide) ?_
  refine st_v (rv_conv32to64 Tryd.underlying91 Tryd.underlying77 rfl) (by decide) ?_
  refine st_v (rv_assign rfl) (by decide) ?_
  refine st_nil ?_
  refine st_then ?_
  refine st_ret ?_
  refine st_then_ret ?_
  exact st_done rfl rfl (fun w hM => ⟨rfl, hM.sublist (List.nil_sublist _)⟩)
set_option maxRecDepth 20000 in
theorem three32D_calls (x : BitVec 64) (v : Value) (a b c : Nat) (ha : a ≤ 32) (hb : b ≤ 32) (hc : c ≤ 32) (w : World) (hR : Rd w v 3 1 [vI (a : Nat), vI (b : Nat), vI (c : Nat)]) : Calls Tryd.prog 124 #[U64 x, v, .bool true, vI (32 : Nat)] w (fun r w' => r = .returned (U64 (shfR 32 x (a, b, c))) ∧ Mem (All w) w w' []) := by
  refine calls_of_st (n := 37) (args := [U64 x, v, .bool true, vI (32 : Nat)]) Tryd.func124 rfl Tryd.ntmps124 (Nat.le_of_ble_eq_true rfl) (Mem.all w) ?_
  refine st_seq ?_
  refine st_region ?_
  refine st_v (rv_assign rfl) (by decide) ?_
  refine st_nil ?_
  refine st_then ?_
  refine st_seq ?_
  refine st_region ?_
  refine st_v (rv_move rfl) (by decide) ?_
  refine st_v (rv_move rfl) (by decide) ?_
  refine st_v (rv_indexR1 (rd_old hR hR.all) Tryd.underlying47 sz3 rfl rfl (j := 2) rfl (by first | omega | (simp <;> omega))) (by decide) ?_
  refine st_v (rv_load_rd (rd_old hR hR.all) tyS3 rfl (by rfl)) (by decide) ?_
  refine st_v (rv_move rfl) (by decide) ?_
  refine st_call0 cal140 rfl (fun w hM => (turned32_calls _ _ (by omega) w)) (by decide) ?_
  refine st_v (rv_assign rfl) (by decide) ?_
  refine st_nil ?_
  refine st_then ?_
  refine st_seq ?_
  refine st_seq ?_
  refine st_region ?_
  refine st_v (rv_move rfl) (by decide) ?_
  refine st_nil ?_
  refine st_then ?_
  refine st_true rfl ?_
  refine st_region ?_
  refine st_v (rv_move rfl) (by decide) ?_
  refine st_v (rv_move rfl) (by decide) ?_
  refine st_v (rv_indexR1 (rd_old hR hR.all) Tryd.underlying47 sz3 rfl rfl (j := 2) rfl (by first | omega | (simp <;> omega))) (by decide) ?_
  refine st_v (rv_load_rd (rd_old hR hR.all) tyS3 rfl (by rfl)) (by decide) ?_
  refine st_v (rv_shr64 rfl rfl rfl) (by decide) ?_
  refine st_v (rv_assign rfl) (by decide) ?_
  refine st_nil ?_
  refine st_then ?_
  refine st_seq ?_
  refine st_drawStart mixed ?_
  refine st_drawSeg1 (E0 := [(0, _), (1, _), (3, _), (8, _), (9, _)]) [kpeq _, kpeq _, kpeq _, kpeq _, kpeq _, kpeq _, kpeq _, kpeq _, kpeq _, kpeq _, kpeq _, kpeq _, kpeq _, kpeq _] 0 14 [0, 0, 2, 6, 0, 31, 0, 0, 128, 384, 0, 2047, 4095, 0, 16383, 32767] [0, 1, 3, 8, 9] (by kernel_rfl) (by decide) (by kernel_rfl) (.cons rfl (.cons rfl (.cons rfl (.cons rfl (.cons rfl (.nil _)))))) rfl rfl (hall_cons (hop_mv rfl (by decide) rfl rfl) (hall_cons (hop_mv rfl (by decide) rfl rfl) (hall_cons (hop_val [(1, 23, _)] [] rfl rfl rfl (by decide) rfl (jcons rfl rfl rfl rfl rfl (jnil)) (xnil) (fun _ _ _ _ => does_v (rv_indexR1 (rd_old hR hR.all) Tryd.underlying47 sz3 rfl rfl (j := 0) rfl (by first | omega | (simp <;> omega))))) (hall_cons (hop_val [(2, 24, _)] [] rfl rfl rfl (by decide) rfl (jcons rfl rfl rfl rfl rfl (jnil)) (xnil) (fun _ _ _ _ => does_v (rv_load_rd (rd_old hR hR.all) tyS3 rfl (by rfl)))) (hall_cons (hop_mv rfl (by decide) rfl rfl) (hall_cons (hop_val [(0, 22, _), (3, 25, _), (4, 26, _)] [] rfl rfl rfl (by decide) rfl (jcons rfl rfl rfl rfl rfl (jcons rfl rfl rfl rfl rfl (jcons rfl rfl rfl rfl rfl (jnil)))) (xnil) (fun _ _ _ _ => does_call0 cal140 rfl (fun w hM => (turned32_calls _ _ (by omega) w)))) (hall_cons (hop_mv rfl (by decide) rfl rfl) (hall_cons (hop_mv rfl (by decide) rfl rfl) (hall_cons (hop_val [(7, 29, _)] [] rfl rfl rfl (by decide) rfl (jcons rfl rfl rfl rfl rfl (jnil)) (xnil) (fun _ _ _ _ => does_v (rv_indexR1 (rd_old hR hR.all) Tryd.underlying47 sz3 rfl rfl (j := 1) rfl (by first | omega | (simp <;> omega))))) (hall_cons (hop_val [(8, 30, _)] [] rfl rfl rfl (by decide) rfl (jcons rfl rfl rfl rfl rfl (jnil)) (xnil) (fun _ _ _ _ => does_v (rv_load_rd (rd_old hR hR.all) tyS3 rfl (by rfl)))) (hall_cons (hop_mv rfl (by decide) rfl rfl) (hall_cons (hop_val [(6, 28, _), (9, 31, _), (10, 32, _)] [] rfl rfl rfl (by decide) rfl (jcons rfl rfl rfl rfl rfl (jcons rfl rfl rfl rfl rfl (jcons rfl rfl rfl rfl rfl (jnil)))) (xnil) (fun _ _ _ _ => does_call0 cal140 rfl (fun w hM => (turned32_calls _ _ (by omega) w)))) (hall_cons (hop_val [(5, 27, _), (11, 33, _)] [] rfl rfl rfl (by decide) rfl (jcons rfl rfl rfl rfl rfl (jcons rfl rfl rfl rfl rfl (jnil))) (xnil) (fun _ _ _ _ => does_v (rv_xor64 rfl rfl))) (hall_cons (hop_mv rfl (by decide) rfl rfl) (hall_nil))))))))))))))) (draw_end1 [(12, 34, _), (13, 35, _)] (jcons rfl rfl rfl rfl rfl (jcons rfl rfl rfl rfl rfl (jnil))) ?_)
  refine st_drawTail (N := 14) [0, 0, 2, 6, 0, 31, 0, 0, 128, 384, 0, 2047, 4095, 0, 16383, 32767] (by kernel_rfl) (by kernel_rfl) ?_
  refine st_v (rv_xor64 rfl rfl) (by decide) ?_
  refine st_v (rv_assign rfl) (by decide) ?_
  refine st_nil ?_
  refine st_then ?_
  refine st_ret ?_
  exact st_done rfl rfl (fun w hM => ⟨rfl, hM.sublist (List.nil_sublist _)⟩)
set_option maxRecDepth 20000 in
theorem three32U_calls (x : BitVec 64) (v : Value) (a b c : Nat) (ha : a ≤ 32) (hb : b ≤ 32) (hc : c ≤ 32) (w : World) (hR : Rd w v 3 1 [vI (a : Nat), vI (b : Nat), vI (c : Nat)]) : Calls Tryd.prog 124 #[U64 x, v, .bool false, vI (32 : Nat)] w (fun r w' => r = .returned (U64 (sumR 32 x (a, b, c))) ∧ Mem (All w) w w' []) := by
  refine calls_of_st (n := 37) (args := [U64 x, v, .bool false, vI (32 : Nat)]) Tryd.func124 rfl Tryd.ntmps124 (Nat.le_of_ble_eq_true rfl) (Mem.all w) ?_
  refine st_seq ?_
  refine st_region ?_
  refine st_v (rv_assign rfl) (by decide) ?_
  refine st_nil ?_
  refine st_then ?_
  refine st_seq ?_
  refine st_region ?_
  refine st_v (rv_move rfl) (by decide) ?_
  refine st_v (rv_move rfl) (by decide) ?_
  refine st_v (rv_indexR1 (rd_old hR hR.all) Tryd.underlying47 sz3 rfl rfl (j := 2) rfl (by first | omega | (simp <;> omega))) (by decide) ?_
  refine st_v (rv_load_rd (rd_old hR hR.all) tyS3 rfl (by rfl)) (by decide) ?_
  refine st_v (rv_move rfl) (by decide) ?_
  refine st_call0 cal140 rfl (fun w hM => (turned32_calls _ _ (by omega) w)) (by decide) ?_
  refine st_v (rv_assign rfl) (by decide) ?_
  refine st_nil ?_
  refine st_then ?_
  refine st_seq ?_
  refine st_seq ?_
  refine st_region ?_
  refine st_v (rv_move rfl) (by decide) ?_
  refine st_nil ?_
  refine st_then ?_
  refine st_false rfl ?_
  refine st_skip ?_
  refine st_then ?_
  refine st_seq ?_
  refine st_drawStart mixed ?_
  refine st_drawSeg1 (E0 := [(0, _), (1, _), (3, _), (8, _), (9, _)]) [kpeq _, kpeq _, kpeq _, kpeq _, kpeq _, kpeq _, kpeq _, kpeq _, kpeq _, kpeq _, kpeq _, kpeq _, kpeq _, kpeq _] 0 14 [0, 0, 2, 6, 0, 31, 0, 0, 128, 384, 0, 2047, 4095, 0, 16383, 32767] [0, 1, 3, 8, 9] (by kernel_rfl) (by decide) (by kernel_rfl) (.cons rfl (.cons rfl (.cons rfl (.cons rfl (.cons rfl (.nil _)))))) rfl rfl (hall_cons (hop_mv rfl (by decide) rfl rfl) (hall_cons (hop_mv rfl (by decide) rfl rfl) (hall_cons (hop_val [(1, 23, _)] [] rfl rfl rfl (by decide) rfl (jcons rfl rfl rfl rfl rfl (jnil)) (xnil) (fun _ _ _ _ => does_v (rv_indexR1 (rd_old hR hR.all) Tryd.underlying47 sz3 rfl rfl (j := 0) rfl (by first | omega | (simp <;> omega))))) (hall_cons (hop_val [(2, 24, _)] [] rfl rfl rfl (by decide) rfl (jcons rfl rfl rfl rfl rfl (jnil)) (xnil) (fun _ _ _ _ => does_v (rv_load_rd (rd_old hR hR.all) tyS3 rfl (by rfl)))) (hall_cons (hop_mv rfl (by decide) rfl rfl) (hall_cons (hop_val [(0, 22, _), (3, 25, _), (4, 26, _)] [] rfl rfl rfl (by decide) rfl (jcons rfl rfl rfl rfl rfl (jcons rfl rfl rfl rfl rfl (jcons rfl rfl rfl rfl rfl (jnil)))) (xnil) (fun _ _ _ _ => does_call0 cal140 rfl (fun w hM => (turned32_calls _ _ (by omega) w)))) (hall_cons (hop_mv rfl (by decide) rfl rfl) (hall_cons (hop_mv rfl (by decide) rfl rfl) (hall_cons (hop_val [(7, 29, _)] [] rfl rfl rfl (by decide) rfl (jcons rfl rfl rfl rfl rfl (jnil)) (xnil) (fun _ _ _ _ => does_v (rv_indexR1 (rd_old hR hR.all) Tryd.underlying47 sz3 rfl rfl (j := 1) rfl (by first | omega | (simp <;> omega))))) (hall_cons (hop_val [(8, 30, _)] [] rfl rfl rfl (by decide) rfl (jcons rfl rfl rfl rfl rfl (jnil)) (xnil) (fun _ _ _ _ => does_v (rv_load_rd (rd_old hR hR.all) tyS3 rfl (by rfl)))) (hall_cons (hop_mv rfl (by decide) rfl rfl) (hall_cons (hop_val [(6, 28, _), (9, 31, _), (10, 32, _)] [] rfl rfl rfl (by decide) rfl (jcons rfl rfl rfl rfl rfl (jcons rfl rfl rfl rfl rfl (jcons rfl rfl rfl rfl rfl (jnil)))) (xnil) (fun _ _ _ _ => does_call0 cal140 rfl (fun w hM => (turned32_calls _ _ (by omega) w)))) (hall_cons (hop_val [(5, 27, _), (11, 33, _)] [] rfl rfl rfl (by decide) rfl (jcons rfl rfl rfl rfl rfl (jcons rfl rfl rfl rfl rfl (jnil))) (xnil) (fun _ _ _ _ => does_v (rv_xor64 rfl rfl))) (hall_cons (hop_mv rfl (by decide) rfl rfl) (hall_nil))))))))))))))) (draw_end1 [(12, 34, _), (13, 35, _)] (jcons rfl rfl rfl rfl rfl (jcons rfl rfl rfl rfl rfl (jnil))) ?_)
  refine st_drawTail (N := 14) [0, 0, 2, 6, 0, 31, 0, 0, 128, 384, 0, 2047, 4095, 0, 16383, 32767] (by kernel_rfl) (by kernel_rfl) ?_
  refine st_v (rv_xor64 rfl rfl) (by decide) ?_
  refine st_v (rv_assign rfl) (by decide) ?_
  refine st_nil ?_
  refine st_then ?_
  refine st_ret ?_
  exact st_done rfl rfl (fun w hM => ⟨rfl, hM.sublist (List.nil_sublist _)⟩)
set_option maxRecDepth 20000 in
theorem turned64_calls (x : BitVec 64) (n : Nat) (hn : n ≤ 64) (w : World) : Calls Tryd.prog 140 #[U64 x, vI (n : Nat), vI (64 : Nat)] w (fun r w' => r = .returned (U64 (trR 64 x n)) ∧ Mem (All w) w w' []) := by
  refine calls_of_st (n := 29) (args := [U64 x, vI (n : Nat), vI (64 : Nat)]) Tryd.func140 rfl Tryd.ntmps140 (Nat.le_of_ble_eq_true rfl) (Mem.all w) ?_
  refine st_seq ?_
  refine st_region ?_
  refine st_v (rv_assign rfl) (by decide) ?_
  refine st_nil ?_
  refine st_then ?_
  refine st_seq ?_
  refine st_seq ?_
  refine st_region ?_
  refine st_v (rv_move rfl) (by decide) ?_
  refine st_v (rv_eqlZ rfl rfl) (by decide) ?_
  refine st_nil ?_
  refine st_then ?_
  refine st_false rfl ?_
  refine st_skip ?_
  refine st_then ?_
  refine st_seq ?_
  refine st_drawStart mixed ?_
  refine st_drawSeg1 (E0 := [(0, _), (1, _), (6, _)]) [kpeq _, kpeq _, kpeq _, kpeq _, kpeq _, kpeq _, kpeq _] 0 7 [0, 0, 3, 0, 0, 16, 56, 127, 255] [0, 1, 6] (by kernel_rfl) (by decide) (by kernel_rfl) (.cons rfl (.cons rfl (.cons rfl (.nil _)))) rfl rfl (hall_cons (hop_mv rfl (by decide) rfl rfl) (hall_cons (hop_mv rfl (by decide) rfl rfl) (hall_cons (hop_val [(0, 21, _), (1, 22, _)] [] rfl rfl rfl (by decide) rfl (jcons rfl rfl rfl rfl rfl (jcons rfl rfl rfl rfl rfl (jnil))) (xnil) (fun _ _ _ _ => does_v (rv_shr64 rfl rfl rfl))) (hall_cons (hop_mv rfl (by decide) rfl rfl) (hall_cons (hop_mv rfl (by decide) rfl rfl) (hall_cons (hop_val [(4, 25, _)] [] rfl rfl rfl (by decide) rfl (jcons rfl rfl rfl rfl rfl (jnil)) (xnil) (fun _ _ _ _ => does_v (rv_subN (a := 64) rfl rfl (by first | omega | (simp; done) | (simp; omega))))) (hall_cons (hop_val [(3, 24, _), (5, 26, _)] [] rfl rfl rfl (by decide) rfl (jcons rfl rfl rfl rfl rfl (jcons rfl rfl rfl rfl rfl (jnil))) (xnil) (fun _ _ _ _ => does_v (rv_shl64 rfl rfl rfl))) (hall_nil)))))))) (draw_end1 [(2, 23, _), (6, 27, _)] (jcons rfl rfl rfl rfl rfl (jcons rfl rfl rfl rfl rfl (jnil))) ?_)
  refine st_drawTail (N := 7) [0, 0, 3, 0, 0, 16, 56, 127, 255] (by kernel_rfl) (by kernel_rfl) ?_
  refine st_v (rv_or64 rfl rfl) (by decide) ?_
  refine st_v (rv_assign rfl) (by decide) ?_
  refine st_nil ?_
  refine st_then ?_
  refine st_ret ?_
  exact st_done rfl rfl (fun w hM => ⟨rfl, hM.sublist (List.nil_sublist _)⟩)
set_option maxRecDepth 20000 in
theorem three64D_calls (x : BitVec 64) (v : Value) (a b c : Nat) (ha : a ≤ 64) (hb : b ≤ 64) (hc : c ≤ 64) (w : World) (hR : Rd w v 3 1 [vI (a : Nat), vI (b : Nat), vI (c : Nat)]) : Calls Tryd.prog 124 #[U64 x, v, .bool true, vI (64 : Nat)] w (fun r w' => r = .returned (U64 (shfR 64 x (a, b, c))) ∧ Mem (All w) w w' []) := by
  refine calls_of_st (n := 37) (args := [U64 x, v, .bool true, vI (64 : Nat)]) Tryd.func124 rfl Tryd.ntmps124 (Nat.le_of_ble_eq_true rfl) (Mem.all w) ?_
  refine st_seq ?_
  refine st_region ?_
  refine st_v (rv_assign rfl) (by decide) ?_
  refine st_nil ?_
  refine st_then ?_
  refine st_seq ?_
  refine st_region ?_
  refine st_v (rv_move rfl) (by decide) ?_
  refine st_v (rv_move rfl) (by decide) ?_
  refine st_v (rv_indexR1 (rd_old hR hR.all) Tryd.underlying47 sz3 rfl rfl (j := 2) rfl (by first | omega | (simp <;> omega))) (by decide) ?_
  refine st_v (rv_load_rd (rd_old hR hR.all) tyS3 rfl (by rfl)) (by decide) ?_
  refine st_v (rv_move rfl) (by decide) ?_
  refine st_call0 cal140 rfl (fun w hM => (turned64_calls _ _ (by omega) w)) (by decide) ?_
  refine st_v (rv_assign rfl) (by decide) ?_
  refine st_nil ?_
  refine st_then ?_
  refine st_seq ?_
  refine st_seq ?_
  refine st_region ?_
  refine st_v (rv_move rfl) (by decide) ?_
  refine st_nil ?_
  refine st_then ?_
  refine st_true rfl ?_
  refine st_region ?_
  refine st_v (rv_move rfl) (by decide) ?_
  refine st_v (rv_move rfl) (by decide) ?_
  refine st_v (rv_indexR1 (rd_old hR hR.all) Tryd.underlying47 sz3 rfl rfl (j := 2) rfl (by first | omega | (simp <;> omega))) (by decide) ?_
  refine st_v (rv_load_rd (rd_old hR hR.all) tyS3 rfl (by rfl)) (by decide) ?_
  refine st_v (rv_shr64 rfl rfl rfl) (by decide) ?_
  refine st_v (rv_assign rfl) (by decide) ?_
  refine st_nil ?_
  refine st_then ?_
  refine st_seq ?_
  refine st_drawStart mixed ?_
  refine st_drawSeg1 (E0 := [(0, _), (1, _), (3, _), (8, _), (9, _)]) [kpeq _, kpeq _, kpeq _, kpeq _, kpeq _, kpeq _, kpeq _, kpeq _, kpeq _, kpeq _, kpeq _, kpeq _, kpeq _, kpeq _] 0 14 [0, 0, 2, 6, 0, 31, 0, 0, 128, 384, 0, 2047, 4095, 0, 16383, 32767] [0, 1, 3, 8, 9] (by kernel_rfl) (by decide) (by kernel_rfl) (.cons rfl (.cons rfl (.cons rfl (.cons rfl (.cons rfl (.nil _)))))) rfl rfl (hall_cons (hop_mv rfl (by decide) rfl rfl) (hall_cons (hop_mv rfl (by decide) rfl rfl) (hall_cons (hop_val [(1, 23, _)] [] rfl rfl rfl (by decide) rfl (jcons rfl rfl rfl rfl rfl (jnil)) (xnil) (fun _ _ _ _ => does_v (rv_indexR1 (rd_old hR hR.all) Tryd.underlying47 sz3 rfl rfl (j := 0) rfl (by first | omega | (simp <;> omega))))) (hall_cons (hop_val [(2, 24, _)] [] rfl rfl rfl (by decide) rfl (jcons rfl rfl rfl rfl rfl (jnil)) (xnil) (fun _ _ _ _ => does_v (rv_load_rd (rd_old hR hR.all) tyS3 rfl (by rfl)))) (hall_cons (hop_mv rfl (by decide) rfl rfl) (hall_cons (hop_val [(0, 22, _), (3, 25, _), (4, 26, _)] [] rfl rfl rfl (by decide) rfl (jcons rfl rfl rfl rfl rfl (jcons rfl rfl rfl rfl rfl (jcons rfl rfl rfl rfl rfl (jnil)))) (xnil) (fun _ _ _ _ => does_call0 cal140 rfl (fun w hM => (turned64_calls _ _ (by omega) w)))) (hall_cons (hop_mv rfl (by decide) rfl rfl) (hall_cons (hop_mv rfl (by decide) rfl rfl) (hall_cons (hop_val [(7, 29, _)] [] rfl rfl rfl (by decide) rfl (jcons rfl rfl rfl rfl rfl (jnil)) (xnil) (fun _ _ _ _ => does_v (rv_indexR1 (rd_old hR hR.all) Tryd.underlying47 sz3 rfl rfl (j := 1) rfl (by first | omega | (simp <;> omega))))) (hall_cons (hop_val [(8, 30, _)] [] rfl rfl rfl (by decide) rfl (jcons rfl rfl rfl rfl rfl (jnil)) (xnil) (fun _ _ _ _ => does_v (rv_load_rd (rd_old hR hR.all) tyS3 rfl (by rfl)))) (hall_cons (hop_mv rfl (by decide) rfl rfl) (hall_cons (hop_val [(6, 28, _), (9, 31, _), (10, 32, _)] [] rfl rfl rfl (by decide) rfl (jcons rfl rfl rfl rfl rfl (jcons rfl rfl rfl rfl rfl (jcons rfl rfl rfl rfl rfl (jnil)))) (xnil) (fun _ _ _ _ => does_call0 cal140 rfl (fun w hM => (turned64_calls _ _ (by omega) w)))) (hall_cons (hop_val [(5, 27, _), (11, 33, _)] [] rfl rfl rfl (by decide) rfl (jcons rfl rfl rfl rfl rfl (jcons rfl rfl rfl rfl rfl (jnil))) (xnil) (fun _ _ _ _ => does_v (rv_xor64 rfl rfl))) (hall_cons (hop_mv rfl (by decide) rfl rfl) (hall_nil))))))))))))))) (draw_end1 [(12, 34, _), (13, 35, _)] (jcons rfl rfl rfl rfl rfl (jcons rfl rfl rfl rfl rfl (jnil))) ?_)
  refine st_drawTail (N := 14) [0, 0, 2, 6, 0, 31, 0, 0, 128, 384, 0, 2047, 4095, 0, 16383, 32767] (by kernel_rfl) (by kernel_rfl) ?_
  refine st_v (rv_xor64 rfl rfl) (by decide) ?_
  refine st_v (rv_assign rfl) (by decide) ?_
  refine st_nil ?_
  refine st_then ?_
  refine st_ret ?_
  exact st_done rfl rfl (fun w hM => ⟨rfl, hM.sublist (List.nil_sublist _)⟩)
set_option maxRecDepth 20000 in
theorem three64U_calls (x : BitVec 64) (v : Value) (a b c : Nat) (ha : a ≤ 64) (hb : b ≤ 64) (hc : c ≤ 64) (w : World) (hR : Rd w v 3 1 [vI (a : Nat), vI (b : Nat), vI (c : Nat)]) : Calls Tryd.prog 124 #[U64 x, v, .bool false, vI (64 : Nat)] w (fun r w' => r = .returned (U64 (sumR 64 x (a, b, c))) ∧ Mem (All w) w w' []) := by
  refine calls_of_st (n := 37) (args := [U64 x, v, .bool false, vI (64 : Nat)]) Tryd.func124 rfl Tryd.ntmps124 (Nat.le_of_ble_eq_true rfl) (Mem.all w) ?_
  refine st_seq ?_
  refine st_region ?_
  refine st_v (rv_assign rfl) (by decide) ?_
  refine st_nil ?_
  refine st_then ?_
  refine st_seq ?_
  refine st_region ?_
  refine st_v (rv_move rfl) (by decide) ?_
  refine st_v (rv_move rfl) (by decide) ?_
  refine st_v (rv_indexR1 (rd_old hR hR.all) Tryd.underlying47 sz3 rfl rfl (j := 2) rfl (by first | omega | (simp <;> omega))) (by decide) ?_
  refine st_v (rv_load_rd (rd_old hR hR.all) tyS3 rfl (by rfl)) (by decide) ?_
  refine st_v (rv_move rfl) (by decide) ?_
  refine st_call0 cal140 rfl (fun w hM => (turned64_calls _ _ (by omega) w)) (by decide) ?_
  refine st_v (rv_assign rfl) (by decide) ?_
  refine st_nil ?_
  refine st_then ?_
  refine st_seq ?_
  refine st_seq ?_
  refine st_region ?_
  refine st_v (rv_move rfl) (by decide) ?_
  refine st_nil ?_
  refine st_then ?_
  refine st_false rfl ?_
  refine st_skip ?_
  refine st_then ?_
  refine st_seq ?_
  refine st_drawStart mixed ?_
  refine st_drawSeg1 (E0 := [(0, _), (1, _), (3, _), (8, _), (9, _)]) [kpeq _, kpeq _, kpeq _, kpeq _, kpeq _, kpeq _, kpeq _, kpeq _, kpeq _, kpeq _, kpeq _, kpeq _, kpeq _, kpeq _] 0 14 [0, 0, 2, 6, 0, 31, 0, 0, 128, 384, 0, 2047, 4095, 0, 16383, 32767] [0, 1, 3, 8, 9] (by kernel_rfl) (by decide) (by kernel_rfl) (.cons rfl (.cons rfl (.cons rfl (.cons rfl (.cons rfl (.nil _)))))) rfl rfl (hall_cons (hop_mv rfl (by decide) rfl rfl) (hall_cons (hop_mv rfl (by decide) rfl rfl) (hall_cons (hop_val [(1, 23, _)] [] rfl rfl rfl (by decide) rfl (jcons rfl rfl rfl rfl rfl (jnil)) (xnil) (fun _ _ _ _ => does_v (rv_indexR1 (rd_old hR hR.all) Tryd.underlying47 sz3 rfl rfl (j := 0) rfl (by first | omega | (simp <;> omega))))) (hall_cons (hop_val [(2, 24, _)] [] rfl rfl rfl (by decide) rfl (jcons rfl rfl rfl rfl rfl (jnil)) (xnil) (fun _ _ _ _ => does_v (rv_load_rd (rd_old hR hR.all) tyS3 rfl (by rfl)))) (hall_cons (hop_mv rfl (by decide) rfl rfl) (hall_cons (hop_val [(0, 22, _), (3, 25, _), (4, 26, _)] [] rfl rfl rfl (by decide) rfl (jcons rfl rfl rfl rfl rfl (jcons rfl rfl rfl rfl rfl (jcons rfl rfl rfl rfl rfl (jnil)))) (xnil) (fun _ _ _ _ => does_call0 cal140 rfl (fun w hM => (turned64_calls _ _ (by omega) w)))) (hall_cons (hop_mv rfl (by decide) rfl rfl) (hall_cons (hop_mv rfl (by decide) rfl rfl) (hall_cons (hop_val [(7, 29, _)] [] rfl rfl rfl (by decide) rfl (jcons rfl rfl rfl rfl rfl (jnil)) (xnil) (fun _ _ _ _ => does_v (rv_indexR1 (rd_old hR hR.all) Tryd.underlying47 sz3 rfl rfl (j := 1) rfl (by first | omega | (simp <;> omega))))) (hall_cons (hop_val [(8, 30, _)] [] rfl rfl rfl (by decide) rfl (jcons rfl rfl rfl rfl rfl (jnil)) (xnil) (fun _ _ _ _ => does_v (rv_load_rd (rd_old hR hR.all) tyS3 rfl (by rfl)))) (hall_cons (hop_mv rfl (by decide) rfl rfl) (hall_cons (hop_val [(6, 28, _), (9, 31, _), (10, 32, _)] [] rfl rfl rfl (by decide) rfl (jcons rfl rfl rfl rfl rfl (jcons rfl rfl rfl rfl rfl (jcons rfl rfl rfl rfl rfl (jnil)))) (xnil) (fun _ _ _ _ => does_call0 cal140 rfl (fun w hM => (turned64_calls _ _ (by omega) w)))) (hall_cons (hop_val [(5, 27, _), (11, 33, _)] [] rfl rfl rfl (by decide) rfl (jcons rfl rfl rfl rfl rfl (jcons rfl rfl rfl rfl rfl (jnil))) (xnil) (fun _ _ _ _ => does_v (rv_xor64 rfl rfl))) (hall_cons (hop_mv rfl (by decide) rfl rfl) (hall_nil))))))))))))))) (draw_end1 [(12, 34, _), (13, 35, _)] (jcons rfl rfl rfl rfl rfl (jcons rfl rfl rfl rfl rfl (jnil))) ?_)
  refine st_drawTail (N := 14) [0, 0, 2, 6, 0, 31, 0, 0, 128, 384, 0, 2047, 4095, 0, 16383, 32767] (by kernel_rfl) (by kernel_rfl) ?_
  refine st_v (rv_xor64 rfl rfl) (by decide) ?_
  refine st_v (rv_assign rfl) (by decide) ?_
  refine st_nil ?_
  refine st_then ?_
  refine st_ret ?_
  exact st_done rfl rfl (fun w hM => ⟨rfl, hM.sublist (List.nil_sublist _)⟩)
set_option maxRecDepth 20000 in
set_option maxHeartbeats 1000000 in
theorem padded0_calls (s : List (BitVec 8)) (hs : s.length ≤ 900000) (w : World) : Calls Tryd.prog 123 #[vI (0 : Nat), vS s] w (fun r w' => r = .returned (vS (padW s 64 8)) ∧ Mem (All w) w w' []) := by
  have hz : (zcount s.length 8 64) = (64 - (s.length + 1 + 8) % 64) % 64 := rfl
  refine calls_of_st (n := 36) (args := [vI (0 : Nat), vS s]) Tryd.func123 rfl Tryd.ntmps123 (Nat.le_of_ble_eq_true rfl) (Mem.all w) ?_
  refine st_seq ?_
  refine st_region ?_
  refine st_v (rv_assign rfl) (by decide) ?_
  refine st_nil ?_
  refine st_then ?_
  refine st_seq ?_
  refine st_region ?_
  refine st_v (rv_assign rfl) (by decide) ?_
  refine st_nil ?_
  refine st_then ?_
  refine st_seq ?_
  refine st_seq ?_
  refine st_region ?_
  refine st_v (rv_move rfl) (by decide) ?_
  refine st_v (rv_gtrZ rfl rfl) (by decide) ?_
  refine st_nil ?_
  refine st_then ?_
  refine st_false rfl ?_
  refine st_skip ?_
  refine st_then ?_
  refine st_seq ?_
  refine st_region ?_
  refine st_v (rv_move rfl) (by decide) ?_
  refine st_call0 cal37 rfl (fun w hM => (rBlockSize0 w)) (by decide) ?_
  refine st_v (rv_assign rfl) (by decide) ?_
  refine st_nil ?_
  refine st_then ?_
  refine st_seq ?_
  refine st_region ?_
  refine st_v (rv_move rfl) (by decide) ?_
  refine st_bytes Tryd.underlying9 Tryd.underlying22 Tryd.underlying5 rfl (by decide) (fun v1 => ?_)
  refine st_v (rv_assign rfl) (by decide) ?_
  refine st_nil ?_
  refine st_then ?_
  refine st_seq ?_
  refine st_region ?_
  refine st_v (rv_move rfl) (by decide) ?_
  refine st_buildSlice Tryd.underlying22 tyZ5 rfl rfl (by decide) (cs := #[U8 128#8]) rfl (by decide) (fun b2 hb2 => ?_)
  refine st_append8 Tryd.underlying22 Tryd.underlying22 (.inr ⟨_, rfl⟩) tyZ5 rfl rfl rfl (i := 1) rfl (fun w hM => src_rd ((rd_l8 (q := [_]) (len := 1) (i := 0) rfl rfl rfl (by omega)) w hM) (one8 _)) (by first | omega | (simp; omega)) (by first | omega | (simp; omega)) (by decide) (fun v1 => ?_)
  refine st_v (rv_assign rfl) (by decide) ?_
  refine st_nil ?_
  refine st_then ?_
  refine st_seq ?_
  refine st_block ?_
  refine st_loopA (σ := Nat × Value) [(1, kst _), (5, kst _), (6, kst _), (7, fun (j, y) => y)] [kst _, fun (j, y) => own y 5 1 (s.length + 1 + j) ((s ++ zpad j).map U8)] (fun (j, y) => j ≤ (zcount s.length 8 64)) (fun (j, y) => (zcount s.length 8 64) - j) (0, _) (by omega) (.cons rfl (.cons rfl (.cons rfl (.cons rfl (.nil _))))) (fun _ hM => hM) ?_
  intro ⟨j, y⟩ hI
  try dsimp only at hI
  dsimp only [List.map, kst]
  refine st_seq ?_
  refine st_seq ?_
  refine st_region ?_
  refine st_v (rv_move rfl) (by decide) ?_
  refine st_v (rv_lenR (rd_own (i := 1) rfl) Tryd.underlying22 rfl) (by decide) ?_
  refine st_v (rv_move rfl) (by decide) ?_
  first | refine st_v (rv_addN rfl rfl (by first | omega | (simp; done) | (simp; omega))) (by decide) ?_ | refine st_v (rv_addZ rfl rfl (by first | omega | (simp; done) | (simp; omega))) (by decide) ?_
  refine st_v (rv_move rfl) (by decide) ?_
  refine st_v (rv_remN rfl rfl (by first | omega | (simp; done) | (simp; omega))) (by decide) ?_
  refine st_v (rv_neqZ rfl rfl) (by decide) ?_
  refine st_nil ?_
  refine st_then ?_
  refine st_cond rfl (fun hc23 => ?_) (fun hc23 => ?_)
  · -- t23 True
    try simp only [z1, z2, z3, z4, z5, z6, z7, z8, z9, z10, z11, z12, z13, z14] at hc23
    refine st_skip ?_
    refine st_then ?_
    refine st_block ?_
    refine st_region ?_
    refine st_v (rv_move rfl) (by decide) ?_
    refine st_buildSlice Tryd.underlying22 tyZ5 rfl rfl (by decide) (cs := #[U8 0#8]) rfl (by decide) (fun b3 hb3 => ?_)
    refine st_append8 Tryd.underlying22 Tryd.underlying22 (.inr ⟨_, rfl⟩) tyZ5 rfl rfl rfl (i := 2) rfl (fun w hM => src_rd ((rd_l8 (q := [_]) (len := 1) (i := 0) rfl rfl rfl (by omega)) w hM) (one8 _)) (by first | omega | (simp; omega)) (by first | omega | (simp; omega)) (by decide) (fun v1 => ?_)
    refine st_v (rv_assign rfl) (by decide) ?_
    refine st_nil ?_
    refine st_in_normal ?_
    refine st_then ?_
    exact st_again (j + 1, _) (by omega) (by omega) (.cons rfl (.cons rfl (.cons rfl (.cons rfl (.nil _))))) (by intro w hM; have hM := hM.sublist (List.Sublist.cons _ (List.Sublist.cons_cons _ (List.Sublist.cons_cons _ (List.Sublist.slnil)))); (rw [List.append_assoc] at hM); exact hM)
  · -- t23 False
    try simp only [z1, z2, z3, z4, z5, z6, z7, z8, z9, z10, z11, z12, z13, z14] at hc23
    obtain rfl : j = (zcount s.length 8 64) := by omega
    clear hc23
    refine st_exit ?_
    refine st_then_exit ?_
    refine st_then_exit ?_
    refine st_in_exit ?_
    refine st_then ?_
    refine st_seq ?_
    refine st_drawStart mixed ?_
    refine st_drawSeg1 (E0 := [(1, _), (5, _), (7, _)]) [kpeq _, kpeq _, kpeq _, kpeq _, kpeq _, kpeq _, kpeq _, kpeq _] 0 8 [0, 1, 0, 4, 12, 28, 0, 124, 255, 511] [1, 5, 7] (by kernel_rfl) (by decide) (by kernel_rfl) (.cons rfl (.cons rfl (.cons rfl (.nil _)))) rfl rfl (hall_cons (hop_mv rfl (by decide) rfl rfl) (hall_cons (hop_val [(0, 27, _)] [] rfl rfl rfl (by decide) rfl (jcons rfl rfl rfl rfl rfl (jnil)) (xnil) (fun _ _ _ _ => does_v (rv_string (rd_own (i := 1) rfl) Tryd.underlying22 Tryd.underlying9 Tryd.underlying5 rfl))) (hall_cons (hop_mv rfl (by decide) rfl rfl) (hall_cons (hop_val [(2, 29, _)] [] rfl rfl rfl (by decide) rfl (jcons rfl rfl rfl rfl rfl (jnil)) (xnil) (fun _ _ _ _ => does_v (rv_lenB Tryd.underlying9 rfl))) (hall_cons (hop_val [(3, 30, _)] [] rfl rfl rfl (by decide) rfl (jcons rfl rfl rfl rfl rfl (jnil)) (xnil) (fun _ _ _ _ => does_v (rv_convIto64 Tryd.underlying3 Tryd.underlying77 rfl))) (hall_cons (hop_val [(4, 31, _)] [] rfl rfl rfl (by decide) rfl (jcons rfl rfl rfl rfl rfl (jnil)) (xnil) (fun _ _ _ _ => does_v (rv_mul64 (b := 8#64) rfl rfl))) (hall_cons (hop_mv rfl (by decide) rfl rfl) (hall_cons (hop_val [(5, 32, _), (6, 33, _)] [] rfl rfl rfl (by decide) rfl (jcons rfl rfl rfl rfl rfl (jcons rfl rfl rfl rfl rfl (jnil))) (xnil) (fun _ _ _ _ => does_call0 cal125 rfl (fun w hM => (number_calls _ 8 (by decide) w)))) (hall_nil))))))))) (draw_end1 [(1, 28, _), (7, 34, _)] (jcons rfl rfl rfl rfl rfl (jcons rfl rfl rfl rfl rfl (jnil))) ?_)
    refine st_drawTail (N := 8) [0, 1, 0, 4, 12, 28, 0, 124, 255, 511] (by kernel_rfl) (by kernel_rfl) ?_
    refine st_v (rv_concat rfl rfl (by first | omega | (simp [length_zpad, length_numW] <;> omega))) (by decide) ?_
    refine st_v (rv_assign rfl) (by decide) ?_
    refine st_nil ?_
    refine st_then ?_
    refine st_ret ?_
    exact st_done rfl rfl (fun w hM => ⟨rfl, hM.sublist (List.nil_sublist _)⟩)
set_option maxRecDepth 20000 in
set_option maxHeartbeats 1000000 in
theorem padded1_calls (s : List (BitVec 8)) (hs : s.length ≤ 900000) (w : World) : Calls Tryd.prog 123 #[vI (1 : Nat), vS s] w (fun r w' => r = .returned (vS (padW s 128 16)) ∧ Mem (All w) w w' []) := by
  have hz : (zcount s.length 16 128) = (128 - (s.length + 1 + 16) % 128) % 128 := rfl
  refine calls_of_st (n := 36) (args := [vI (1 : Nat), vS s]) Tryd.func123 rfl Tryd.ntmps123 (Nat.le_of_ble_eq_true rfl) (Mem.all w) ?_
  refine st_seq ?_
  refine st_region ?_
  refine st_v (rv_assign rfl) (by decide) ?_
  refine st_nil ?_
  refine st_then ?_
  refine st_seq ?_
  refine st_region ?_
  refine st_v (rv_assign rfl) (by decide) ?_
  refine st_nil ?_
  refine st_then ?_
  refine st_seq ?_
  refine st_seq ?_
  refine st_region ?_
  refine st_v (rv_move rfl) (by decide) ?_
  refine st_v (rv_gtrZ rfl rfl) (by decide) ?_
  refine st_nil ?_
  refine st_then ?_
  refine st_true rfl ?_
  refine st_region ?_
  refine st_v (rv_assign rfl) (by decide) ?_
  refine st_nil ?_
  refine st_then ?_
  refine st_seq ?_
  refine st_region ?_
  refine st_v (rv_move rfl) (by decide) ?_
  refine st_call0 cal37 rfl (fun w hM => (rBlockSize1 w)) (by decide) ?_
  refine st_v (rv_assign rfl) (by decide) ?_
  refine st_nil ?_
  refine st_then ?_
  refine st_seq ?_
  refine st_region ?_
  refine st_v (rv_move rfl) (by decide) ?_
  refine st_bytes Tryd.underlying9 Tryd.underlying22 Tryd.underlying5 rfl (by decide) (fun v1 => ?_)
  refine st_v (rv_assign rfl) (by decide) ?_
  refine st_nil ?_
  refine st_then ?_
  refine st_seq ?_
  refine st_region ?_
  refine st_v (rv_move rfl) (by decide) ?_
  refine st_buildSlice Tryd.underlying22 tyZ5 rfl rfl (by decide) (cs := #[U8 128#8]) rfl (by decide) (fun b2 hb2 => ?_)
  refine st_append8 Tryd.underlying22 Tryd.underlying22 (.inr ⟨_, rfl⟩) tyZ5 rfl rfl rfl (i := 1) rfl (fun w hM => src_rd ((rd_l8 (q := [_]) (len := 1) (i := 0) rfl rfl rfl (by omega)) w hM) (one8 _)) (by first | omega | (simp; omega)) (by first | omega | (simp; omega)) (by decide) (fun v1 => ?_)
  refine st_v (rv_assign rfl) (by decide) ?_
  refine st_nil ?_
  refine st_then ?_
  refine st_seq ?_
  refine st_block ?_
  refine st_loopA (σ := Nat × Value) [(1, kst _), (5, kst _), (6, kst _), (7, fun (j, y) => y)] [kst _, fun (j, y) => own y 5 1 (s.length + 1 + j) ((s ++ zpad j).map U8)] (fun (j, y) => j ≤ (zcount s.length 16 128)) (fun (j, y) => (zcount s.length 16 128) - j) (0, _) (by omega) (.cons rfl (.cons rfl (.cons rfl (.cons rfl (.nil _))))) (fun _ hM => hM) ?_
  intro ⟨j, y⟩ hI
  try dsimp only at hI
  dsimp only [List.map, kst]
  refine st_seq ?_
  refine st_seq ?_
  refine st_region ?_
  refine st_v (rv_move rfl) (by decide) ?_
  refine st_v (rv_lenR (rd_own (i := 1) rfl) Tryd.underlying22 rfl) (by decide) ?_
  refine st_v (rv_move rfl) (by decide) ?_
  first | refine st_v (rv_addN rfl rfl (by first | omega | (simp; done) | (simp; omega))) (by decide) ?_ | refine st_v (rv_addZ rfl rfl (by first | omega | (simp; done) | (simp; omega))) (by decide) ?_
  refine st_v (rv_move rfl) (by decide) ?_
  refine st_v (rv_remN rfl rfl (by first | omega | (simp; done) | (simp; omega))) (by decide) ?_
  refine st_v (rv_neqZ rfl rfl) (by decide) ?_
  refine st_nil ?_
  refine st_then ?_
  refine st_cond rfl (fun hc23 => ?_) (fun hc23 => ?_)
  · -- t23 True
    try simp only [z1, z2, z3, z4, z5, z6, z7, z8, z9, z10, z11, z12, z13, z14] at hc23
    refine st_skip ?_
    refine st_then ?_
    refine st_block ?_
    refine st_region ?_
    refine st_v (rv_move rfl) (by decide) ?_
    refine st_buildSlice Tryd.underlying22 tyZ5 rfl rfl (by decide) (cs := #[U8 0#8]) rfl (by decide) (fun b3 hb3 => ?_)
    refine st_append8 Tryd.underlying22 Tryd.underlying22 (.inr ⟨_, rfl⟩) tyZ5 rfl rfl rfl (i := 2) rfl (fun w hM => src_rd ((rd_l8 (q := [_]) (len := 1) (i := 0) rfl rfl rfl (by omega)) w hM) (one8 _)) (by first | omega | (simp; omega)) (by first | omega | (simp; omega)) (by decide) (fun v1 => ?_)
    refine st_v (rv_assign rfl) (by decide) ?_
    refine st_nil ?_
    refine st_in_normal ?_
    refine st_then ?_
    exact st_again (j + 1, _) (by omega) (by omega) (.cons rfl (.cons rfl (.cons rfl (.cons rfl (.nil _))))) (by intro w hM; have hM := hM.sublist (List.Sublist.cons _ (List.Sublist.cons_cons _ (List.Sublist.cons_cons _ (List.Sublist.slnil)))); (rw [List.append_assoc] at hM); exact hM)
  · -- t23 False
    try simp only [z1, z2, z3, z4, z5, z6, z7, z8, z9, z10, z11, z12, z13, z14] at hc23
    obtain rfl : j = (zcount s.length 16 128) := by omega
    clear hc23
    refine st_exit ?_
    refine st_then_exit ?_
    refine st_then_exit ?_
    refine st_in_exit ?_
    refine st_then ?_
    refine st_seq ?_
    refine st_drawStart mixed ?_
    refine st_drawSeg1 (E0 := [(1, _), (5, _), (7, _)]) [kpeq _, kpeq _, kpeq _, kpeq _, kpeq _, kpeq _, kpeq _, kpeq _] 0 8 [0, 1, 0, 4, 12, 28, 0, 124, 255, 511] [1, 5, 7] (by kernel_rfl) (by decide) (by kernel_rfl) (.cons rfl (.cons rfl (.cons rfl (.nil _)))) rfl rfl (hall_cons (hop_mv rfl (by decide) rfl rfl) (hall_cons (hop_val [(0, 27, _)] [] rfl rfl rfl (by decide) rfl (jcons rfl rfl rfl rfl rfl (jnil)) (xnil) (fun _ _ _ _ => does_v (rv_string (rd_own (i := 1) rfl) Tryd.underlying22 Tryd.underlying9 Tryd.underlying5 rfl))) (hall_cons (hop_mv rfl (by decide) rfl rfl) (hall_cons (hop_val [(2, 29, _)] [] rfl rfl rfl (by decide) rfl (jcons rfl rfl rfl rfl rfl (jnil)) (xnil) (fun _ _ _ _ => does_v (rv_lenB Tryd.underlying9 rfl))) (hall_cons (hop_val [(3, 30, _)] [] rfl rfl rfl (by decide) rfl (jcons rfl rfl rfl rfl rfl (jnil)) (xnil) (fun _ _ _ _ => does_v (rv_convIto64 Tryd.underlying3 Tryd.underlying77 rfl))) (hall_cons (hop_val [(4, 31, _)] [] rfl rfl rfl (by decide) rfl (jcons rfl rfl rfl rfl rfl (jnil)) (xnil) (fun _ _ _ _ => does_v (rv_mul64 (b := 8#64) rfl rfl))) (hall_cons (hop_mv rfl (by decide) rfl rfl) (hall_cons (hop_val [(5, 32, _), (6, 33, _)] [] rfl rfl rfl (by decide) rfl (jcons rfl rfl rfl rfl rfl (jcons rfl rfl rfl rfl rfl (jnil))) (xnil) (fun _ _ _ _ => does_call0 cal125 rfl (fun w hM => (number_calls _ 16 (by decide) w)))) (hall_nil))))))))) (draw_end1 [(1, 28, _), (7, 34, _)] (jcons rfl rfl rfl rfl rfl (jcons rfl rfl rfl rfl rfl (jnil))) ?_)
    refine st_drawTail (N := 8) [0, 1, 0, 4, 12, 28, 0, 124, 255, 511] (by kernel_rfl) (by kernel_rfl) ?_
    refine st_v (rv_concat rfl rfl (by first | omega | (simp [length_zpad, length_numW] <;> omega))) (by decide) ?_
    refine st_v (rv_assign rfl) (by decide) ?_
    refine st_nil ?_
    refine st_then ?_
    refine st_ret ?_
    exact st_done rfl rfl (fun w hM => ⟨rfl, hM.sublist (List.nil_sublist _)⟩)
set_option maxRecDepth 20000 in
set_option maxHeartbeats 1000000 in
theorem padded2_calls (s : List (BitVec 8)) (hs : s.length ≤ 900000) (w : World) : Calls Tryd.prog 123 #[vI (2 : Nat), vS s] w (fun r w' => r = .returned (vS (padW s 128 16)) ∧ Mem (All w) w w' []) := by
  have hz : (zcount s.length 16 128) = (128 - (s.length + 1 + 16) % 128) % 128 := rfl
  refine calls_of_st (n := 36) (args := [vI (2 : Nat), vS s]) Tryd.func123 rfl Tryd.ntmps123 (Nat.le_of_ble_eq_true rfl) (Mem.all w) ?_
  refine st_seq ?_
  refine st_region ?_
  refine st_v (rv_assign rfl) (by decide) ?_
  refine st_nil ?_
  refine st_then ?_
  refine st_seq ?_
  refine st_region ?_
  refine st_v (rv_assign rfl) (by decide) ?_
  refine st_nil ?_
  refine st_then ?_
  refine st_seq ?_
  refine st_seq ?_
  refine st_region ?_
  refine st_v (rv_move rfl) (by decide) ?_
  refine st_v (rv_gtrZ rfl rfl) (by decide) ?_
  refine st_nil ?_
  refine st_then ?_
  refine st_true rfl ?_
  refine st_region ?_
  refine st_v (rv_assign rfl) (by decide) ?_
  refine st_nil ?_
  refine st_then ?_
  refine st_seq ?_
  refine st_region ?_
  refine st_v (rv_move rfl) (by decide) ?_
  refine st_call0 cal37 rfl (fun w hM => (rBlockSize2 w)) (by decide) ?_
  refine st_v (rv_assign rfl) (by decide) ?_
  refine st_nil ?_
  refine st_then ?_
  refine st_seq ?_
  refine st_region ?_
  refine st_v (rv_move rfl) (by decide) ?_
  refine st_bytes Tryd.underlying9 Tryd.underlying22 Tryd.underlying5 rfl (by decide) (fun v1 => ?_)
  refine st_v (rv_assign rfl) (by decide) ?_
  refine st_nil ?_
  refine st_then ?_
  refine st_seq ?_
  refine st_region ?_
  refine st_v (rv_move rfl) (by decide) ?_
  refine st_buildSlice Tryd.underlying22 tyZ5 rfl rfl (by decide) (cs := #[U8 128#8]) rfl (by decide) (fun b2 hb2 => ?_)
  refine st_append8 Tryd.underlying22 Tryd.underlying22 (.inr ⟨_, rfl⟩) tyZ5 rfl rfl rfl (i := 1) rfl (fun w hM => src_rd ((rd_l8 (q := [_]) (len := 1) (i := 0) rfl rfl rfl (by omega)) w hM) (one8 _)) (by first | omega | (simp; omega)) (by first | omega | (simp; omega)) (by decide) (fun v1 => ?_)
  refine st_v (rv_assign rfl) (by decide) ?_
  refine st_nil ?_
  refine st_then ?_
  refine st_seq ?_
  refine st_block ?_
  refine st_loopA (σ := Nat × Value) [(1, kst _), (5, kst _), (6, kst _), (7, fun (j, y) => y)] [kst _, fun (j, y) => own y 5 1 (s.length + 1 + j) ((s ++ zpad j).map U8)] (fun (j, y) => j ≤ (zcount s.length 16 128)) (fun (j, y) => (zcount s.length 16 128) - j) (0, _) (by omega) (.cons rfl (.cons rfl (.cons rfl (.cons rfl (.nil _))))) (fun _ hM => hM) ?_
  intro ⟨j, y⟩ hI
  try dsimp only at hI
  dsimp only [List.map, kst]
  refine st_seq ?_
  refine st_seq ?_
  refine st_region ?_
  refine st_v (rv_move rfl) (by decide) ?_
  refine st_v (rv_lenR (rd_own (i := 1) rfl) Tryd.underlying22 rfl) (by decide) ?_
  refine st_v (rv_move rfl) (by decide) ?_
  first | refine st_v (rv_addN rfl rfl (by first | omega | (simp; done) | (simp; omega))) (by decide) ?_ | refine st_v (rv_addZ rfl rfl (by first | omega | (simp; done) | (simp; omega))) (by decide) ?_
  refine st_v (rv_move rfl) (by decide) ?_
  refine st_v (rv_remN rfl rfl (by first | omega | (simp; done) | (simp; omega))) (by decide) ?_
  refine st_v (rv_neqZ rfl rfl) (by decide) ?_
  refine st_nil ?_
  refine st_then ?_
  refine st_cond rfl (fun hc23 => ?_) (fun hc23 => ?_)
  · -- t23 True
    try simp only [z1, z2, z3, z4, z5, z6, z7, z8, z9, z10, z11, z12, z13, z14] at hc23
    refine st_skip ?_
    refine st_then ?_
    refine st_block ?_
    refine st_region ?_
    refine st_v (rv_move rfl) (by decide) ?_
    refine st_buildSlice Tryd.underlying22 tyZ5 rfl rfl (by decide) (cs := #[U8 0#8]) rfl (by decide) (fun b3 hb3 => ?_)
    refine st_append8 Tryd.underlying22 Tryd.underlying22 (.inr ⟨_, rfl⟩) tyZ5 rfl rfl rfl (i := 2) rfl (fun w hM => src_rd ((rd_l8 (q := [_]) (len := 1) (i := 0) rfl rfl rfl (by omega)) w hM) (one8 _)) (by first | omega | (simp; omega)) (by first | omega | (simp; omega)) (by decide) (fun v1 => ?_)
    refine st_v (rv_assign rfl) (by decide) ?_
    refine st_nil ?_
    refine st_in_normal ?_
    refine st_then ?_
    exact st_again (j + 1, _) (by omega) (by omega) (.cons rfl (.cons rfl (.cons rfl (.cons rfl (.nil _))))) (by intro w hM; have hM := hM.sublist (List.Sublist.cons _ (List.Sublist.cons_cons _ (List.Sublist.cons_cons _ (List.Sublist.slnil)))); (rw [List.append_assoc] at hM); exact hM)
  · -- t23 False
    try simp only [z1, z2, z3, z4, z5, z6, z7, z8, z9, z10, z11, z12, z13, z14] at hc23
    obtain rfl : j = (zcount s.length 16 128) := by omega
    clear hc23
    refine st_exit ?_
    refine st_then_exit ?_
    refine st_then_exit ?_
    refine st_in_exit ?_
    refine st_then ?_
    refine st_seq ?_
    refine st_drawStart mixed ?_
    refine st_drawSeg1 (E0 := [(1, _), (5, _), (7, _)]) [kpeq _, kpeq _, kpeq _, kpeq _, kpeq _, kpeq _, kpeq _, kpeq _] 0 8 [0, 1, 0, 4, 12, 28, 0, 124, 255, 511] [1, 5, 7] (by kernel_rfl) (by decide) (by kernel_rfl) (.cons rfl (.cons rfl (.cons rfl (.nil _)))) rfl rfl (hall_cons (hop_mv rfl (by decide) rfl rfl) (hall_cons (hop_val [(0, 27, _)] [] rfl rfl rfl (by decide) rfl (jcons rfl rfl rfl rfl rfl (jnil)) (xnil) (fun _ _ _ _ => does_v (rv_string (rd_own (i := 1) rfl) Tryd.underlying22 Tryd.underlying9 Tryd.underlying5 rfl))) (hall_cons (hop_mv rfl (by decide) rfl rfl) (hall_cons (hop_val [(2, 29, _)] [] rfl rfl rfl (by decide) rfl (jcons rfl rfl rfl rfl rfl (jnil)) (xnil) (fun _ _ _ _ => does_v (rv_lenB Tryd.underlying9 rfl))) (hall_cons (hop_val [(3, 30, _)] [] rfl rfl rfl (by decide) rfl (jcons rfl rfl rfl rfl rfl (jnil)) (xnil) (fun _ _ _ _ => does_v (rv_convIto64 Tryd.underlying3 Tryd.underlying77 rfl))) (hall_cons (hop_val [(4, 31, _)] [] rfl rfl rfl (by decide) rfl (jcons rfl rfl rfl rfl rfl (jnil)) (xnil) (fun _ _ _ _ => does_v (rv_mul64 (b := 8#64) rfl rfl))) (hall_cons (hop_mv rfl (by decide) rfl rfl) (hall_cons (hop_val [(5, 32, _), (6, 33, _)] [] rfl rfl rfl (by decide) rfl (jcons rfl rfl rfl rfl rfl (jcons rfl rfl rfl rfl rfl (jnil))) (xnil) (fun _ _ _ _ => does_call0 cal125 rfl (fun w hM => (number_calls _ 16 (by decide) w)))) (hall_nil))))))))) (draw_end1 [(1, 28, _), (7, 34, _)] (jcons rfl rfl rfl rfl rfl (jcons rfl rfl rfl rfl rfl (jnil))) ?_)
    refine st_drawTail (N := 8) [0, 1, 0, 4, 12, 28, 0, 124, 255, 511] (by kernel_rfl) (by kernel_rfl) ?_
    refine st_v (rv_concat rfl rfl (by first | omega | (simp [length_zpad, length_numW] <;> omega))) (by decide) ?_
    refine st_v (rv_assign rfl) (by decide) ?_
    refine st_nil ?_
    refine st_then ?_
    refine st_ret ?_
    exact st_done rfl rfl (fun w hM => ⟨rfl, hM.sublist (List.nil_sublist _)⟩)
end Go.Proofs.YtjhjjhpfjadjpaaDoor
