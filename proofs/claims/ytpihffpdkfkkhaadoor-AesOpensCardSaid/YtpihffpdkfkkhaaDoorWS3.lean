/- Walks: what functions of the given program do, operation by operation. Written by wip/gen. -/
import Derived.Test.YtpihffpdkfkkhaaDoorWRM
import Derived.Test.YtpihffpdkfkkhaaDoorVR
import Derived.Test.YtpihffpdkfkkhaaDoorME
namespace Go.Proofs.YtpihffpdkfkkhaaDoor
set_option linter.all false
open Go
def CipH (w : World) (c : Nat) (vk vb : Value) (vs : List Value) (ws : List (List (BitVec 8))) (bx : List (BitVec 8)) (R : Nat) : Prop :=
  vs.length = ws.length ∧ (∀ k, k < ws.length → (ws.getD k []).length = 4) ∧ ws.length = 4 * (R + 1) ∧ 1 ≤ R ∧ R ≤ 100 ∧ bx.length = 256 ∧ (cipA c 48 vk vb vs ws bx).holds w
theorem CipH.at {w0 w : World} {l : List Asn} {c : Nat} {vk vb : Value} {vs : List Value} {ws : List (List (BitVec 8))} {bx : List (BitVec 8)} {R : Nat} (h : CipH w0 c vk vb vs ws bx R) (M : Mem (All w0) w0 w l) : CipH w c vk vb vs ws bx R := by
  obtain ⟨h1, h2, h3, h4, h5, h6, h7⟩ := h
  exact ⟨h1, h2, h3, h4, h5, h6, cip_at h7 (fun b hb => ⟨(cipA c 48 vk vb vs ws bx).live w0 h7 b hb, fun h => h⟩) M⟩
theorem rencH {w : World} {c : Nat} {vk vb : Value} {vs : List Value} {ws : List (List (BitVec 8))} {bx : List (BitVec 8)} {R : Nat} (h : CipH w c vk vb vs ws bx R) (s : List (BitVec 8)) (hs : s.length = 16) :
    Calls Tryd.prog 11 #[pt c 0, vS s] w (fun r w' => r = .returned (vS (encQ s ws bx R R)) ∧ Mem (All w) w w' []) := by
  obtain ⟨h1, h2, h3, h4, h5, h6, h7⟩ := h
  exact renc_calls c vk vb vs ws bx s R hs h1 h2 h3 h4 h5 h6 w h7
theorem rghash2_calls (h a c : List (BitVec 8)) (hh : h.length = 16) (ha : a.length ≤ 100000) (hc : c.length ≤ 100000) (w : World) : Calls Tryd.prog 40 #[vS h, vS a, vS c] w (fun r w' => r = .returned (vS (rG h (rText a c) ((rText a c).length / 16))) ∧ Mem (All w) w w' []) :=
  (rghash_calls h a c hh ha hc w).mono fun e w' ⟨m, h1, h2, h3⟩ => by
    have : (rText a c).length / 16 = m := by omega
    rw [this]
    exact ⟨h2, h3⟩
theorem xor2_calls (a b : List (BitVec 8)) (ha : a.length ≤ b.length) (hb : b.length ≤ 1000000) (w : World) : Calls Tryd.prog 39 #[vS a, vS b] w (fun r w' => r = .returned (vS (xorL a b a.length)) ∧ Mem (All w) w w' []) := by
  refine calls_of_st (n := 28) (args := [vS a, vS b]) Tryd.func39 rfl Tryd.ntmps39 (Nat.le_of_ble_eq_true rfl) (Mem.all w) ?_
  refine st_seq ?_
  refine st_region ?_
  refine st_v (rv_assign rfl) (by decide) ?_
  refine st_nil ?_
  refine st_then ?_
  refine st_seq ?_
  refine st_region ?_
  refine st_v (rv_move rfl) (by decide) ?_
  refine st_bytes Tryd.underlying9 Tryd.underlying22 Tryd.underlying5 rfl (by decide) (fun v1 => ?_)
  refine st_v (rv_assign rfl) (by decide) ?_
  refine st_nil ?_
  refine st_then ?_
  refine st_seq ?_
  refine st_seq ?_
  refine st_region ?_
  refine st_v (rv_assign rfl) (by decide) ?_
  refine st_nil ?_
  refine st_then ?_
  refine st_block ?_
  refine st_loopA (σ := Nat) [(1, kst _), (5, kst _), (6, fun k => vI k)] [fun k => own v1 5 1 a.length ((xorL a b k).map U8)] (fun k => k ≤ a.length) (fun k => a.length - k) 0 (by omega) (SubE.cons rfl (SubE.cons rfl (SubE.cons rfl (SubE.nil _)))) (fun _ hM => hM) ?_
  intro k hI
  try dsimp only at hI
  dsimp only [List.map, kst]
  refine st_seq ?_
  refine st_seq ?_
  refine st_region ?_
  refine st_v (rv_move rfl) (by decide) ?_
  refine st_v (rv_move rfl) (by decide) ?_
  refine st_v (rv_lenR (rd_own (i := 0) rfl) Tryd.underlying22 rfl) (by decide) ?_
  refine st_v (rv_lssZ rfl rfl) (by decide) ?_
  refine st_nil ?_
  refine st_then ?_
  refine st_cond rfl (fun hc12 => ?_) (fun hc12 => ?_)
  · -- t12 True
    try simp only [decide_eq_true_eq, decide_eq_false_iff_not, Bool.and_eq_true, Bool.or_eq_true, Bool.and_eq_false_iff, Bool.or_eq_false_iff, Bool.not_eq_true, Bool.not_eq_eq_eq_not, Bool.not_true, Bool.not_false, Int.not_lt, Int.not_le, ne_eq, Decidable.not_not] at hc12
    refine st_skip ?_
    refine st_then ?_
    refine st_seq ?_
    refine st_block ?_
    refine st_drawStart mixed ?_
    refine st_drawSeg1 (E0 := [(1, _), (5, _), (6, _)]) [kpeq _, kpeq _, kpeq _, kpeq _, kpeq _, kpeq _, kpeq _, kpeq _, kpeq _, kpeq _] 0 10 [0, 0, 0, 0, 12, 28, 0, 0, 192, 508, 1023, 2047] [1, 5, 6] (by kernel_rfl) (by decide) (by kernel_rfl) (SubE.cons rfl (SubE.cons rfl (SubE.cons rfl (SubE.nil _)))) rfl rfl (hall_cons (hop_val [] [] rfl rfl rfl (by decide) rfl (jnil) (xnil) (fun _ _ _ _ => does_v (rv_move rfl))) (hall_cons (hop_val [] [] rfl rfl rfl (by decide) rfl (jnil) (xnil) (fun _ _ _ _ => does_v (rv_move rfl))) (hall_cons (hop_val [] [] rfl rfl rfl (by decide) rfl (jnil) (xnil) (fun _ _ _ _ => does_v (rv_move rfl))) (hall_cons (hop_val [] [] rfl rfl rfl (by decide) rfl (jnil) (xnil) (fun _ _ _ _ => does_v (rv_move rfl))) (hall_cons (hop_val [(2, 17, _), (3, 18, _)] [] rfl rfl rfl (by decide) rfl (jcons rfl rfl rfl rfl rfl (jcons rfl rfl rfl rfl rfl (jnil))) (xnil) (fun _ _ _ _ => does_v (rv_indexR1 (rd_own (i := 0) rfl) Tryd.underlying22 sz5 rfl rfl rfl (by first | omega | (simp [length_xorL] <;> omega))))) (hall_cons (hop_val [(4, 19, _)] [] rfl rfl rfl (by decide) rfl (jcons rfl rfl rfl rfl rfl (jnil)) (xnil) (fun _ _ _ _ => does_v (rv_load_rd (rd_own (i := 0) rfl) tyS5 rfl (get8 (by first | omega | (simp [length_xorL] <;> omega)))))) (hall_cons (hop_val [] [] rfl rfl rfl (by decide) rfl (jnil) (xnil) (fun _ _ _ _ => does_v (rv_move rfl))) (hall_cons (hop_val [] [] rfl rfl rfl (by decide) rfl (jnil) (xnil) (fun _ _ _ _ => does_v (rv_move rfl))) (hall_cons (hop_val [(6, 21, _), (7, 22, _)] [] rfl rfl rfl (by decide) rfl (jcons rfl rfl rfl rfl rfl (jcons rfl rfl rfl rfl rfl (jnil))) (xnil) (fun _ _ _ _ => does_v (rv_indexB Tryd.underlying9 rfl rfl rfl (by first | omega | (simp [length_xorL] <;> omega))))) (hall_cons (hop_val [(5, 20, _), (8, 23, _)] [] rfl rfl rfl (by decide) rfl (jcons rfl rfl rfl rfl rfl (jcons rfl rfl rfl rfl rfl (jnil))) (xnil) (fun _ _ _ _ => does_v (rv_xor8 rfl rfl))) (hall_nil))))))))))) (draw_end1 [(0, 15, _), (1, 16, _), (9, 24, _)] (jcons rfl rfl rfl rfl rfl (jcons rfl rfl rfl rfl rfl (jcons rfl rfl rfl rfl rfl (jnil)))) ?_)
    refine st_drawTail (N := 10) [0, 0, 0, 0, 12, 28, 0, 0, 192, 508, 1023, 2047] (by kernel_rfl) (by kernel_rfl) ?_
    refine st_v (rv_indexR1 (rd_own (i := 0) rfl) Tryd.underlying22 sz5 rfl rfl rfl (by first | omega | (simp [length_xorL] <;> omega))) (by decide) ?_
    refine st_storeOwn8 rfl rfl (i := 0) rfl sz5 (by first | omega | (simp [length_xorL] <;> omega)) rfl ?_
    refine st_nil ?_
    refine st_in_normal ?_
    refine st_then ?_
    refine st_region ?_
    refine st_v (rv_move rfl) (by decide) ?_
    first | refine st_v (rv_addN (b := 1) rfl rfl (by first | omega | (simp <;> omega))) (by decide) ?_ | refine st_v (rv_addZ rfl rfl (by first | omega | (simp <;> omega))) (by decide) ?_
    refine st_v (rv_assign rfl) (by decide) ?_
    refine st_nil ?_
    refine st_then ?_
    exact st_again (k + 1) (by omega) (by omega) (SubE.cons rfl (SubE.cons rfl (SubE.cons rfl (SubE.nil _)))) (fun _ hM => hM)
  · -- t12 False
    try simp only [decide_eq_true_eq, decide_eq_false_iff_not, Bool.and_eq_true, Bool.or_eq_true, Bool.and_eq_false_iff, Bool.or_eq_false_iff, Bool.not_eq_true, Bool.not_eq_eq_eq_not, Bool.not_true, Bool.not_false, Int.not_lt, Int.not_le, ne_eq, Decidable.not_not] at hc12
    obtain rfl : k = a.length := by omega
    refine st_exit ?_
    refine st_then_exit ?_
    refine st_then_exit ?_
    refine st_in_exit ?_
    refine st_then ?_
    refine st_seq ?_
    refine st_region ?_
    refine st_v (rv_move rfl) (by decide) ?_
    refine st_v (rv_string (rd_own (i := 0) rfl) Tryd.underlying22 Tryd.underlying9 Tryd.underlying5 rfl) (by decide) ?_
    refine st_v (rv_assign rfl) (by decide) ?_
    refine st_nil ?_
    refine st_then ?_
    refine st_ret ?_
    exact st_done rfl rfl (fun w hM => ⟨rfl, hM.sublist (List.nil_sublist _)⟩)
set_option maxHeartbeats 1000000 in
theorem stream_calls (c : Nat) (vk vb : Value) (vs : List Value) (ws : List (List (BitVec 8))) (bx : List (BitVec 8)) (R : Nat) (nonce : List (BitVec 8)) (hnon : nonce.length = 12) (text : List (BitVec 8)) (ht : text.length ≤ 1000000) (w : World) (hC : CipH w c vk vb vs ws bx R) : Calls Tryd.prog 25 #[pt c 0, vS nonce, vS text] w (fun r w' => r = .returned (vS (refStr ws bx R nonce text)) ∧ Mem (All w) w w' []) := by
  refine calls_of_st (n := 46) (args := [pt c 0, vS nonce, vS text]) Tryd.func25 rfl Tryd.ntmps25 (Nat.le_of_ble_eq_true rfl) (Mem.all w) ?_
  refine st_seq ?_
  refine st_region ?_
  refine st_v (rv_assign rfl) (by decide) ?_
  refine st_nil ?_
  refine st_then ?_
  refine st_seq ?_
  refine st_region ?_
  refine st_v (rv_assign rfl) (by decide) ?_
  refine st_nil ?_
  refine st_then ?_
  refine st_seq ?_
  refine st_seq ?_
  refine st_region ?_
  refine st_v (rv_assign rfl) (by decide) ?_
  refine st_nil ?_
  refine st_then ?_
  refine st_block ?_
  refine st_loopA (σ := Nat) [(0, kst _), (1, kst _), (2, kst _), (7, fun i => vS (strR (refE ws bx R nonce) text i)), (8, fun i => vI i)] [] (fun i => 16 * i ≤ text.length + 15) (fun i => text.length + 15 - 16 * i) 0 (by omega) (SubE.cons rfl (SubE.cons rfl (SubE.cons rfl (SubE.cons rfl (SubE.cons rfl (SubE.nil _)))))) (fun _ hM => hM) ?_
  intro i hI
  try dsimp only at hI
  dsimp only [List.map, kst]
  have hlen := length_strR (refE ws bx R nonce) text i hI
  have hcut := length_cutR text i
  refine st_seq ?_
  refine st_seq ?_
  refine st_region ?_
  refine st_v (rv_move rfl) (by decide) ?_
  first | refine st_v (rv_mulN (a := 16) rfl rfl (by first | omega | (simp <;> omega))) (by decide) ?_ | refine st_v (rv_mulZ rfl rfl (by first | omega | (simp <;> omega))) (by decide) ?_
  refine st_v (rv_move rfl) (by decide) ?_
  refine st_v (rv_lenB Tryd.underlying9 rfl) (by decide) ?_
  refine st_v (rv_lssZ rfl rfl) (by decide) ?_
  refine st_nil ?_
  refine st_then ?_
  refine st_cond rfl (fun hc15 => ?_) (fun hc15 => ?_)
  · -- t15 True
    try simp only [decide_eq_true_eq, decide_eq_false_iff_not, Bool.and_eq_true, Bool.or_eq_true, Bool.and_eq_false_iff, Bool.or_eq_false_iff, Bool.not_eq_true, Bool.not_eq_eq_eq_not, Bool.not_true, Bool.not_false, Int.not_lt, Int.not_le, ne_eq, Decidable.not_not] at hc15
    refine st_skip ?_
    refine st_then ?_
    refine st_seq ?_
    refine st_block ?_
    refine st_seq ?_
    refine st_region ?_
    refine st_v (rv_move rfl) (by decide) ?_
    first | refine st_v (rv_mulN (a := 16) rfl rfl (by first | omega | (simp <;> omega))) (by decide) ?_ | refine st_v (rv_mulZ rfl rfl (by first | omega | (simp <;> omega))) (by decide) ?_
    first | refine st_v (rv_addN (b := 16) rfl rfl (by first | omega | (simp <;> omega))) (by decide) ?_ | refine st_v (rv_addZ rfl rfl (by first | omega | (simp <;> omega))) (by decide) ?_
    refine st_v (rv_assign rfl) (by decide) ?_
    refine st_nil ?_
    refine st_then ?_
    refine st_cutB (σ := Unit) [(0, _), (1, _), (2, _), (7, _), (8, _)] [] (SubE.cons rfl (SubE.cons rfl (SubE.cons rfl (SubE.cons rfl (SubE.cons rfl (SubE.nil _)))))) (fun w hM => hM.sublist (List.Sublist.slnil)) [(9, fun _ => vI (min (16 * i + 16) text.length : Nat))] [] (fun _ => True) ?_ ?_
    · -- up to the cut
      refine st_seq ?_
      refine st_region ?_
      refine st_v (rv_move rfl) (by decide) ?_
      refine st_v (rv_move rfl) (by decide) ?_
      refine st_v (rv_lenB Tryd.underlying9 rfl) (by decide) ?_
      refine st_v (rv_gtrZ rfl rfl) (by decide) ?_
      refine st_nil ?_
      refine st_then ?_
      refine st_cond rfl (fun hc24 => ?_) (fun hc24 => ?_)
      · -- t24 True
        try simp only [decide_eq_true_eq, decide_eq_false_iff_not, Bool.and_eq_true, Bool.or_eq_true, Bool.and_eq_false_iff, Bool.or_eq_false_iff, Bool.not_eq_true, Bool.not_eq_eq_eq_not, Bool.not_true, Bool.not_false, Int.not_lt, Int.not_le, ne_eq, Decidable.not_not] at hc24
        refine st_region ?_
        refine st_v (rv_move rfl) (by decide) ?_
        refine st_v (rv_lenB Tryd.underlying9 rfl) (by decide) ?_
        refine st_v (rv_assign rfl) (by decide) ?_
        refine st_nil ?_
        refine st_then ?_
        exact st_meet () (trivial) (SubE.cons (congrArg some (congrArg (fun n : Nat => vI n) (by omega))) (SubE.cons rfl (SubE.cons rfl (SubE.cons rfl (SubE.cons rfl (SubE.cons rfl (SubE.nil _))))))) (fun _ hM => hM)
      · -- t24 False
        try simp only [decide_eq_true_eq, decide_eq_false_iff_not, Bool.and_eq_true, Bool.or_eq_true, Bool.and_eq_false_iff, Bool.or_eq_false_iff, Bool.not_eq_true, Bool.not_eq_eq_eq_not, Bool.not_true, Bool.not_false, Int.not_lt, Int.not_le, ne_eq, Decidable.not_not] at hc24
        refine st_skip ?_
        refine st_then ?_
        exact st_meet () (trivial) (SubE.cons (congrArg some (congrArg (fun n : Nat => vI n) (by omega))) (SubE.cons rfl (SubE.cons rfl (SubE.cons rfl (SubE.cons rfl (SubE.cons rfl (SubE.nil _))))))) (fun _ hM => hM)
    · -- behind the cut
      intro _ hI
      try dsimp only at hI
      dsimp only [List.map, List.cons_append, List.nil_append]
      refine st_seq ?_
      refine st_region ?_
      refine st_v (rv_move rfl) (by decide) ?_
      refine st_v (rv_move rfl) (by decide) ?_
      refine st_v (rv_move rfl) (by decide) ?_
      first | refine st_v (rv_addN (b := 2) rfl rfl (by first | omega | (simp <;> omega))) (by decide) ?_ | refine st_v (rv_addZ rfl rfl (by first | omega | (simp <;> omega))) (by decide) ?_
      refine st_v (rv_convIto32 Tryd.underlying3 Tryd.underlying65 rfl) (by decide) ?_
      refine st_v (rv_conv32to64 Tryd.underlying65 Tryd.underlying66 rfl) (by decide) ?_
      refine st_call0 cal38 rfl (fun w hM => high_calls _ 4 (by omega) w) (by decide) ?_
      refine st_v (rv_concat rfl rfl (by first | omega | (simp [length_xorL, length_highL, hnon] <;> omega))) (by decide) ?_
      refine st_call0 cal11 rfl (fun w hM => rencH (CipH.at hC hM) _ (by simp [length_highL, hnon])) (by decide) ?_
      refine st_v (rv_assign rfl) (by decide) ?_
      refine st_nil ?_
      refine st_then ?_
      refine st_region ?_
      refine st_v (rv_move rfl) (by decide) ?_
      refine st_v (rv_move rfl) (by decide) ?_
      refine st_v (rv_move rfl) (by decide) ?_
      first | refine st_v (rv_mulN (a := 16) rfl rfl (by first | omega | (simp <;> omega))) (by decide) ?_ | refine st_v (rv_mulZ rfl rfl (by first | omega | (simp <;> omega))) (by decide) ?_
      refine st_v (rv_move rfl) (by decide) ?_
      refine st_v (rv_sliceB Tryd.underlying9 rfl (evB_some rfl rfl) (evB_some rfl rfl) (by first | omega | (simp [length_xorL, length_highL, hnon] <;> omega)) (by first | omega | (simp [length_xorL, length_highL, hnon] <;> omega))) (by decide) ?_
      refine st_v (rv_move rfl) (by decide) ?_
      refine st_call0 cal39 rfl (fun w hM => xor2_calls (cutR text i) _ (by rw [length_cutR]; have := length_refE ws bx R nonce i hnon; rw [refE] at this; omega) (by have := length_refE ws bx R nonce i hnon; rw [refE] at this; omega) w) (by decide) ?_
      refine st_v (rv_concat rfl rfl (by first | omega | (simp [length_xorL, length_highL, hnon] <;> omega))) (by decide) ?_
      refine st_v (rv_assign rfl) (by decide) ?_
      refine st_nil ?_
      refine st_in_normal ?_
      refine st_then ?_
      refine st_region ?_
      refine st_v (rv_move rfl) (by decide) ?_
      first | refine st_v (rv_addN (b := 1) rfl rfl (by first | omega | (simp <;> omega))) (by decide) ?_ | refine st_v (rv_addZ rfl rfl (by first | omega | (simp <;> omega))) (by decide) ?_
      refine st_v (rv_assign rfl) (by decide) ?_
      refine st_nil ?_
      refine st_then ?_
      exact st_again (i + 1) (by omega) (by omega) (SubE.cons rfl (SubE.cons rfl (SubE.cons rfl (SubE.cons rfl (SubE.cons rfl (SubE.nil _)))))) (fun _ hM => hM)
  · -- t15 False
    try simp only [decide_eq_true_eq, decide_eq_false_iff_not, Bool.and_eq_true, Bool.or_eq_true, Bool.and_eq_false_iff, Bool.or_eq_false_iff, Bool.not_eq_true, Bool.not_eq_eq_eq_not, Bool.not_true, Bool.not_false, Int.not_lt, Int.not_le, ne_eq, Decidable.not_not] at hc15
    obtain rfl : i = (text.length + 15) / 16 := by omega
    refine st_exit ?_
    refine st_then_exit ?_
    refine st_then_exit ?_
    refine st_in_exit ?_
    refine st_then ?_
    refine st_seq ?_
    refine st_region ?_
    refine st_v (rv_move rfl) (by decide) ?_
    refine st_v (rv_assign rfl) (by decide) ?_
    refine st_nil ?_
    refine st_then ?_
    refine st_ret ?_
    exact st_done rfl rfl (fun w hM => ⟨rfl, hM⟩)
set_option maxHeartbeats 1000000 in
theorem rtag_calls (c : Nat) (vk vb : Value) (vs : List Value) (ws : List (List (BitVec 8))) (bx : List (BitVec 8)) (R : Nat) (nonce : List (BitVec 8)) (hnon : nonce.length = 12) (a t : List (BitVec 8)) (ha : a.length ≤ 100000) (ht : t.length ≤ 100000) (w : World) (hC : CipH w c vk vb vs ws bx R) : Calls Tryd.prog 26 #[pt c 0, vS nonce, vS a, vS t] w (fun r w' => r = .returned (vS (refTag ws bx R nonce a t)) ∧ Mem (All w) w w' []) := by
  refine calls_of_st (n := 26) (args := [pt c 0, vS nonce, vS a, vS t]) Tryd.func26 rfl Tryd.ntmps26 (Nat.le_of_ble_eq_true rfl) (Mem.all w) ?_
  refine st_seq ?_
  refine st_region ?_
  refine st_v (rv_assign rfl) (by decide) ?_
  refine st_nil ?_
  refine st_then ?_
  refine st_seq ?_
  refine st_region ?_
  refine st_v (rv_move rfl) (by decide) ?_
  refine st_make8 Tryd.underlying22 tyZ5 (len := 16) (cap := 16) rfl rfl (by omega) (by omega) (by omega) (by decide) (fun b1 hb1 => ?_)
  refine st_v (rv_string (rd_w8 (i := 0) rfl (by first | omega | (simp [length_highL, hnon]; done) | (simp [length_highL, hnon] <;> omega)) (by omega)) Tryd.underlying22 Tryd.underlying9 Tryd.underlying5 rfl) (by decide) ?_
  refine st_call0 cal11 rfl (fun w hM => rencH (CipH.at hC hM) _ (by simp [length_highL, hnon])) (by decide) ?_
  refine st_v (rv_assign rfl) (by decide) ?_
  refine st_nil ?_
  refine st_then ?_
  refine st_seq ?_
  refine st_region ?_
  refine st_v (rv_move rfl) (by decide) ?_
  refine st_v (rv_move rfl) (by decide) ?_
  refine st_v (rv_move rfl) (by decide) ?_
  refine st_call0 cal40 rfl (fun w hM => rghash2_calls _ _ _ (length_encQ _ (by simp) _ _ _ _) ha ht w) (by decide) ?_
  refine st_v (rv_assign rfl) (by decide) ?_
  refine st_nil ?_
  refine st_then ?_
  refine st_seq ?_
  refine st_region ?_
  refine st_v (rv_move rfl) (by decide) ?_
  refine st_v (rv_move rfl) (by decide) ?_
  refine st_v (rv_move rfl) (by decide) ?_
  refine st_call0 cal38 rfl (fun w hM => high_calls 1#64 4 (by omega) w) (by decide) ?_
  refine st_v (rv_concat rfl rfl (by first | omega | (simp [length_highL, hnon] <;> omega))) (by decide) ?_
  refine st_call0 cal11 rfl (fun w hM => rencH (CipH.at hC hM) _ (by simp [length_highL, hnon])) (by decide) ?_
  refine st_call0 cal39 rfl (fun w hM => xor2_calls _ _ (by rw [length_rG, length_encQ _ (by simp [length_highL, hnon])]; exact Nat.le_refl 16) (by rw [length_encQ _ (by simp [length_highL, hnon])]; omega) w) (by decide) ?_
  refine st_v (rv_assign rfl) (by decide) ?_
  refine st_nil ?_
  refine st_then ?_
  refine st_ret ?_
  exact st_done rfl rfl (fun w hM => ⟨rfl, hM.sublist (List.nil_sublist _)⟩)
theorem rseal_calls (c : Nat) (vk vb : Value) (vs : List Value) (ws : List (List (BitVec 8))) (bx : List (BitVec 8)) (R : Nat) (nonce : List (BitVec 8)) (hnon : nonce.length = 12) (a text : List (BitVec 8)) (ha : a.length ≤ 100000) (ht : text.length ≤ 100000) (w : World) (hC : CipH w c vk vb vs ws bx R) : Calls Tryd.prog 14 #[pt c 0, vS nonce, vS a, vS text] w (fun r w' => r = .returned (vS (refSeal ws bx R nonce a text)) ∧ Mem (All w) w w' []) := by
  refine calls_of_st (n := 21) (args := [pt c 0, vS nonce, vS a, vS text]) Tryd.func14 rfl Tryd.ntmps14 (Nat.le_of_ble_eq_true rfl) (Mem.all w) ?_
  refine st_seq ?_
  refine st_region ?_
  refine st_v (rv_assign rfl) (by decide) ?_
  refine st_nil ?_
  refine st_then ?_
  refine st_seq ?_
  refine st_region ?_
  refine st_v (rv_move rfl) (by decide) ?_
  refine st_v (rv_move rfl) (by decide) ?_
  refine st_v (rv_move rfl) (by decide) ?_
  refine st_call0 cal25 rfl (fun w hM => stream_calls _ vk vb vs _ _ _ _ hnon _ (by first | omega | (simp <;> omega)) _ (CipH.at hC hM)) (by decide) ?_
  refine st_v (rv_assign rfl) (by decide) ?_
  refine st_nil ?_
  refine st_then ?_
  refine st_seq ?_
  refine st_region ?_
  refine st_v (rv_move rfl) (by decide) ?_
  refine st_v (rv_move rfl) (by decide) ?_
  refine st_v (rv_move rfl) (by decide) ?_
  refine st_v (rv_move rfl) (by decide) ?_
  refine st_v (rv_move rfl) (by decide) ?_
  refine st_call0 cal26 rfl (fun w hM => rtag_calls _ vk vb vs _ _ _ _ hnon _ _ (by omega) (by first | omega | (simp [length_refStr] <;> omega)) _ (CipH.at hC hM)) (by decide) ?_
  refine st_v (rv_concat rfl rfl (by first | omega | (simp [length_refStr, length_refTag] <;> omega))) (by decide) ?_
  refine st_v (rv_assign rfl) (by decide) ?_
  refine st_nil ?_
  refine st_then ?_
  refine st_ret ?_
  exact st_done rfl rfl (fun w hM => ⟨rfl, hM⟩)
theorem ropen_calls (c : Nat) (vk vb : Value) (vs : List Value) (ws : List (List (BitVec 8))) (bx : List (BitVec 8)) (R : Nat) (nonce : List (BitVec 8)) (hnon : nonce.length = 12) (a text : List (BitVec 8)) (ha : a.length ≤ 100000) (ht : text.length ≤ 100000) (w : World) (hC : CipH w c vk vb vs ws bx R) : Calls Tryd.prog 15 #[pt c 0, vS nonce, vS a, vS text] w (fun e w' => (¬ (16 ≤ text.length ∧ refTag ws bx R nonce a (text.take (text.length - 16)) = text.drop (text.length - 16)) ∧ e = .returned (.tuple #[vS [], .bool false]) ∧ Mem (All w) w w' []) ∨ ((16 ≤ text.length ∧ refTag ws bx R nonce a (text.take (text.length - 16)) = text.drop (text.length - 16)) ∧ e = .returned (.tuple #[vS (refStr ws bx R nonce (text.take (text.length - 16))), .bool true]) ∧ Mem (All w) w w' [])) := by
  have e1 : (text.drop 0).take ((text.length - 16) - 0) = text.take (text.length - 16) := by simp
  have e2 : (text.drop (text.length - 16)).take (text.length - (text.length - 16)) = text.drop (text.length - 16) := List.take_of_length_le (by simp)
  refine calls_of_st (n := 35) (args := [pt c 0, vS nonce, vS a, vS text]) Tryd.func15 rfl Tryd.ntmps15 (Nat.le_of_ble_eq_true rfl) (Mem.all w) ?_
  refine st_seq ?_
  refine st_region ?_
  refine st_v (rv_assign rfl) (by decide) ?_
  refine st_v (rv_assign rfl) (by decide) ?_
  refine st_nil ?_
  refine st_then ?_
  refine st_seq ?_
  refine st_region ?_
  refine st_v (rv_move rfl) (by decide) ?_
  refine st_v (rv_lenB Tryd.underlying9 rfl) (by decide) ?_
  first | refine st_v (rv_subN (b := 16) rfl rfl (by first | omega | (simp <;> omega))) (by decide) ?_ | refine st_v (rv_subZ rfl rfl (by first | omega | (simp <;> omega))) (by decide) ?_
  refine st_v (rv_assign rfl) (by decide) ?_
  refine st_nil ?_
  refine st_then ?_
  refine st_seq ?_
  refine st_seq ?_
  refine st_region ?_
  refine st_v (rv_move rfl) (by decide) ?_
  refine st_v (rv_lssZ rfl rfl) (by decide) ?_
  refine st_nil ?_
  refine st_then ?_
  refine st_cond rfl (fun hc16 => ?_) (fun hc16 => ?_)
  · -- t16 True
    try simp only [decide_eq_true_eq, decide_eq_false_iff_not, Bool.and_eq_true, Bool.or_eq_true, Bool.and_eq_false_iff, Bool.or_eq_false_iff, Bool.not_eq_true, Bool.not_eq_eq_eq_not, Bool.not_true, Bool.not_false, Int.not_lt, Int.not_le, ne_eq, Decidable.not_not] at hc16
    have hq : ¬ (16 ≤ text.length ∧ refTag ws bx R nonce a (text.take (text.length - 16)) = text.drop (text.length - 16)) := by omega
    refine st_seq ?_
    refine st_region ?_
    refine st_v (rv_assign rfl) (by decide) ?_
    refine st_v (rv_assign rfl) (by decide) ?_
    refine st_nil ?_
    refine st_then ?_
    refine st_ret ?_
    refine st_then_ret ?_
    exact st_done2 rfl rfl rfl (fun w hM => by first | exact .inl ⟨hq, rfl, hM⟩ | (rw [← e1]; rw [← e1] at hq; exact .inr ⟨hq, rfl, hM⟩))
  · -- t16 False
    try simp only [decide_eq_true_eq, decide_eq_false_iff_not, Bool.and_eq_true, Bool.or_eq_true, Bool.and_eq_false_iff, Bool.or_eq_false_iff, Bool.not_eq_true, Bool.not_eq_eq_eq_not, Bool.not_true, Bool.not_false, Int.not_lt, Int.not_le, ne_eq, Decidable.not_not] at hc16
    have h16 : 16 ≤ text.length := by omega
    rw [show ((text.length : Int) - 16) = ((text.length - 16 : Nat) : Int) from by omega]
    refine st_skip ?_
    refine st_then ?_
    refine st_seq ?_
    refine st_region ?_
    refine st_v (rv_move rfl) (by decide) ?_
    refine st_v (rv_move rfl) (by decide) ?_
    refine st_v (rv_move rfl) (by decide) ?_
    refine st_v (rv_move rfl) (by decide) ?_
    refine st_v (rv_move rfl) (by decide) ?_
    refine st_v (rv_sliceB Tryd.underlying9 rfl evB_none (evB_some rfl rfl) (by first | omega | (simp [length_refStr, length_refTag] <;> omega)) (by first | omega | (simp [length_refStr, length_refTag] <;> omega))) (by decide) ?_
    refine st_call0 cal26 rfl (fun w hM => rtag_calls _ vk vb vs _ _ _ _ hnon _ _ (by omega) (by first | omega | (simp [length_refStr] <;> omega)) _ (CipH.at hC hM)) (by decide) ?_
    refine st_v (rv_assign rfl) (by decide) ?_
    refine st_nil ?_
    refine st_then ?_
    refine st_seq ?_
    refine st_seq ?_
    refine st_region ?_
    refine st_v (rv_move rfl) (by decide) ?_
    refine st_v (rv_move rfl) (by decide) ?_
    refine st_v (rv_move rfl) (by decide) ?_
    refine st_v (rv_sliceB Tryd.underlying9 rfl (evB_some rfl rfl) evB_none (by first | omega | (simp [length_refStr, length_refTag] <;> omega)) (by first | omega | (simp [length_refStr, length_refTag] <;> omega))) (by decide) ?_
    refine st_v (rv_neqB rfl rfl) (by decide) ?_
    refine st_nil ?_
    refine st_then ?_
    refine st_cond rfl (fun hc28 => ?_) (fun hc28 => ?_)
    · -- t28 True
      try simp only [decide_eq_true_eq, decide_eq_false_iff_not, Bool.and_eq_true, Bool.or_eq_true, Bool.and_eq_false_iff, Bool.or_eq_false_iff, Bool.not_eq_true, Bool.not_eq_eq_eq_not, Bool.not_true, Bool.not_false, Int.not_lt, Int.not_le, ne_eq, Decidable.not_not] at hc28
      have hq : ¬ (16 ≤ text.length ∧ refTag ws bx R nonce a (text.take (text.length - 16)) = text.drop (text.length - 16)) := by (rw [← e1, ← e2]; exact fun h => hc28 h.2)
      refine st_seq ?_
      refine st_region ?_
      refine st_v (rv_assign rfl) (by decide) ?_
      refine st_v (rv_assign rfl) (by decide) ?_
      refine st_nil ?_
      refine st_then ?_
      refine st_ret ?_
      refine st_then_ret ?_
      exact st_done2 rfl rfl rfl (fun w hM => by first | exact .inl ⟨hq, rfl, hM⟩ | (rw [← e1]; rw [← e1] at hq; exact .inr ⟨hq, rfl, hM⟩))
    · -- t28 False
      try simp only [decide_eq_true_eq, decide_eq_false_iff_not, Bool.and_eq_true, Bool.or_eq_true, Bool.and_eq_false_iff, Bool.or_eq_false_iff, Bool.not_eq_true, Bool.not_eq_eq_eq_not, Bool.not_true, Bool.not_false, Int.not_lt, Int.not_le, ne_eq, Decidable.not_not] at hc28
      have hq : 16 ≤ text.length ∧ refTag ws bx R nonce a (text.take (text.length - 16)) = text.drop (text.length - 16) := ⟨h16, by (rw [← e1, ← e2]; exact hc28)⟩
      refine st_skip ?_
      refine st_then ?_
      refine st_seq ?_
      refine st_region ?_
      refine st_v (rv_move rfl) (by decide) ?_
      refine st_v (rv_move rfl) (by decide) ?_
      refine st_v (rv_move rfl) (by decide) ?_
      refine st_v (rv_move rfl) (by decide) ?_
      refine st_v (rv_sliceB Tryd.underlying9 rfl evB_none (evB_some rfl rfl) (by first | omega | (simp [length_refStr, length_refTag] <;> omega)) (by first | omega | (simp [length_refStr, length_refTag] <;> omega))) (by decide) ?_
      refine st_call0 cal25 rfl (fun w hM => stream_calls _ vk vb vs _ _ _ _ hnon _ (by first | omega | (simp <;> omega)) _ (CipH.at hC hM)) (by decide) ?_
      refine st_v (rv_assign rfl) (by decide) ?_
      refine st_v (rv_assign rfl) (by decide) ?_
      refine st_nil ?_
      refine st_then ?_
      refine st_ret ?_
      exact st_done2 rfl rfl rfl (fun w hM => by first | exact .inl ⟨hq, rfl, hM⟩ | (rw [← e1]; rw [← e1] at hq; exact .inr ⟨hq, rfl, hM⟩))
end Go.Proofs.YtpihffpdkfkkhaaDoor
