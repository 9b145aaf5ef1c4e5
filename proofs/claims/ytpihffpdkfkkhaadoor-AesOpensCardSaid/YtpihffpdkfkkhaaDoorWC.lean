/- Walks: what functions of the given program do, operation by operation. Written by wip/gen. -/
import Derived.Test.YtpihffpdkfkkhaaDoorWS2
import Derived.Test.YtpihffpdkfkkhaaDoorWS3
import Derived.Test.YtpihffpdkfkkhaaDoorWB
import Derived.Test.YtpihffpdkfkkhaaDoorGE
namespace Go.Proofs.YtpihffpdkfkkhaaDoor
set_option linter.all false
open Go
theorem lentB_calls (s : List (BitVec 8)) (hs : s.length ≤ 1000000) (w : World) : Calls Tryd.prog 6 #[vS s] w (fun e w' => ∃ b, e = .returned (sl b 0 (lentL s).length (lentL s).length) ∧ Mem (All w) w w' [blk b (c8 (lentL s)) 5]) := by
  refine calls_of_st (n := 28) (args := [vS s]) Tryd.func6 rfl Tryd.ntmps6 (Nat.le_of_ble_eq_true rfl) (Mem.all w) ?_
  refine st_seq ?_
  refine st_region ?_
  refine st_v (rv_assign rfl) (by decide) ?_
  refine st_nil ?_
  refine st_then ?_
  refine st_seq ?_
  refine st_region ?_
  refine st_v (rv_move rfl) (by decide) ?_
  refine st_v (rv_lenB Tryd.underlying9 rfl) (by decide) ?_
  first | refine st_v (rv_addN (b := 160) rfl rfl (by first | omega | (simp <;> omega))) (by decide) ?_ | refine st_v (rv_addZ rfl rfl (by first | omega | (simp <;> omega))) (by decide) ?_
  refine st_make8 Tryd.underlying22 tyZ5 rfl rfl (by omega) (by omega) (by omega) (by decide) (fun b1 hb1 => ?_)
  refine st_v (rv_assign rfl) (by decide) ?_
  refine st_nil ?_
  refine st_then ?_
  refine st_seq ?_
  refine st_region ?_
  refine st_v (rv_move rfl) (by decide) ?_
  refine st_v (rv_move rfl) (by decide) ?_
  refine st_copy8 Tryd.underlying22 sz5 rfl rfl (i := 0) rfl (by first | omega | (simp [length_lentF]; done) | (simp [length_lentF] <;> omega)) (fun w _ => src_str _) (l' := [_]) rfl (by decide) ?_
  refine st_nil ?_
  refine st_then ?_
  refine st_seq ?_
  refine st_seq ?_
  refine st_region ?_
  refine st_v (rv_move rfl) (by decide) ?_
  refine st_v (rv_lenB Tryd.underlying9 rfl) (by decide) ?_
  refine st_v (rv_assign rfl) (by decide) ?_
  refine st_nil ?_
  refine st_then ?_
  refine st_block ?_
  refine st_loop (σ := Nat) (fun k => [(3, sl b1 0 (s.length + 160) (s.length + 160)), (4, vI (s.length + k : Nat))]) (fun k => [blk b1 (c8 (lentF s k)) 5]) (fun k => k ≤ 160) (fun k => 160 - k) 0 (by omega) (SubE.cons rfl (SubE.cons rfl (SubE.nil _))) (fun _ hM => hM) ?_
  intro k hI
  refine st_seq ?_
  refine st_seq ?_
  refine st_region ?_
  refine st_v (rv_move rfl) (by decide) ?_
  refine st_v (rv_move rfl) (by decide) ?_
  refine st_v (rv_lenS Tryd.underlying22 rfl) (by decide) ?_
  refine st_v (rv_lssZ rfl rfl) (by decide) ?_
  refine st_nil ?_
  refine st_then ?_
  refine st_cond rfl (fun hc17 => ?_) (fun hc17 => ?_)
  · -- t17 True
    try simp only [decide_eq_true_eq, decide_eq_false_iff_not, Bool.and_eq_true, Bool.or_eq_true, Bool.and_eq_false_iff, Bool.or_eq_false_iff, Bool.not_eq_true, Bool.not_eq_eq_eq_not, Bool.not_true, Bool.not_false, Int.not_lt, Int.not_le, ne_eq, Decidable.not_not] at hc17
    refine st_skip ?_
    refine st_then ?_
    refine st_seq ?_
    refine st_block ?_
    refine st_region ?_
    refine st_v (rv_move rfl) (by decide) ?_
    refine st_v (rv_move rfl) (by decide) ?_
    refine st_v (rv_move rfl) (by decide) ?_
    refine st_v (rv_remN (b := 251) rfl rfl (by first | omega | (simp <;> omega))) (by decide) ?_
    refine st_v (rv_convIto8 Tryd.underlying3 Tryd.underlying5 rfl) (by decide) ?_
    refine st_v (rv_xor8 (b := 165#8) rfl rfl) (by decide) ?_
    refine st_v (rv_indexS Tryd.underlying22 sz5 rfl rfl rfl (by first | omega | (simp [length_lentF] <;> omega)) (by first | exact (Nat.zero_add _).trans (Nat.mul_one _) | exact congrArg _ (Nat.mul_one _) | rfl)) (by decide) ?_
    refine st_store8 rfl rfl (i := 0) rfl sz5 (by first | omega | (simp [length_lentF] <;> omega)) (l' := [_]) rfl ?_
    refine st_nil ?_
    refine st_in_normal ?_
    refine st_then ?_
    refine st_region ?_
    refine st_v (rv_move rfl) (by decide) ?_
    first | refine st_v (rv_addN (b := 1) rfl rfl (by first | omega | (simp <;> omega))) (by decide) ?_ | refine st_v (rv_addZ rfl rfl (by first | omega | (simp <;> omega))) (by decide) ?_
    refine st_v (rv_assign rfl) (by decide) ?_
    refine st_nil ?_
    refine st_then ?_
    exact st_again (k + 1) (by omega) (by omega) (SubE.cons rfl (SubE.cons rfl (SubE.nil _))) (fun _ hM => hM)
  · -- t17 False
    try simp only [decide_eq_true_eq, decide_eq_false_iff_not, Bool.and_eq_true, Bool.or_eq_true, Bool.and_eq_false_iff, Bool.or_eq_false_iff, Bool.not_eq_true, Bool.not_eq_eq_eq_not, Bool.not_true, Bool.not_false, Int.not_lt, Int.not_le, ne_eq, Decidable.not_not] at hc17
    obtain rfl : k = 160 := by omega
    refine st_exit ?_
    refine st_then_exit ?_
    refine st_then_exit ?_
    refine st_in_exit ?_
    refine st_then ?_
    refine st_seq ?_
    refine st_region ?_
    refine st_v (rv_move rfl) (by decide) ?_
    refine st_v (rv_assign rfl) (by decide) ?_
    refine st_nil ?_
    refine st_then ?_
    refine st_ret ?_
    exact st_done rfl rfl (fun w hM => ⟨b1, by rw [length_lentL], hM⟩)
theorem mkCip {w : World} {key : List (BitVec 8)} {nk c : Nat} {vk vb : Value} {vs : List Value} (hnk : nk = 4 ∨ nk = 8) (hk : key.length = 4 * nk) (h : vs.length = 4 * (nk + 7)) (hh : (cipA c 48 vk vb vs (mS key (boxR 256) nk (4 * (nk + 7))) (boxR 256)).holds w) : CipH w c vk vb vs (mS key (boxR 256) nk (4 * (nk + 7))) (boxR 256) (nk + 6) :=
  ⟨by rw [length_mS]; exact h, fun k hk' => mS_getD4 hk (by rw [length_mS] at hk'; exact hk'), by rw [length_mS], by omega, by omega, length_boxR 256, hh⟩
theorem ropen2_calls (c : Nat) (vk vb : Value) (vs : List Value) (key nonce a text : List (BitVec 8)) (nk : Nat) (hnk : nk = 4 ∨ nk = 8) (hk : key.length = 4 * nk) (hnon : nonce.length = 12) (ha : a.length ≤ 100000) (ht : text.length ≤ 100000) (w : World) (hC : CipH w c vk vb vs (mS key (boxR 256) nk (4 * (nk + 7))) (boxR 256) (nk + 6)) :
    Calls Tryd.prog 15 #[pt c 0, vS nonce, vS a, vS text] w (fun e w' => e = .returned (.tuple #[vS (oOut key nonce a text), .bool (opens key nonce a text)]) ∧ Mem (All w) w w' []) := by
  refine (ropen_calls c vk vb vs (mS key (boxR 256) nk (4 * (nk + 7))) (boxR 256) (nk + 6) nonce hnon a text ha ht w hC).mono fun e w' h => ?_
  have hs := opens_same key nonce a text nk hnk hk hnon
  rcases h with ⟨hq, h1, h2⟩ | ⟨hq, h1, h2⟩
  · have hp : opens key nonce a text = false := by
      cases h : opens key nonce a text with
      | false => rfl
      | true => exact absurd (hs.1 h) hq
    have ho : oOut key nonce a text = [] := by rw [oOut, hp]; simp
    rw [hp, ho]; exact ⟨h1, h2⟩
  · have hp := hs.2 hq
    rw [hp, oOut_same key nonce a text nk hnk hk hnon hp]; exact ⟨h1, h2⟩
theorem lentO_calls (s : List (BitVec 8)) (hs : s.length ≤ 1000000) (w : World) : Calls Tryd.prog 6 #[vS s] w (fun e w' => ∃ v, e = .returned v ∧ Mem (All w) w w' [own v 5 1 (lentL s).length ((lentL s).map U8)]) :=
  (lentB_calls s hs w).mono fun e w' ⟨b, h1, h2⟩ => ⟨_, h1, by
    have := h2.toOwn (i := 0) (off := 0) (n := (lentL s).length) (cap := (lentL s).length) (size := 1) (xs := (lentL s).map U8) rfl (by simp) (Nat.le_refl _) (by simp) (fun j u hj => by rw [Nat.zero_add]; show ((lentL s).map U8).toArray[j]? = some u; rw [List.getElem?_toArray]; exact hj)
    exact this⟩
set_option maxRecDepth 100000 in
set_option maxHeartbeats 4000000 in
theorem aesSeals_walk (key nonce adj text : List (BitVec 8)) (w : World) (hT : Tab w) : Calls Tryd.prog 4 #[vS key, vS nonce, vS adj, vS text] w (fun e w' => e = .returned (.bool true) ∧ Mem (All w) w w' []) := by
  have hS0 : All w 0 := ⟨by have := hT.live; omega, fun h => h⟩
  have hS1 : All w 1 := ⟨by have := hT.live; omega, fun h => h⟩
  refine calls_of_st (n := 178) (args := [vS key, vS nonce, vS adj, vS text]) Tryd.func4 rfl Tryd.ntmps4 (Nat.le_of_ble_eq_true rfl) (Mem.all w) ?_
  refine st_seq ?_
  refine st_region ?_
  refine st_v (rv_assign rfl) (by decide) ?_
  refine st_nil ?_
  refine st_then ?_
  refine st_seq ?_
  refine st_seq ?_
  refine st_region ?_
  refine st_v (rv_move rfl) (by decide) ?_
  refine st_v (rv_lenB Tryd.underlying9 rfl) (by decide) ?_
  refine st_v (rv_gtrZ rfl rfl) (by decide) ?_
  refine st_v (rv_move rfl) (by decide) ?_
  refine' st_or 4 (L := _) (s := 28) (d := 32) [0, 1, 2, 3] rfl (fun hg4 => ?_) (fun _ => ?_) ?_; rotate_left
  · -- true
    refine st_gskip rfl rfl rfl (by decide) ?_
    refine st_gskip rfl rfl rfl (by decide) ?_
    refine st_gskip rfl rfl rfl (by decide) ?_
    first | refine st_v (rv_pick_true rfl rfl) (by decide) ?_ | refine st_v (rv_pick_false rfl rfl) (by decide) ?_ | refine st_v (rv_pick rfl rfl rfl) (by decide) ?_
    refine st_nil ?_
    exact st_meet_b (SubE.cons rfl (SubE.cons rfl (SubE.cons rfl (SubE.cons rfl (SubE.cons rfl (SubE.nil _))))))
  · -- false
    refine st_gon rfl rfl ?_
    refine st_v (rv_move rfl) (by decide) ?_
    refine st_gon rfl rfl ?_
    refine st_v (rv_lenB Tryd.underlying9 rfl) (by decide) ?_
    refine st_gon rfl rfl ?_
    refine st_v (rv_gtrZ rfl rfl) (by decide) ?_
    first | refine st_v (rv_pick_true rfl rfl) (by decide) ?_ | refine st_v (rv_pick_false rfl rfl) (by decide) ?_ | refine st_v (rv_pick rfl rfl rfl) (by decide) ?_
    refine st_nil ?_
    exact st_meet_b (SubE.cons rfl (SubE.cons rfl (SubE.cons rfl (SubE.cons rfl (SubE.cons rfl (SubE.nil _))))))
  refine st_v (rv_move rfl) (by decide) ?_
  refine' st_or 4 (L := _) (s := 33) (d := 37) [0, 1, 2, 3] rfl (fun hg9 => ?_) (fun _ => ?_) ?_; rotate_left
  · -- true
    refine st_gskip rfl rfl rfl (by decide) ?_
    refine st_gskip rfl rfl rfl (by decide) ?_
    refine st_gskip rfl rfl rfl (by decide) ?_
    first | refine st_v (rv_pick_true rfl rfl) (by decide) ?_ | refine st_v (rv_pick_false rfl rfl) (by decide) ?_ | refine st_v (rv_pick rfl rfl rfl) (by decide) ?_
    refine st_nil ?_
    exact st_meet_b (SubE.cons rfl (SubE.cons rfl (SubE.cons rfl (SubE.cons rfl (SubE.cons rfl (SubE.nil _))))))
  · -- false
    refine st_gon rfl rfl ?_
    refine st_v (rv_move rfl) (by decide) ?_
    refine st_gon rfl rfl ?_
    refine st_v (rv_lenB Tryd.underlying9 rfl) (by decide) ?_
    refine st_gon rfl rfl ?_
    refine st_v (rv_gtrZ rfl rfl) (by decide) ?_
    first | refine st_v (rv_pick_true rfl rfl) (by decide) ?_ | refine st_v (rv_pick_false rfl rfl) (by decide) ?_ | refine st_v (rv_pick rfl rfl rfl) (by decide) ?_
    refine st_nil ?_
    exact st_meet_b (SubE.cons rfl (SubE.cons rfl (SubE.cons rfl (SubE.cons rfl (SubE.cons rfl (SubE.nil _))))))
  refine st_v (rv_move rfl) (by decide) ?_
  refine' st_or 4 (L := _) (s := 38) (d := 42) [0, 1, 2, 3] rfl (fun hg14 => ?_) (fun _ => ?_) ?_; rotate_left
  · -- true
    refine st_gskip rfl rfl rfl (by decide) ?_
    refine st_gskip rfl rfl rfl (by decide) ?_
    refine st_gskip rfl rfl rfl (by decide) ?_
    first | refine st_v (rv_pick_true rfl rfl) (by decide) ?_ | refine st_v (rv_pick_false rfl rfl) (by decide) ?_ | refine st_v (rv_pick rfl rfl rfl) (by decide) ?_
    refine st_nil ?_
    exact st_meet_b (SubE.cons rfl (SubE.cons rfl (SubE.cons rfl (SubE.cons rfl (SubE.cons rfl (SubE.nil _))))))
  · -- false
    refine st_gon rfl rfl ?_
    refine st_v (rv_move rfl) (by decide) ?_
    refine st_gon rfl rfl ?_
    refine st_v (rv_lenB Tryd.underlying9 rfl) (by decide) ?_
    refine st_gon rfl rfl ?_
    refine st_v (rv_gtrZ rfl rfl) (by decide) ?_
    first | refine st_v (rv_pick_true rfl rfl) (by decide) ?_ | refine st_v (rv_pick_false rfl rfl) (by decide) ?_ | refine st_v (rv_pick rfl rfl rfl) (by decide) ?_
    refine st_nil ?_
    exact st_meet_b (SubE.cons rfl (SubE.cons rfl (SubE.cons rfl (SubE.cons rfl (SubE.cons rfl (SubE.nil _))))))
  refine st_nil ?_
  refine st_then ?_
  refine st_cond rfl (fun hc42 => ?_) (fun hc42 => ?_)
  · -- t42 True
    try simp only [decide_eq_true_eq, decide_eq_false_iff_not, Bool.and_eq_true, Bool.or_eq_true, Bool.and_eq_false_iff, Bool.or_eq_false_iff, Bool.not_eq_true, Bool.not_eq_eq_eq_not, Bool.not_true, Bool.not_false, Int.not_lt, Int.not_le, ne_eq, Decidable.not_not] at hc42
    refine st_seq ?_
    refine st_region ?_
    refine st_v (rv_assign rfl) (by decide) ?_
    refine st_nil ?_
    refine st_then ?_
    refine st_ret ?_
    refine st_then_ret ?_
    exact st_done rfl rfl (fun w hM => ⟨rfl, hM.sublist (List.nil_sublist _)⟩)
  · -- t42 False
    try simp only [decide_eq_true_eq, decide_eq_false_iff_not, Bool.and_eq_true, Bool.or_eq_true, Bool.and_eq_false_iff, Bool.or_eq_false_iff, Bool.not_eq_true, Bool.not_eq_eq_eq_not, Bool.not_true, Bool.not_false, Int.not_lt, Int.not_le, ne_eq, Decidable.not_not] at hc42
    obtain ⟨⟨⟨hlk, hln⟩, hla⟩, hlt⟩ := hc42
    refine st_skip ?_
    refine st_then ?_
    refine st_seq ?_
    refine st_region ?_
    refine st_v (rv_move rfl) (by decide) ?_
    refine st_callV cal6 rfl (fun w hM => lent_calls adj (by omega) w) (by decide) (fun v1 => ?_)
    refine st_v (rv_assign rfl) (by decide) ?_
    refine st_nil ?_
    refine st_then ?_
    refine st_seq ?_
    refine st_region ?_
    refine st_v (rv_move rfl) (by decide) ?_
    refine st_callV cal6 rfl (fun w hM => lentO_calls text (by omega) w) (by decide) (fun v2 => ?_)
    refine st_v (rv_assign rfl) (by decide) ?_
    refine st_nil ?_
    refine st_then ?_
    refine st_seq ?_
    refine st_region ?_
    refine st_v (rv_move rfl) (by decide) ?_
    refine st_callV cal6 rfl (fun w hM => lent_calls nonce (by omega) w) (by decide) (fun v3 => ?_)
    refine st_v (rv_assign rfl) (by decide) ?_
    refine st_nil ?_
    refine st_then ?_
    refine st_seq ?_
    refine st_drawStart mixed ?_
    refine st_drawSeg1 (E0 := [(0, _), (1, _), (2, _), (3, _), (9, _), (10, _), (11, _)]) [kpeq _, (fun _ v => own v 5 1 key.length (key.map U8)), kpeq _, kpeq _, kpeq _, kpeq _, kpeq _, kpeq _, kpeq _, kpeq _, kpeq _, kpeq _, kpeq _, kpeq _] 0 14 [0, 1, 0, 0, 8, 28, 0, 0, 128, 448, 0, 0, 2048, 7168, 16383, 32767, 65535, 65535, 131071, 524287] [0, 1, 2, 3, 9, 10, 11] (by kernel_rfl) (by decide) (by kernel_rfl) (SubE.cons rfl (SubE.cons rfl (SubE.cons rfl (SubE.cons rfl (SubE.cons rfl (SubE.cons rfl (SubE.cons rfl (SubE.nil _)))))))) rfl rfl (hall_cons (hop_val [] [] rfl rfl rfl (by decide) rfl (jnil) (xnil) (fun _ _ _ _ => does_v (rv_move rfl))) (hall_cons (hop_val [(0, 50, _)] [] rfl rfl rfl (by decide) rfl (jcons rfl rfl rfl rfl rfl (jnil)) (xnil) (fun _ _ _ _ => does_bytes Tryd.underlying9 Tryd.underlying22 Tryd.underlying5 rfl)) (hall_cons (hop_val [] [] rfl rfl rfl (by decide) rfl (jnil) (xnil) (fun _ _ _ _ => does_v (rv_move rfl))) (hall_cons (hop_val [] [] rfl rfl rfl (by decide) rfl (jnil) (xnil) (fun _ _ _ _ => does_v (rv_move rfl))) (hall_cons (hop_val [(3, 53, _)] [] rfl rfl rfl (by decide) rfl (jcons rfl rfl rfl rfl rfl (jnil)) (xnil) (fun _ _ _ _ => does_v (rv_lenB Tryd.underlying9 rfl))) (hall_cons (hop_val [(2, 52, _), (4, 54, _)] [] rfl rfl rfl (by decide) rfl (jcons rfl rfl rfl rfl rfl (jcons rfl rfl rfl rfl rfl (jnil))) (xnil) (fun _ _ _ _ => does_v (rv_sliceR (rd_rd (i := 0) rfl) Tryd.underlying22 sz5 rfl evB_none (evB_some rfl rfl) (by first | omega | (simp [length_lentL] <;> omega)) (by first | omega | (simp [length_lentL] <;> omega))))) (hall_cons (hop_val [] [] rfl rfl rfl (by decide) rfl (jnil) (xnil) (fun _ _ _ _ => does_v (rv_move rfl))) (hall_cons (hop_val [] [] rfl rfl rfl (by decide) rfl (jnil) (xnil) (fun _ _ _ _ => does_v (rv_move rfl))) (hall_cons (hop_val [(7, 57, _)] [] rfl rfl rfl (by decide) rfl (jcons rfl rfl rfl rfl rfl (jnil)) (xnil) (fun _ _ _ _ => does_v (rv_lenB Tryd.underlying9 rfl))) (hall_cons (hop_val [(6, 56, _), (8, 58, _)] [] rfl rfl rfl (by decide) rfl (jcons rfl rfl rfl rfl rfl (jcons rfl rfl rfl rfl rfl (jnil))) (xnil) (fun _ _ _ _ => does_v (rv_sliceR (rd_rd (i := 2) rfl) Tryd.underlying22 sz5 rfl evB_none (evB_some rfl rfl) (by first | omega | (simp [length_lentL] <;> omega)) (by first | omega | (simp [length_lentL] <;> omega))))) (hall_cons (hop_val [] [] rfl rfl rfl (by decide) rfl (jnil) (xnil) (fun _ _ _ _ => does_v (rv_move rfl))) (hall_cons (hop_val [] [] rfl rfl rfl (by decide) rfl (jnil) (xnil) (fun _ _ _ _ => does_v (rv_move rfl))) (hall_cons (hop_val [(11, 61, _)] [] rfl rfl rfl (by decide) rfl (jcons rfl rfl rfl rfl rfl (jnil)) (xnil) (fun _ _ _ _ => does_v (rv_lenB Tryd.underlying9 rfl))) (hall_cons (hop_val [(10, 60, _), (12, 62, _)] [] rfl rfl rfl (by decide) rfl (jcons rfl rfl rfl rfl rfl (jcons rfl rfl rfl rfl rfl (jnil))) (xnil) (fun _ _ _ _ => does_v (rv_sliceR (rd_own (i := 1) rfl) Tryd.underlying22 sz5 rfl evB_none (evB_some rfl rfl) (by first | omega | (simp [length_lentL] <;> omega)) (by first | omega | (simp [length_lentL] <;> omega))))) (hall_nil))))))))))))))) (draw_end [(5, 55, _), (9, 59, _), (13, 63, _)] [(1, 51, (fun _ v => own v 5 1 key.length (key.map U8)))] rfl (jcons rfl rfl rfl rfl rfl (jcons rfl rfl rfl rfl rfl (jcons rfl rfl rfl rfl rfl (jnil)))) (xcons rfl rfl rfl rfl rfl rfl (xnil)) (fun vals => ?_))
    dsimp only [xenv, xmem]
    refine st_drawOp [0, 1, 0, 0, 8, 28, 0, 0, 128, 448, 0, 0, 2048, 7168, 16383, 32767, 65535, 65535, 131071, 524287] (by kernel_rfl) rfl ?_
    refine st_call1 (ρ := Value) (fun v => .tuple #[v, vI (sErr key nonce)]) (fun _ => True) (fun v => [own v 5 1 (sOut key nonce adj text).length ((sOut key nonce adj text).map U8)]) cal12 rfl (fun w hM => (aesSeal_calls _ _ _ _ key nonce adj text (by omega) (by omega) (by omega) w (hT.at hM hS0 hS1) ((rd_own (i := 0) rfl) w hM) (lentRd (((rd_rd (i := 1) rfl) w hM).part8 (by first | omega | (simp [length_lentL] <;> omega)) (by first | omega | (simp [length_lentL] <;> omega)))) (lentRd (((rd_rd (i := 3) rfl) w hM).part8 (by first | omega | (simp [length_lentL] <;> omega)) (by first | omega | (simp [length_lentL] <;> omega)))) (lentRd (((rd_own (i := 2) rfl) w hM).part8 (by first | omega | (simp [length_lentL] <;> omega)) (by first | omega | (simp [length_lentL] <;> omega))))).mono fun e w' ⟨r, h1, h2⟩ => ⟨r, h1, trivial, h2⟩) (by decide) (fun v5 _ => ?_)
    refine st_nil ?_
    refine st_then ?_
    refine st_drawOp [0, 1, 0, 0, 8, 28, 0, 0, 128, 448, 0, 0, 2048, 7168, 16383, 32767, 65535, 65535, 131071, 524287] (by kernel_rfl) rfl ?_
    refine st_v (rv_move rfl) (by decide) ?_
    refine st_nil ?_
    refine st_then ?_
    refine st_drawSeg1 (E0 := [(0, _), (1, _), (2, _), (3, _), (9, _), (10, _), (11, _), (49, _)]) [kany, kany, kany, kany, kany, kany, kany, kany, kany, kany, kany, kany, kany, kany, kany, kany, kpeq _, kpeq _, kpeq _] 16 19 [0, 1, 0, 0, 8, 28, 0, 0, 128, 448, 0, 0, 2048, 7168, 16383, 32767, 65535, 65535, 131071, 524287] [0, 1, 2, 3, 9, 10, 11, 49] (by kernel_rfl) (by decide) (by kernel_rfl) (SubE.cons rfl (SubE.cons rfl (SubE.cons rfl (SubE.cons rfl (SubE.cons rfl (SubE.cons rfl (SubE.cons rfl (SubE.cons rfl (SubE.nil _))))))))) rfl rfl (hall_skip rfl (hall_skip rfl (hall_skip rfl (hall_skip rfl (hall_skip rfl (hall_skip rfl (hall_skip rfl (hall_skip rfl (hall_skip rfl (hall_skip rfl (hall_skip rfl (hall_skip rfl (hall_skip rfl (hall_skip rfl (hall_skip rfl (hall_skip rfl (hall_cons (hop_val [] [] rfl rfl rfl (by decide) rfl (jnil) (xnil) (fun _ _ _ _ => does_v (rv_extract rfl rfl))) (hall_cons (hop_val [] [] rfl rfl rfl (by decide) rfl (jnil) (xnil) (fun _ _ _ _ => does_v (rv_extract rfl rfl))) (hall_cons (hop_val [(16, 65, _)] [] rfl rfl rfl (by decide) rfl (jcons rfl rfl rfl rfl rfl (jnil)) (xnil) (fun _ _ _ _ => does_v (rv_assign rfl))) (hall_nil)))))))))))))))))))) (draw_end1 [(17, 66, _), (18, 12, _)] (jcons rfl rfl rfl rfl rfl (jcons rfl rfl rfl rfl rfl (jnil))) ?_)
    refine st_drawTail (N := 19) [0, 1, 0, 0, 8, 28, 0, 0, 128, 448, 0, 0, 2048, 7168, 16383, 32767, 65535, 65535, 131071, 524287] (by kernel_rfl) (by kernel_rfl) ?_
    refine st_v (rv_assign rfl) (by decide) ?_
    refine st_nil ?_
    refine st_then ?_
    refine st_seq ?_
    refine st_drawStart mixed ?_
    refine st_drawSeg1 (E0 := [(0, _), (1, _), (2, _), (3, _), (9, _), (10, _), (11, _), (12, _), (13, _)]) [kpeq _, (fun _ v => own v 5 1 key.length (key.map U8)), kpeq _, kpeq _, kpeq _, kpeq _, kpeq _, kpeq _, kpeq _, kpeq _, kpeq _, kpeq _, kpeq _, kpeq _] 0 14 [0, 1, 0, 0, 8, 28, 0, 0, 128, 448, 0, 0, 2048, 7168, 16383, 32767, 65535, 65535, 131071, 524287] [0, 1, 2, 3, 9, 10, 11, 12, 13] (by kernel_rfl) (by decide) (by kernel_rfl) (SubE.cons rfl (SubE.cons rfl (SubE.cons rfl (SubE.cons rfl (SubE.cons rfl (SubE.cons rfl (SubE.cons rfl (SubE.cons rfl (SubE.cons rfl (SubE.nil _)))))))))) rfl rfl (hall_cons (hop_val [] [] rfl rfl rfl (by decide) rfl (jnil) (xnil) (fun _ _ _ _ => does_v (rv_move rfl))) (hall_cons (hop_val [(0, 68, _)] [] rfl rfl rfl (by decide) rfl (jcons rfl rfl rfl rfl rfl (jnil)) (xnil) (fun _ _ _ _ => does_bytes Tryd.underlying9 Tryd.underlying22 Tryd.underlying5 rfl)) (hall_cons (hop_val [] [] rfl rfl rfl (by decide) rfl (jnil) (xnil) (fun _ _ _ _ => does_v (rv_move rfl))) (hall_cons (hop_val [] [] rfl rfl rfl (by decide) rfl (jnil) (xnil) (fun _ _ _ _ => does_v (rv_move rfl))) (hall_cons (hop_val [(3, 71, _)] [] rfl rfl rfl (by decide) rfl (jcons rfl rfl rfl rfl rfl (jnil)) (xnil) (fun _ _ _ _ => does_v (rv_lenB Tryd.underlying9 rfl))) (hall_cons (hop_val [(2, 70, _), (4, 72, _)] [] rfl rfl rfl (by decide) rfl (jcons rfl rfl rfl rfl rfl (jcons rfl rfl rfl rfl rfl (jnil))) (xnil) (fun _ _ _ _ => does_v (rv_sliceR (rd_rd (i := 2) rfl) Tryd.underlying22 sz5 rfl evB_none (evB_some rfl rfl) (by first | omega | (simp [length_lentL] <;> omega)) (by first | omega | (simp [length_lentL] <;> omega))))) (hall_cons (hop_val [] [] rfl rfl rfl (by decide) rfl (jnil) (xnil) (fun _ _ _ _ => does_v (rv_move rfl))) (hall_cons (hop_val [] [] rfl rfl rfl (by decide) rfl (jnil) (xnil) (fun _ _ _ _ => does_v (rv_move rfl))) (hall_cons (hop_val [(7, 75, _)] [] rfl rfl rfl (by decide) rfl (jcons rfl rfl rfl rfl rfl (jnil)) (xnil) (fun _ _ _ _ => does_v (rv_lenB Tryd.underlying9 rfl))) (hall_cons (hop_val [(6, 74, _), (8, 76, _)] [] rfl rfl rfl (by decide) rfl (jcons rfl rfl rfl rfl rfl (jcons rfl rfl rfl rfl rfl (jnil))) (xnil) (fun _ _ _ _ => does_v (rv_sliceR (rd_rd (i := 4) rfl) Tryd.underlying22 sz5 rfl evB_none (evB_some rfl rfl) (by first | omega | (simp [length_lentL] <;> omega)) (by first | omega | (simp [length_lentL] <;> omega))))) (hall_cons (hop_val [] [] rfl rfl rfl (by decide) rfl (jnil) (xnil) (fun _ _ _ _ => does_v (rv_move rfl))) (hall_cons (hop_val [] [] rfl rfl rfl (by decide) rfl (jnil) (xnil) (fun _ _ _ _ => does_v (rv_move rfl))) (hall_cons (hop_val [(11, 79, _)] [] rfl rfl rfl (by decide) rfl (jcons rfl rfl rfl rfl rfl (jnil)) (xnil) (fun _ _ _ _ => does_v (rv_lenB Tryd.underlying9 rfl))) (hall_cons (hop_val [(10, 78, _), (12, 80, _)] [] rfl rfl rfl (by decide) rfl (jcons rfl rfl rfl rfl rfl (jcons rfl rfl rfl rfl rfl (jnil))) (xnil) (fun _ _ _ _ => does_v (rv_sliceR (rd_own (i := 3) rfl) Tryd.underlying22 sz5 rfl evB_none (evB_some rfl rfl) (by first | omega | (simp [length_lentL] <;> omega)) (by first | omega | (simp [length_lentL] <;> omega))))) (hall_nil))))))))))))))) (draw_end [(5, 73, _), (9, 77, _), (13, 81, _)] [(1, 69, (fun _ v => own v 5 1 key.length (key.map U8)))] rfl (jcons rfl rfl rfl rfl rfl (jcons rfl rfl rfl rfl rfl (jcons rfl rfl rfl rfl rfl (jnil)))) (xcons rfl rfl rfl rfl rfl rfl (xnil)) (fun vals => ?_))
    dsimp only [xenv, xmem]
    refine st_drawOp [0, 1, 0, 0, 8, 28, 0, 0, 128, 448, 0, 0, 2048, 7168, 16383, 32767, 65535, 65535, 131071, 524287] (by kernel_rfl) rfl ?_
    refine st_call1 (ρ := Value) (fun v => .tuple #[v, vI (oErr key nonce adj text)]) (fun _ => True) (fun v => [own v 5 1 (oOut key nonce adj text).length ((oOut key nonce adj text).map U8)]) cal13 rfl (fun w hM => (aesOpen_calls _ _ _ _ key nonce adj text (by omega) (by omega) (by omega) w (hT.at hM hS0 hS1) ((rd_own (i := 0) rfl) w hM) (lentRd (((rd_rd (i := 3) rfl) w hM).part8 (by first | omega | (simp [length_lentL] <;> omega)) (by first | omega | (simp [length_lentL] <;> omega)))) (lentRd (((rd_rd (i := 5) rfl) w hM).part8 (by first | omega | (simp [length_lentL] <;> omega)) (by first | omega | (simp [length_lentL] <;> omega)))) (lentRd (((rd_own (i := 4) rfl) w hM).part8 (by first | omega | (simp [length_lentL] <;> omega)) (by first | omega | (simp [length_lentL] <;> omega))))).mono fun e w' ⟨r, h1, h2⟩ => ⟨r, h1, trivial, h2⟩) (by decide) (fun v7 _ => ?_)
    refine st_nil ?_
    refine st_then ?_
    refine st_drawOp [0, 1, 0, 0, 8, 28, 0, 0, 128, 448, 0, 0, 2048, 7168, 16383, 32767, 65535, 65535, 131071, 524287] (by kernel_rfl) rfl ?_
    refine st_v (rv_move rfl) (by decide) ?_
    refine st_nil ?_
    refine st_then ?_
    refine st_drawSeg1 (E0 := [(0, _), (1, _), (2, _), (3, _), (9, _), (10, _), (11, _), (12, _), (13, _), (67, _)]) [kany, kany, kany, kany, kany, kany, kany, kany, kany, kany, kany, kany, kany, kany, kany, kany, kpeq _, kpeq _, kpeq _] 16 19 [0, 1, 0, 0, 8, 28, 0, 0, 128, 448, 0, 0, 2048, 7168, 16383, 32767, 65535, 65535, 131071, 524287] [0, 1, 2, 3, 9, 10, 11, 12, 13, 67] (by kernel_rfl) (by decide) (by kernel_rfl) (SubE.cons rfl (SubE.cons rfl (SubE.cons rfl (SubE.cons rfl (SubE.cons rfl (SubE.cons rfl (SubE.cons rfl (SubE.cons rfl (SubE.cons rfl (SubE.cons rfl (SubE.nil _))))))))))) rfl rfl (hall_skip rfl (hall_skip rfl (hall_skip rfl (hall_skip rfl (hall_skip rfl (hall_skip rfl (hall_skip rfl (hall_skip rfl (hall_skip rfl (hall_skip rfl (hall_skip rfl (hall_skip rfl (hall_skip rfl (hall_skip rfl (hall_skip rfl (hall_skip rfl (hall_cons (hop_val [] [] rfl rfl rfl (by decide) rfl (jnil) (xnil) (fun _ _ _ _ => does_v (rv_extract rfl rfl))) (hall_cons (hop_val [] [] rfl rfl rfl (by decide) rfl (jnil) (xnil) (fun _ _ _ _ => does_v (rv_extract rfl rfl))) (hall_cons (hop_val [(16, 83, _)] [] rfl rfl rfl (by decide) rfl (jcons rfl rfl rfl rfl rfl (jnil)) (xnil) (fun _ _ _ _ => does_v (rv_assign rfl))) (hall_nil)))))))))))))))))))) (draw_end1 [(17, 84, _), (18, 14, _)] (jcons rfl rfl rfl rfl rfl (jcons rfl rfl rfl rfl rfl (jnil))) ?_)
    refine st_drawTail (N := 19) [0, 1, 0, 0, 8, 28, 0, 0, 128, 448, 0, 0, 2048, 7168, 16383, 32767, 65535, 65535, 131071, 524287] (by kernel_rfl) (by kernel_rfl) ?_
    refine st_v (rv_assign rfl) (by decide) ?_
    refine st_nil ?_
    refine st_then ?_
    refine st_seq ?_
    refine st_region ?_
    refine st_v (rv_move rfl) (by decide) ?_
    refine st_v (rv_move rfl) (by decide) ?_
    refine st_call0 cal8 rfl (fun w hM => still_calls _ adj (by omega) w ((rd_rd (i := 6) rfl) w hM)) (by decide) ?_
    refine st_v (rv_assign rfl) (by decide) ?_
    refine st_nil ?_
    refine st_then ?_
    refine st_seq ?_
    refine st_region ?_
    refine st_v (rv_move rfl) (by decide) ?_
    refine st_v (rv_move rfl) (by decide) ?_
    refine st_call0 cal8 rfl (fun w hM => still_calls _ text (by omega) w ((rd_own (i := 5) rfl) w hM)) (by decide) ?_
    refine st_v (rv_assign rfl) (by decide) ?_
    refine st_nil ?_
    refine st_then ?_
    refine st_seq ?_
    refine st_region ?_
    refine st_v (rv_move rfl) (by decide) ?_
    refine st_v (rv_move rfl) (by decide) ?_
    refine st_call0 cal8 rfl (fun w hM => still_calls _ nonce (by omega) w ((rd_rd (i := 4) rfl) w hM)) (by decide) ?_
    refine st_v (rv_assign rfl) (by decide) ?_
    refine st_nil ?_
    refine st_then ?_
    refine st_seq ?_
    refine st_seq ?_
    refine st_region ?_
    refine st_v (rv_move rfl) (by decide) ?_
    refine st_v (rv_not rfl) (by decide) ?_
    refine st_v (rv_move rfl) (by decide) ?_
    refine' st_or 3 (L := _) (s := 96) (d := 99) [0, 1, 2, 3, 10, 12, 13, 14, 15, 18] rfl (fun hg3 => ?_) (fun _ => ?_) ?_; rotate_left
    · -- true
      refine st_gskip rfl rfl rfl (by decide) ?_
      refine st_gskip rfl rfl rfl (by decide) ?_
      first | refine st_v (rv_pick_true rfl rfl) (by decide) ?_ | refine st_v (rv_pick_false rfl rfl) (by decide) ?_ | refine st_v (rv_pick rfl rfl rfl) (by decide) ?_
      refine st_nil ?_
      exact st_meet_b (SubE.cons rfl (SubE.cons rfl (SubE.cons rfl (SubE.cons rfl (SubE.cons rfl (SubE.cons rfl (SubE.cons rfl (SubE.cons rfl (SubE.cons rfl (SubE.cons rfl (SubE.cons rfl (SubE.nil _))))))))))))
    · -- false
      refine st_gon rfl rfl ?_
      refine st_v (rv_move rfl) (by decide) ?_
      refine st_gon rfl rfl ?_
      refine st_v (rv_not rfl) (by decide) ?_
      first | refine st_v (rv_pick_true rfl rfl) (by decide) ?_ | refine st_v (rv_pick_false rfl rfl) (by decide) ?_ | refine st_v (rv_pick rfl rfl rfl) (by decide) ?_
      refine st_nil ?_
      exact st_meet_b (SubE.cons rfl (SubE.cons rfl (SubE.cons rfl (SubE.cons rfl (SubE.cons rfl (SubE.cons rfl (SubE.cons rfl (SubE.cons rfl (SubE.cons rfl (SubE.cons rfl (SubE.cons rfl (SubE.nil _))))))))))))
    refine st_v (rv_move rfl) (by decide) ?_
    refine' st_or 3 (L := _) (s := 100) (d := 103) [0, 1, 2, 3, 10, 12, 13, 14, 15] rfl (fun hg7 => ?_) (fun _ => ?_) ?_; rotate_left
    · -- true
      refine st_gskip rfl rfl rfl (by decide) ?_
      refine st_gskip rfl rfl rfl (by decide) ?_
      first | refine st_v (rv_pick_true rfl rfl) (by decide) ?_ | refine st_v (rv_pick_false rfl rfl) (by decide) ?_ | refine st_v (rv_pick rfl rfl rfl) (by decide) ?_
      refine st_nil ?_
      exact st_meet_b (SubE.cons rfl (SubE.cons rfl (SubE.cons rfl (SubE.cons rfl (SubE.cons rfl (SubE.cons rfl (SubE.cons rfl (SubE.cons rfl (SubE.cons rfl (SubE.cons rfl (SubE.nil _)))))))))))
    · -- false
      refine st_gon rfl rfl ?_
      refine st_v (rv_move rfl) (by decide) ?_
      refine st_gon rfl rfl ?_
      refine st_v (rv_not rfl) (by decide) ?_
      first | refine st_v (rv_pick_true rfl rfl) (by decide) ?_ | refine st_v (rv_pick_false rfl rfl) (by decide) ?_ | refine st_v (rv_pick rfl rfl rfl) (by decide) ?_
      refine st_nil ?_
      exact st_meet_b (SubE.cons rfl (SubE.cons rfl (SubE.cons rfl (SubE.cons rfl (SubE.cons rfl (SubE.cons rfl (SubE.cons rfl (SubE.cons rfl (SubE.cons rfl (SubE.cons rfl (SubE.nil _)))))))))))
    refine st_nil ?_
    refine st_then ?_
    refine st_false rfl ?_
    refine st_skip ?_
    refine st_then ?_
    refine st_seq ?_
    refine st_seq ?_
    refine st_region ?_
    refine st_v (rv_assign rfl) (by decide) ?_
    refine st_nil ?_
    refine st_then ?_
    refine st_block ?_
    refine st_loopA (σ := Nat × List (BitVec 8)) [(0, kst _), (1, kst _), (2, kst _), (3, kst _), (10, kst _), (12, kst _), (13, kst _), (14, kst _), (15, kst _), (19, fun (i, l) => vI i)] [kst _, kst _, kst _, kst _, kst _, fun (i, l) => own v2 5 1 (lentL text).length (l.map U8), kst _] (fun (i, l) => i ≤ (lentL text).length ∧ l.length = (lentL text).length) (fun (i, l) => (lentL text).length - i) (0, lentL text) (⟨by omega, rfl⟩) (SubE.cons rfl (SubE.cons rfl (SubE.cons rfl (SubE.cons rfl (SubE.cons rfl (SubE.cons rfl (SubE.cons rfl (SubE.cons rfl (SubE.cons rfl (SubE.cons rfl (SubE.nil _))))))))))) (fun _ hM => hM) ?_
    intro ⟨i, l⟩ hI
    try dsimp only at hI
    dsimp only [List.map, kst]
    obtain ⟨hi, hl⟩ := hI
    have hlL := length_lentL text
    refine st_seq ?_
    refine st_seq ?_
    refine st_region ?_
    refine st_v (rv_move rfl) (by decide) ?_
    refine st_v (rv_move rfl) (by decide) ?_
    refine st_v (rv_lenR (rd_own (i := 5) rfl) Tryd.underlying22 rfl) (by decide) ?_
    refine st_v (rv_lssZ rfl rfl) (by decide) ?_
    refine st_nil ?_
    refine st_then ?_
    refine st_cond rfl (fun hc107 => ?_) (fun hc107 => ?_)
    · -- t107 True
      try simp only [decide_eq_true_eq, decide_eq_false_iff_not, Bool.and_eq_true, Bool.or_eq_true, Bool.and_eq_false_iff, Bool.or_eq_false_iff, Bool.not_eq_true, Bool.not_eq_eq_eq_not, Bool.not_true, Bool.not_false, Int.not_lt, Int.not_le, ne_eq, Decidable.not_not] at hc107
      refine st_skip ?_
      refine st_then ?_
      refine st_seq ?_
      refine st_block ?_
      refine st_region ?_
      refine st_v (rv_move rfl) (by decide) ?_
      refine st_v (rv_move rfl) (by decide) ?_
      refine st_v (rv_indexR1 (rd_own (i := 5) rfl) Tryd.underlying22 sz5 rfl rfl rfl (by first | omega | (simp [length_lentL] <;> omega))) (by decide) ?_
      refine st_storeOwn8 (a := 0#8) rfl rfl (i := 5) rfl sz5 (by first | omega | (simp [length_lentL] <;> omega)) rfl ?_
      refine st_nil ?_
      refine st_in_normal ?_
      refine st_then ?_
      refine st_region ?_
      refine st_v (rv_move rfl) (by decide) ?_
      first | refine st_v (rv_addN (b := 1) rfl rfl (by first | omega | (simp <;> omega))) (by decide) ?_ | refine st_v (rv_addZ rfl rfl (by first | omega | (simp <;> omega))) (by decide) ?_
      refine st_v (rv_assign rfl) (by decide) ?_
      refine st_nil ?_
      refine st_then ?_
      exact st_again (i + 1, l.set i 0#8) (⟨by omega, by simp [hl]⟩) (by omega) (SubE.cons rfl (SubE.cons rfl (SubE.cons rfl (SubE.cons rfl (SubE.cons rfl (SubE.cons rfl (SubE.cons rfl (SubE.cons rfl (SubE.cons rfl (SubE.cons rfl (SubE.nil _))))))))))) (fun _ hM => hM)
    · -- t107 False
      try simp only [decide_eq_true_eq, decide_eq_false_iff_not, Bool.and_eq_true, Bool.or_eq_true, Bool.and_eq_false_iff, Bool.or_eq_false_iff, Bool.not_eq_true, Bool.not_eq_eq_eq_not, Bool.not_true, Bool.not_false, Int.not_lt, Int.not_le, ne_eq, Decidable.not_not] at hc107
      refine st_exit ?_
      refine st_then_exit ?_
      refine st_then_exit ?_
      refine st_in_exit ?_
      refine st_then ?_
      refine st_seq ?_
      refine st_region ?_
      refine st_v (rv_move rfl) (by decide) ?_
      refine st_call0 cal9 rfl (fun w hM => fits_calls key w) (by decide) ?_
      refine st_v (rv_assign rfl) (by decide) ?_
      refine st_nil ?_
      refine st_then ?_
      refine st_seq ?_
      refine st_seq ?_
      refine st_region ?_
      refine st_v (rv_move rfl) (by decide) ?_
      refine st_v (rv_not rfl) (by decide) ?_
      refine st_v (rv_move rfl) (by decide) ?_
      refine' st_or 4 (L := _) (s := 117) (d := 121) [0, 1, 2, 3, 12, 13, 14, 15] rfl (fun hg3 => ?_) (fun _ => ?_) ?_; rotate_left
      · -- true
        refine st_gskip rfl rfl rfl (by decide) ?_
        refine st_gskip rfl rfl rfl (by decide) ?_
        refine st_gskip rfl rfl rfl (by decide) ?_
        first | refine st_v (rv_pick_true rfl rfl) (by decide) ?_ | refine st_v (rv_pick_false rfl rfl) (by decide) ?_ | refine st_v (rv_pick rfl rfl rfl) (by decide) ?_
        refine st_nil ?_
        exact st_meet_b (SubE.cons rfl (SubE.cons rfl (SubE.cons rfl (SubE.cons rfl (SubE.cons rfl (SubE.cons rfl (SubE.cons rfl (SubE.cons rfl (SubE.cons rfl (SubE.nil _))))))))))
      · -- false
        refine st_gon rfl rfl ?_
        refine st_v (rv_move rfl) (by decide) ?_
        refine st_gon rfl rfl ?_
        refine st_v (rv_lenB Tryd.underlying9 rfl) (by decide) ?_
        refine st_gon rfl rfl ?_
        refine st_v (rv_neqZ rfl rfl) (by decide) ?_
        first | refine st_v (rv_pick_true rfl rfl) (by decide) ?_ | refine st_v (rv_pick_false rfl rfl) (by decide) ?_ | refine st_v (rv_pick rfl rfl rfl) (by decide) ?_
        refine st_nil ?_
        exact st_meet_b (SubE.cons rfl (SubE.cons rfl (SubE.cons rfl (SubE.cons rfl (SubE.cons rfl (SubE.cons rfl (SubE.cons rfl (SubE.cons rfl (SubE.cons rfl (SubE.nil _))))))))))
      refine st_nil ?_
      refine st_then ?_
      refine st_cond rfl (fun hc121 => ?_) (fun hc121 => ?_)
      · -- t121 True
        try simp only [decide_eq_true_eq, decide_eq_false_iff_not, Bool.and_eq_true, Bool.or_eq_true, Bool.and_eq_false_iff, Bool.or_eq_false_iff, Bool.not_eq_true, Bool.not_eq_eq_eq_not, Bool.not_true, Bool.not_false, Int.not_lt, Int.not_le, ne_eq, Decidable.not_not] at hc121
        have ho : sOk key nonce = false := by simp only [sOk, Bool.and_eq_false_iff, Bool.or_eq_false_iff, decide_eq_false_iff_not]; omega
        refine st_seq ?_
        refine st_region ?_
        refine st_v (rv_move rfl) (by decide) ?_
        refine st_v (rv_lenR (rd_own (i := 2) rfl) Tryd.underlying22 rfl) (by decide) ?_
        refine st_v (rv_eqlZ rfl rfl) (by decide) ?_
        refine st_v (rv_move rfl) (by decide) ?_
        refine' st_and 4 (L := _) (s := 125) (d := 129) [13, 15] rfl (fun hg4 => ?_) (fun _ => ?_) ?_; rotate_left
        · -- true
          try simp only [decide_eq_true_eq, decide_eq_false_iff_not, Bool.and_eq_true, Bool.not_eq_true] at hg4
          refine st_gon rfl rfl ?_
          refine st_v (rv_move rfl) (by decide) ?_
          refine st_gon rfl rfl ?_
          refine st_v (rv_lenR (rd_own (i := 0) rfl) Tryd.underlying22 rfl) (by decide) ?_
          refine st_gon rfl rfl ?_
          refine st_v (rv_eqlZ rfl rfl) (by decide) ?_
          first | refine st_v (rv_pick_true rfl rfl) (by decide) ?_ | refine st_v (rv_pick_false rfl rfl) (by decide) ?_ | refine st_v (rv_pick rfl rfl rfl) (by decide) ?_
          refine st_nil ?_
          exact st_meet_b (SubE.cons rfl (SubE.cons rfl (SubE.cons rfl (SubE.nil _))))
        · -- false
          refine st_gskip rfl rfl rfl (by decide) ?_
          refine st_gskip rfl rfl rfl (by decide) ?_
          refine st_gskip rfl rfl rfl (by decide) ?_
          first | refine st_v (rv_pick_true rfl rfl) (by decide) ?_ | refine st_v (rv_pick_false rfl rfl) (by decide) ?_ | refine st_v (rv_pick rfl rfl rfl) (by decide) ?_
          refine st_nil ?_
          exact st_meet_b (SubE.cons rfl (SubE.cons rfl (SubE.cons rfl (SubE.nil _))))
        refine st_v (rv_move rfl) (by decide) ?_
        refine' st_and 3 (L := _) (s := 130) (d := 133) [15] rfl (fun hg9 => ?_) (fun _ => ?_) ?_; rotate_left
        · -- true
          try simp only [decide_eq_true_eq, decide_eq_false_iff_not, Bool.and_eq_true, Bool.not_eq_true] at hg9
          refine st_gon rfl rfl ?_
          refine st_v (rv_move rfl) (by decide) ?_
          refine st_gon rfl rfl ?_
          refine st_v (rv_eqlZ rfl rfl) (by decide) ?_
          first | refine st_v (rv_pick_true rfl rfl) (by decide) ?_ | refine st_v (rv_pick_false rfl rfl) (by decide) ?_ | refine st_v (rv_pick rfl rfl rfl) (by decide) ?_
          refine st_nil ?_
          exact st_meet_b (SubE.cons rfl (SubE.cons rfl (SubE.nil _)))
        · -- false
          refine st_gskip rfl rfl rfl (by decide) ?_
          refine st_gskip rfl rfl rfl (by decide) ?_
          first | refine st_v (rv_pick_true rfl rfl) (by decide) ?_ | refine st_v (rv_pick_false rfl rfl) (by decide) ?_ | refine st_v (rv_pick rfl rfl rfl) (by decide) ?_
          refine st_nil ?_
          exact st_meet_b (SubE.cons rfl (SubE.cons rfl (SubE.nil _)))
        refine st_v (rv_move rfl) (by decide) ?_
        refine' st_and 3 (L := _) (s := 134) (d := 137) [] rfl (fun hg13 => ?_) (fun _ => ?_) ?_; rotate_left
        · -- true
          try simp only [decide_eq_true_eq, decide_eq_false_iff_not, Bool.and_eq_true, Bool.not_eq_true] at hg13
          refine st_gon rfl rfl ?_
          refine st_v (rv_move rfl) (by decide) ?_
          refine st_gon rfl rfl ?_
          refine st_v (rv_eqlZ rfl rfl) (by decide) ?_
          first | refine st_v (rv_pick_true rfl rfl) (by decide) ?_ | refine st_v (rv_pick_false rfl rfl) (by decide) ?_ | refine st_v (rv_pick rfl rfl rfl) (by decide) ?_
          refine st_nil ?_
          exact st_meet_b (SubE.cons rfl (SubE.nil _))
        · -- false
          refine st_gskip rfl rfl rfl (by decide) ?_
          refine st_gskip rfl rfl rfl (by decide) ?_
          first | refine st_v (rv_pick_true rfl rfl) (by decide) ?_ | refine st_v (rv_pick_false rfl rfl) (by decide) ?_ | refine st_v (rv_pick rfl rfl rfl) (by decide) ?_
          refine st_nil ?_
          exact st_meet_b (SubE.cons rfl (SubE.nil _))
        refine st_v (rv_assign rfl) (by decide) ?_
        refine st_nil ?_
        refine st_then ?_
        refine st_ret ?_
        refine st_then_ret ?_
        exact st_done rfl rfl (fun w hM => ⟨by simp [sOut, oOut, sErr, oErr, ho], hM.sublist (List.nil_sublist _)⟩)
      · -- t121 False
        try simp only [decide_eq_true_eq, decide_eq_false_iff_not, Bool.and_eq_true, Bool.or_eq_true, Bool.and_eq_false_iff, Bool.or_eq_false_iff, Bool.not_eq_true, Bool.not_eq_eq_eq_not, Bool.not_true, Bool.not_false, Int.not_lt, Int.not_le, ne_eq, Decidable.not_not] at hc121
        have hnon : nonce.length = 12 := by omega
        obtain ⟨nk, hnk⟩ : ∃ nk, key.length / 4 = nk := ⟨_, rfl⟩
        have hnk4 : nk = 4 ∨ nk = 8 := by omega
        have hkey : key.length = 4 * nk := by omega
        have ho := sOk_of key nonce nk hnk4 hkey hnon
        refine st_skip ?_
        refine st_then ?_
        refine st_seq ?_
        refine st_region ?_
        refine st_v (rv_move rfl) (by decide) ?_
        refine st_call1 (ρ := Nat × Value × Value × List Value) (fun r => pt r.1 0) (fun r => r.2.2.2.length = 4 * (nk + 7)) (fun r => [cipA r.1 48 r.2.1 r.2.2.1 r.2.2.2 (mS key (boxR 256) nk (4 * (nk + 7))) (boxR 256)]) cal10 rfl (fun w hM => (make_calls key nk hnk4 hkey w).mono fun e w' ⟨c, vk, vb, vs, h1, h2, h3⟩ => ⟨(c, vk, vb, vs), h1, h2, h3⟩) (by decide) (fun r8 hr8 => ?_)
        refine st_v (rv_assign rfl) (by decide) ?_
        refine st_nil ?_
        refine st_then ?_
        refine st_seq ?_
        refine st_region ?_
        refine st_v (rv_move rfl) (by decide) ?_
        refine st_v (rv_move rfl) (by decide) ?_
        refine st_v (rv_move rfl) (by decide) ?_
        refine st_v (rv_move rfl) (by decide) ?_
        refine st_call0 cal14 rfl (fun w hM => rseal_calls _ _ _ _ _ _ _ nonce hnon adj text (by omega) (by omega) w  (mkCip hnk4 hkey hr8 (hM.holds _ (List.mem_of_getElem? (i := 0) rfl)))) (by decide) ?_
        refine st_v (rv_assign rfl) (by decide) ?_
        refine st_nil ?_
        refine st_then ?_
        refine st_seq ?_
        refine st_seq ?_
        refine st_region ?_
        refine st_v (rv_move rfl) (by decide) ?_
        refine st_v (rv_string (rd_own (i := 3) rfl) Tryd.underlying22 Tryd.underlying9 Tryd.underlying5 rfl) (by decide) ?_
        refine st_v (rv_move rfl) (by decide) ?_
        refine st_v (rv_to (u := .bool false) (rv_neqB rfl rfl) (by rw [sOut_same key nonce adj text nk hnk4 hkey hnon]; simp)) (by decide) ?_
        refine st_v (rv_move rfl) (by decide) ?_
        refine' st_or 3 (L := _) (s := 149) (d := 152) [1, 2, 3, 14, 15, 21] rfl (fun hg5 => ?_) (fun _ => ?_) ?_; rotate_left
        · -- true
          refine st_gskip rfl rfl rfl (by decide) ?_
          refine st_gskip rfl rfl rfl (by decide) ?_
          first | refine st_v (rv_pick_true rfl rfl) (by decide) ?_ | refine st_v (rv_pick_false rfl rfl) (by decide) ?_ | refine st_v (rv_pick rfl rfl rfl) (by decide) ?_
          refine st_nil ?_
          exact st_meet_b (SubE.cons rfl (SubE.cons rfl (SubE.cons rfl (SubE.cons rfl (SubE.cons rfl (SubE.cons rfl (SubE.cons rfl (SubE.nil _))))))))
        · -- false
          refine st_gon rfl rfl ?_
          refine st_v (rv_move rfl) (by decide) ?_
          refine st_gon rfl rfl ?_
          refine st_v (rv_to (u := .bool false) (rv_neqZ rfl rfl) (by simp [sErr, ho])) (by decide) ?_
          first | refine st_v (rv_pick_true rfl rfl) (by decide) ?_ | refine st_v (rv_pick_false rfl rfl) (by decide) ?_ | refine st_v (rv_pick rfl rfl rfl) (by decide) ?_
          refine st_nil ?_
          exact st_meet_b (SubE.cons rfl (SubE.cons rfl (SubE.cons rfl (SubE.cons rfl (SubE.cons rfl (SubE.cons rfl (SubE.cons rfl (SubE.nil _))))))))
        refine st_nil ?_
        refine st_then ?_
        refine st_false rfl ?_
        refine st_skip ?_
        refine st_then ?_
        refine st_seq ?_
        refine st_region ?_
        refine st_v (rv_move rfl) (by decide) ?_
        refine st_v (rv_move rfl) (by decide) ?_
        refine st_v (rv_move rfl) (by decide) ?_
        refine st_v (rv_move rfl) (by decide) ?_
        refine st_call0 cal15 rfl (fun w hM => ropen2_calls _ _ _ _ key nonce adj text nk hnk4 hkey hnon (by omega) (by omega) w  (mkCip hnk4 hkey hr8 (hM.holds _ (List.mem_of_getElem? (i := 0) rfl)))) (by decide) ?_
        refine st_v (rv_move rfl) (by decide) ?_
        refine st_v (rv_extract rfl rfl) (by decide) ?_
        refine st_v (rv_extract rfl rfl) (by decide) ?_
        refine st_v (rv_assign rfl) (by decide) ?_
        refine st_v (rv_assign rfl) (by decide) ?_
        refine st_nil ?_
        refine st_then ?_
        refine st_seq ?_
        refine st_seq ?_
        refine st_region ?_
        refine st_v (rv_move rfl) (by decide) ?_
        refine st_v (rv_not rfl) (by decide) ?_
        refine st_nil ?_
        refine st_then ?_
        refine st_cond rfl (fun hc162 => ?_) (fun hc162 => ?_)
        · -- t162 True
          try simp only [decide_eq_true_eq, decide_eq_false_iff_not, Bool.and_eq_true, Bool.or_eq_true, Bool.and_eq_false_iff, Bool.or_eq_false_iff, Bool.not_eq_true, Bool.not_eq_eq_eq_not, Bool.not_true, Bool.not_false, Int.not_lt, Int.not_le, ne_eq, Decidable.not_not] at hc162
          have hp : opens key nonce adj text = false := by simpa using hc162
          refine st_seq ?_
          refine st_region ?_
          refine st_v (rv_move rfl) (by decide) ?_
          refine st_v (rv_lenR (rd_own (i := 1) rfl) Tryd.underlying22 rfl) (by decide) ?_
          refine st_v (rv_eqlZ rfl rfl) (by decide) ?_
          refine st_v (rv_move rfl) (by decide) ?_
          refine' st_and 3 (L := _) (s := 166) (d := 169) [] rfl (fun hg4 => ?_) (fun _ => ?_) ?_; rotate_left
          · -- true
            try simp only [decide_eq_true_eq, decide_eq_false_iff_not, Bool.and_eq_true, Bool.not_eq_true] at hg4
            refine st_gon rfl rfl ?_
            refine st_v (rv_move rfl) (by decide) ?_
            refine st_gon rfl rfl ?_
            refine st_v (rv_eqlZ rfl rfl) (by decide) ?_
            first | refine st_v (rv_pick_true rfl rfl) (by decide) ?_ | refine st_v (rv_pick_false rfl rfl) (by decide) ?_ | refine st_v (rv_pick rfl rfl rfl) (by decide) ?_
            refine st_nil ?_
            exact st_meet_b (SubE.cons rfl (SubE.nil _))
          · -- false
            refine st_gskip rfl rfl rfl (by decide) ?_
            refine st_gskip rfl rfl rfl (by decide) ?_
            first | refine st_v (rv_pick_true rfl rfl) (by decide) ?_ | refine st_v (rv_pick_false rfl rfl) (by decide) ?_ | refine st_v (rv_pick rfl rfl rfl) (by decide) ?_
            refine st_nil ?_
            exact st_meet_b (SubE.cons rfl (SubE.nil _))
          refine st_v (rv_assign rfl) (by decide) ?_
          refine st_nil ?_
          refine st_then ?_
          refine st_ret ?_
          refine st_then_ret ?_
          exact st_done rfl rfl (fun w hM => ⟨by simp [oOut, oErr, ho, hp], hM.sublist (List.nil_sublist _)⟩)
        · -- t162 False
          try simp only [decide_eq_true_eq, decide_eq_false_iff_not, Bool.and_eq_true, Bool.or_eq_true, Bool.and_eq_false_iff, Bool.or_eq_false_iff, Bool.not_eq_true, Bool.not_eq_eq_eq_not, Bool.not_true, Bool.not_false, Int.not_lt, Int.not_le, ne_eq, Decidable.not_not] at hc162
          have hp : opens key nonce adj text = true := by simpa using hc162
          refine st_skip ?_
          refine st_then ?_
          refine st_seq ?_
          refine st_region ?_
          refine st_v (rv_move rfl) (by decide) ?_
          refine st_v (rv_string (rd_own (i := 1) rfl) Tryd.underlying22 Tryd.underlying9 Tryd.underlying5 rfl) (by decide) ?_
          refine st_v (rv_move rfl) (by decide) ?_
          refine st_v (rv_eqlB rfl rfl) (by decide) ?_
          refine st_v (rv_move rfl) (by decide) ?_
          refine' st_and 3 (L := _) (s := 174) (d := 177) [] rfl (fun hg5 => ?_) (fun _ => ?_) ?_; rotate_left
          · -- true
            try simp only [decide_eq_true_eq, decide_eq_false_iff_not, Bool.and_eq_true, Bool.not_eq_true] at hg5
            refine st_gon rfl rfl ?_
            refine st_v (rv_move rfl) (by decide) ?_
            refine st_gon rfl rfl ?_
            refine st_v (rv_eqlZ rfl rfl) (by decide) ?_
            first | refine st_v (rv_pick_true rfl rfl) (by decide) ?_ | refine st_v (rv_pick_false rfl rfl) (by decide) ?_ | refine st_v (rv_pick rfl rfl rfl) (by decide) ?_
            refine st_nil ?_
            exact st_meet_b (SubE.cons rfl (SubE.nil _))
          · -- false
            refine st_gskip rfl rfl rfl (by decide) ?_
            refine st_gskip rfl rfl rfl (by decide) ?_
            first | refine st_v (rv_pick_true rfl rfl) (by decide) ?_ | refine st_v (rv_pick_false rfl rfl) (by decide) ?_ | refine st_v (rv_pick rfl rfl rfl) (by decide) ?_
            refine st_nil ?_
            exact st_meet_b (SubE.cons rfl (SubE.nil _))
          refine st_v (rv_assign rfl) (by decide) ?_
          refine st_nil ?_
          refine st_then ?_
          refine st_ret ?_
          exact st_done rfl rfl (fun w hM => ⟨by simp [oErr, ho, hp], hM.sublist (List.nil_sublist _)⟩)
end Go.Proofs.YtpihffpdkfkkhaaDoor
