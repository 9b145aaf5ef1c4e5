/- Walks: what functions of the given program do, operation by operation. Written by wip/gen. -/
import Derived.Test.YtpihffpdkfkkhaaDoorWS1
namespace Go.Proofs.YtpihffpdkfkkhaaDoor
set_option linter.all false
open Go
theorem newSealer_ok (v u : Value) (key nonce : List (BitVec 8)) (nk : Nat) (hnk : key.length / 4 = nk) (hl : key.length ≤ 100000) (w : World) (hT : Tab w) (hR : Rd w v key.length 1 (key.map U8)) (hk : (key.length = 16 ∨ key.length = 32)) (hnon : nonce.length = 12) (hN : Rd w u 12 1 (nonce.map U8))  : Calls Tryd.prog 22 #[v, u] w (fun e w' => ∃ r : Nat × Nat × Nat × Nat, e = .returned (.tuple #[pt r.1 0, .bool true]) ∧ True ∧ Mem (All w) w w' [blk r.1 #[sl r.2.1 r.2.2.1 (nk + 7) r.2.2.2, u] 63, rdA (sl r.2.1 r.2.2.1 (nk + 7) r.2.2.2) (nk + 7) 16 ((kS key nk (3 * nk + 28)).1.map U8)]) := by
  have hS0 : All w 0 := ⟨by have := hT.live; omega, fun h => h⟩
  have hS1 : All w 1 := ⟨by have := hT.live; omega, fun h => h⟩
  refine calls_of_st (n := 23) (args := [v, u]) Tryd.func22 rfl Tryd.ntmps22 (Nat.le_of_ble_eq_true rfl) (Mem.all w) ?_
  refine st_seq ?_
  refine st_region ?_
  refine st_v (rv_assign rfl) (by decide) ?_
  refine st_v (rv_assign rfl) (by decide) ?_
  refine st_nil ?_
  refine st_then ?_
  refine st_seq ?_
  refine st_region ?_
  refine st_v (rv_move rfl) (by decide) ?_
  refine st_call1 (ρ := Nat × Nat × Nat) (fun r => sl r.1 r.2.1 (nk + 7) r.2.2) (fun _ => True) (fun r => [rdA (sl r.1 r.2.1 (nk + 7) r.2.2) (nk + 7) 16 ((kS key nk (3 * nk + 28)).1.map U8)]) cal16 rfl (fun w hM => newCipher_ok _ key nk hnk hk hl w (hT.at hM hS0 hS1) ((rd_old hR hR.all) w hM)) (by decide) (fun r1 _ => ?_)
  refine st_v (rv_move rfl) (by decide) ?_
  refine St.know (fun w hM => cells_rd ((rd_rd (i := 0) rfl) w hM)) (fun hcl15 => ?_)
  have hcl16 := cells_rd hN
  refine st_v (rv_buildStruct_of Tryd.underlying63 tyZ63 (places := [(0, 1), (1, 1)]) (by kernel_rfl) rfl (cs := #[_, _]) (by first | rfl | (simp only [fillL, hcl15, hcl16] <;> rfl))) (by decide) ?_
  refine st_box rfl (by decide) rfl (fun b2 hb2 => ?_)
  refine st_v (rv_assign rfl) (by decide) ?_
  refine st_nil ?_
  refine st_then ?_
  refine st_seq ?_
  refine st_region ?_
  refine st_v (rv_move rfl) (by decide) ?_
  refine st_v (rv_move rfl) (by decide) ?_
  refine st_v (rv_nilCheck rfl) (by decide) ?_
  refine st_v (rv_fieldAddr Tryd.underlying63 (fs := _) rfl sz40 rfl rfl) (by decide) ?_
  refine st_v (rv_load_blk tyS40 rfl (i := 0) rfl rfl) (by decide) ?_
  refine st_v (rv_neqNil Tryd.underlying40 rfl rfl) (by decide) ?_
  refine st_v (rv_move rfl) (by decide) ?_
  refine st_gon rfl rfl ?_
  refine st_v (rv_move rfl) (by decide) ?_
  refine st_gon rfl rfl ?_
  refine st_v (rv_lenR (rd_old hN hN.all) Tryd.underlying22 rfl) (by decide) ?_
  refine st_gon rfl rfl ?_
  refine st_v (rv_eqlZ rfl rfl) (by decide) ?_
  first | refine st_v (rv_pick_true rfl rfl) (by decide) ?_ | refine st_v (rv_pick_false rfl rfl) (by decide) ?_ | refine st_v (rv_pick rfl rfl rfl) (by decide) ?_
  refine st_v (rv_assign rfl) (by decide) ?_
  refine st_v (rv_assign rfl) (by decide) ?_
  refine st_nil ?_
  refine st_then ?_
  refine st_ret ?_
  exact st_done2 rfl rfl rfl (fun w hM => ⟨(b2, r1.1, r1.2.1, r1.2.2), rfl, trivial, hM⟩)
theorem newSealer_bad1 (v u : Value) (key nonce : List (BitVec 8)) (nk : Nat) (hnk : key.length / 4 = nk) (hl : key.length ≤ 100000) (w : World) (hT : Tab w) (hR : Rd w v key.length 1 (key.map U8)) (hN : Rd w u nonce.length 1 (nonce.map U8)) (hk : ¬ (key.length = 16 ∨ key.length = 32)) : Calls Tryd.prog 22 #[v, u] w (fun e w' => ∃ b, e = .returned (.tuple #[pt b 0, .bool false]) ∧ Mem (All w) w w' []) := by
  have hS0 : All w 0 := ⟨by have := hT.live; omega, fun h => h⟩
  have hS1 : All w 1 := ⟨by have := hT.live; omega, fun h => h⟩
  refine calls_of_st (n := 23) (args := [v, u]) Tryd.func22 rfl Tryd.ntmps22 (Nat.le_of_ble_eq_true rfl) (Mem.all w) ?_
  refine st_seq ?_
  refine st_region ?_
  refine st_v (rv_assign rfl) (by decide) ?_
  refine st_v (rv_assign rfl) (by decide) ?_
  refine st_nil ?_
  refine st_then ?_
  refine st_seq ?_
  refine st_region ?_
  refine st_v (rv_move rfl) (by decide) ?_
  refine st_call0 cal16 rfl (fun w hM => newCipher_bad _ key hk hl w (hT.at hM hS0 hS1) ((rd_old hR hR.all) w hM)) (by decide) ?_
  refine st_v (rv_move rfl) (by decide) ?_
  have hcl15 := cells_rd hN
  refine st_v (rv_buildStruct_of Tryd.underlying63 tyZ63 (places := [(0, 1), (1, 1)]) (by kernel_rfl) rfl (cs := #[_, _]) (by first | rfl | (simp only [fillL, hcl15] <;> rfl))) (by decide) ?_
  refine st_box rfl (by decide) rfl (fun b1 hb1 => ?_)
  refine st_v (rv_assign rfl) (by decide) ?_
  refine st_nil ?_
  refine st_then ?_
  refine st_seq ?_
  refine st_region ?_
  refine st_v (rv_move rfl) (by decide) ?_
  refine st_v (rv_move rfl) (by decide) ?_
  refine st_v (rv_nilCheck rfl) (by decide) ?_
  refine st_v (rv_fieldAddr Tryd.underlying63 (fs := _) rfl sz40 rfl rfl) (by decide) ?_
  refine st_v (rv_load_blk tyS40 rfl (i := 0) rfl rfl) (by decide) ?_
  refine st_v (rv_neqNil Tryd.underlying40 rfl rfl) (by decide) ?_
  refine st_v (rv_move rfl) (by decide) ?_
  refine st_gskip rfl rfl rfl (by decide) ?_
  refine st_gskip rfl rfl rfl (by decide) ?_
  refine st_gskip rfl rfl rfl (by decide) ?_
  first | refine st_v (rv_pick_true rfl rfl) (by decide) ?_ | refine st_v (rv_pick_false rfl rfl) (by decide) ?_ | refine st_v (rv_pick rfl rfl rfl) (by decide) ?_
  refine st_v (rv_assign rfl) (by decide) ?_
  refine st_v (rv_assign rfl) (by decide) ?_
  refine st_nil ?_
  refine st_then ?_
  refine st_ret ?_
  exact st_done2 rfl rfl rfl (fun w hM => ⟨_, rfl, hM.sublist (List.nil_sublist _)⟩)
theorem newSealer_bad2 (v u : Value) (key nonce : List (BitVec 8)) (nk : Nat) (hnk : key.length / 4 = nk) (hl : key.length ≤ 100000) (w : World) (hT : Tab w) (hR : Rd w v key.length 1 (key.map U8)) (hN : Rd w u nonce.length 1 (nonce.map U8)) (hk : (key.length = 16 ∨ key.length = 32)) (hnon : ¬ nonce.length = 12) : Calls Tryd.prog 22 #[v, u] w (fun e w' => ∃ b, e = .returned (.tuple #[pt b 0, .bool false]) ∧ Mem (All w) w w' []) := by
  have hS0 : All w 0 := ⟨by have := hT.live; omega, fun h => h⟩
  have hS1 : All w 1 := ⟨by have := hT.live; omega, fun h => h⟩
  refine calls_of_st (n := 23) (args := [v, u]) Tryd.func22 rfl Tryd.ntmps22 (Nat.le_of_ble_eq_true rfl) (Mem.all w) ?_
  refine st_seq ?_
  refine st_region ?_
  refine st_v (rv_assign rfl) (by decide) ?_
  refine st_v (rv_assign rfl) (by decide) ?_
  refine st_nil ?_
  refine st_then ?_
  refine st_seq ?_
  refine st_region ?_
  refine st_v (rv_move rfl) (by decide) ?_
  refine st_call1 (ρ := Nat × Nat × Nat) (fun r => sl r.1 r.2.1 (nk + 7) r.2.2) (fun _ => True) (fun r => [rdA (sl r.1 r.2.1 (nk + 7) r.2.2) (nk + 7) 16 ((kS key nk (3 * nk + 28)).1.map U8)]) cal16 rfl (fun w hM => newCipher_ok _ key nk hnk hk hl w (hT.at hM hS0 hS1) ((rd_old hR hR.all) w hM)) (by decide) (fun r1 _ => ?_)
  refine st_v (rv_move rfl) (by decide) ?_
  refine St.know (fun w hM => cells_rd ((rd_rd (i := 0) rfl) w hM)) (fun hcl15 => ?_)
  have hcl16 := cells_rd hN
  refine st_v (rv_buildStruct_of Tryd.underlying63 tyZ63 (places := [(0, 1), (1, 1)]) (by kernel_rfl) rfl (cs := #[_, _]) (by first | rfl | (simp only [fillL, hcl15, hcl16] <;> rfl))) (by decide) ?_
  refine st_box rfl (by decide) rfl (fun b2 hb2 => ?_)
  refine st_v (rv_assign rfl) (by decide) ?_
  refine st_nil ?_
  refine st_then ?_
  refine st_seq ?_
  refine st_region ?_
  refine st_v (rv_move rfl) (by decide) ?_
  refine st_v (rv_move rfl) (by decide) ?_
  refine st_v (rv_nilCheck rfl) (by decide) ?_
  refine st_v (rv_fieldAddr Tryd.underlying63 (fs := _) rfl sz40 rfl rfl) (by decide) ?_
  refine st_v (rv_load_blk tyS40 rfl (i := 0) rfl rfl) (by decide) ?_
  refine st_v (rv_neqNil Tryd.underlying40 rfl rfl) (by decide) ?_
  refine st_v (rv_move rfl) (by decide) ?_
  refine st_gon rfl rfl ?_
  refine st_v (rv_move rfl) (by decide) ?_
  refine st_gon rfl rfl ?_
  refine st_v (rv_lenR (rd_old hN hN.all) Tryd.underlying22 rfl) (by decide) ?_
  refine st_gon rfl rfl ?_
  refine st_v (rv_to (u := .bool false) (rv_eqlZ rfl rfl) (by simp <;> omega)) (by decide) ?_
  first | refine st_v (rv_pick_true rfl rfl) (by decide) ?_ | refine st_v (rv_pick_false rfl rfl) (by decide) ?_ | refine st_v (rv_pick rfl rfl rfl) (by decide) ?_
  refine st_v (rv_assign rfl) (by decide) ?_
  refine st_v (rv_assign rfl) (by decide) ?_
  refine st_nil ?_
  refine st_then ?_
  refine st_ret ?_
  exact st_done2 rfl rfl rfl (fun w hM => ⟨_, rfl, hM.sublist (List.nil_sublist _)⟩)
theorem newSealer_bad (v u : Value) (key nonce : List (BitVec 8)) (nk : Nat) (hnk : key.length / 4 = nk) (hl : key.length ≤ 100000) (w : World) (hT : Tab w) (hR : Rd w v key.length 1 (key.map U8)) (hN : Rd w u nonce.length 1 (nonce.map U8)) (hk : ¬ ((key.length = 16 ∨ key.length = 32) ∧ nonce.length = 12)) :
    Calls Tryd.prog 22 #[v, u] w (fun e w' => ∃ b, e = .returned (.tuple #[pt b 0, .bool false]) ∧ Mem (All w) w w' []) := by
  by_cases h : (key.length = 16 ∨ key.length = 32)
  · exact newSealer_bad2 v u key nonce nk hnk hl w hT hR hN h (fun hn => hk ⟨h, hn⟩)
  · exact newSealer_bad1 v u key nonce nk hnk hl w hT hR hN h
theorem seal_bad (v u y x : Value) (key nonce adj text : List (BitVec 8)) (nk : Nat) (hnk : key.length / 4 = nk) (hl : key.length ≤ 100000) (ha : adj.length ≤ 1000000) (ht : text.length ≤ 900000) (w : World) (hT : Tab w) (hR : Rd w v key.length 1 (key.map U8)) (hk : ¬ ((key.length = 16 ∨ key.length = 32) ∧ nonce.length = 12)) (hN : Rd w u nonce.length 1 (nonce.map U8)) (hY : Rd w y adj.length 1 (adj.map U8)) (hX : Rd w x text.length 1 (text.map U8))  : Calls Tryd.prog 12 #[v, u, y, x] w (fun e w' => e = .returned (.tuple #[nilS, vI 2]) ∧ Mem (All w) w w' []) := by
  have hS0 : All w 0 := ⟨by have := hT.live; omega, fun h => h⟩
  have hS1 : All w 1 := ⟨by have := hT.live; omega, fun h => h⟩
  refine calls_of_st (n := 32) (args := [v, u, y, x]) Tryd.func12 rfl Tryd.ntmps12 (Nat.le_of_ble_eq_true rfl) (Mem.all w) ?_
  refine st_seq ?_
  refine st_region ?_
  refine st_v (rv_assign rfl) (by decide) ?_
  refine st_v (rv_assign rfl) (by decide) ?_
  refine st_nil ?_
  refine st_then ?_
  refine st_seq ?_
  refine st_region ?_
  refine st_v (rv_move rfl) (by decide) ?_
  refine st_v (rv_move rfl) (by decide) ?_
  refine st_call1 (ρ := Nat) (fun r => .tuple #[pt r 0, .bool false]) (fun _ => True) (fun r => []) cal22 rfl (fun w hM => (newSealer_bad _ _ key nonce nk hnk hl w (hT.at hM hS0 hS1) ((rd_old hR hR.all) w hM) ((rd_old hN hN.all) w hM) hk).mono fun e w' ⟨b, h1, h2⟩ => ⟨b, h1, trivial, h2⟩) (by decide) (fun b1 _ => ?_)
  refine st_v (rv_move rfl) (by decide) ?_
  refine st_v (rv_extract rfl rfl) (by decide) ?_
  refine st_v (rv_extract rfl rfl) (by decide) ?_
  refine st_v (rv_assign rfl) (by decide) ?_
  refine st_v (rv_assign rfl) (by decide) ?_
  refine st_nil ?_
  refine st_then ?_
  refine st_seq ?_
  refine st_seq ?_
  refine st_region ?_
  refine st_v (rv_move rfl) (by decide) ?_
  refine st_v (rv_not rfl) (by decide) ?_
  refine st_nil ?_
  refine st_then ?_
  refine st_true rfl ?_
  refine st_seq ?_
  refine st_region ?_
  refine st_v (rv_assign rfl) (by decide) ?_
  refine st_v (rv_assign rfl) (by decide) ?_
  refine st_nil ?_
  refine st_then ?_
  refine st_ret ?_
  refine st_then_ret ?_
  exact st_done2 rfl rfl rfl (fun w hM => ⟨rfl, hM⟩)
set_option maxHeartbeats 1000000 in
theorem seal_ok (v u y x : Value) (key nonce adj text : List (BitVec 8)) (nk : Nat) (hnk : key.length / 4 = nk) (hl : key.length ≤ 100000) (ha : adj.length ≤ 1000000) (ht : text.length ≤ 900000) (w : World) (hT : Tab w) (hR : Rd w v key.length 1 (key.map U8)) (hk : (key.length = 16 ∨ key.length = 32)) (hnon : nonce.length = 12) (hN : Rd w u 12 1 (nonce.map U8)) (hY : Rd w y adj.length 1 (adj.map U8)) (hX : Rd w x text.length 1 (text.map U8))  : Calls Tryd.prog 12 #[v, u, y, x] w (fun e w' => ∃ u, e = .returned (.tuple #[u, vI 0]) ∧ Mem (All w) w w' [own u 5 1 (text.length + 16) ((turnL (kS key nk (3 * nk + 28)).1 (nk + 7) nonce text text.length ++ tagL (kS key nk (3 * nk + 28)).1 (nk + 7) nonce adj (turnL (kS key nk (3 * nk + 28)).1 (nk + 7) nonce text text.length)).map U8)]) := by
  have hS0 : All w 0 := ⟨by have := hT.live; omega, fun h => h⟩
  have hS1 : All w 1 := ⟨by have := hT.live; omega, fun h => h⟩
  refine calls_of_st (n := 32) (args := [v, u, y, x]) Tryd.func12 rfl Tryd.ntmps12 (Nat.le_of_ble_eq_true rfl) (Mem.all w) ?_
  refine st_seq ?_
  refine st_region ?_
  refine st_v (rv_assign rfl) (by decide) ?_
  refine st_v (rv_assign rfl) (by decide) ?_
  refine st_nil ?_
  refine st_then ?_
  refine st_seq ?_
  refine st_region ?_
  refine st_v (rv_move rfl) (by decide) ?_
  refine st_v (rv_move rfl) (by decide) ?_
  refine st_call1 (ρ := Nat × Nat × Nat × Nat) (fun r => .tuple #[pt r.1 0, .bool true]) (fun _ => True) (fun r => [blk r.1 #[sl r.2.1 r.2.2.1 (nk + 7) r.2.2.2, u] 63, rdA (sl r.2.1 r.2.2.1 (nk + 7) r.2.2.2) (nk + 7) 16 ((kS key nk (3 * nk + 28)).1.map U8)]) cal22 rfl (fun w hM => newSealer_ok _ _ key nonce nk hnk hl w (hT.at hM hS0 hS1) ((rd_old hR hR.all) w hM) hk hnon ((rd_old hN hN.all) w hM)) (by decide) (fun r2 _ => ?_)
  refine st_v (rv_move rfl) (by decide) ?_
  refine st_v (rv_extract rfl rfl) (by decide) ?_
  refine st_v (rv_extract rfl rfl) (by decide) ?_
  refine st_v (rv_assign rfl) (by decide) ?_
  refine st_v (rv_assign rfl) (by decide) ?_
  refine st_nil ?_
  refine st_then ?_
  refine st_seq ?_
  refine st_seq ?_
  refine st_region ?_
  refine st_v (rv_move rfl) (by decide) ?_
  refine st_v (rv_not rfl) (by decide) ?_
  refine st_nil ?_
  refine st_then ?_
  refine st_false rfl ?_
  refine st_skip ?_
  refine st_then ?_
  refine st_seq ?_
  refine st_region ?_
  refine st_v (rv_move rfl) (by decide) ?_
  refine st_v (rv_move rfl) (by decide) ?_
  refine st_callV cal23 rfl (fun w hM => turn_calls _ _ _ (nk + 7) (kS key nk (3 * nk + 28)).1 nonce (by omega) (by rw [length_kS]; omega) hnon _ text (by first | omega | (simp <;> omega)) w (hT.at hM hS0 hS1) ((hM.blkAt (i := 0) rfl).imp fun _ h => h.1) ((rd_rd (i := 1) rfl) w hM) ((rd_old hN hN.all) w hM) (Rd.n_eq ((rd_old hX hX.all) w hM) (by first | rfl | (simp <;> omega)))) (by decide) (fun v3 => ?_)
  refine st_v (rv_assign rfl) (by decide) ?_
  refine st_nil ?_
  refine st_then ?_
  refine st_seq ?_
  refine st_region ?_
  refine st_v (rv_move rfl) (by decide) ?_
  refine st_v (rv_move rfl) (by decide) ?_
  refine st_v (rv_move rfl) (by decide) ?_
  refine st_call0 cal24 rfl (fun w hM => tag_calls _ _ _ (nk + 7) (kS key nk (3 * nk + 28)).1 nonce (by omega) (by rw [length_kS]; omega) hnon _ _ adj (turnL (kS key nk (3 * nk + 28)).1 (nk + 7) nonce text text.length) (by omega) (by first | omega | (simp [length_turnL] <;> omega)) w (hT.at hM hS0 hS1) ((hM.blkAt (i := 1) rfl).imp fun _ h => h.1) ((rd_rd (i := 2) rfl) w hM) ((rd_old hN hN.all) w hM) ((rd_old hY hY.all) w hM) (Rd.n_eq ((rd_own (i := 0) rfl) w hM) (by first | rfl | (simp [length_turnL] <;> omega)))) (by decide) ?_
  refine st_alloc tyZ43 (by decide) (cs := c8 (List.replicate 16 0#8)) (rfl) (fun b4 hb4 => ?_)
  refine st_storeW8 rfl rfl (i := 0) rfl sz43 (by first | omega | (simp [length_turnL, length_tagL _ _ _ _ _ hnon]; done) | (simp [length_turnL, length_tagL _ _ _ _ _ hnon] <;> omega)) (by first | omega | (simp [length_turnL, length_tagL _ _ _ _ _ hnon]; done) | (simp [length_turnL, length_tagL _ _ _ _ _ hnon] <;> omega)) (l' := [_, _, _, _]) rfl ?_
  refine st_nil ?_
  refine st_then ?_
  refine st_seq ?_
  refine st_region ?_
  refine st_v (rv_move rfl) (by decide) ?_
  refine st_v (rv_sliceA Tryd.underlying43 sz5 rfl evB_none evB_none (by omega) (by omega) (by decide) rfl) (by decide) ?_
  refine st_append8 Tryd.underlying22 Tryd.underlying22 (.inr ⟨_, rfl⟩) tyZ5 rfl rfl rfl (i := 1) rfl (fun w hM => src_rd ((rd_w8 (i := 0) rfl (by first | omega | (simp [length_turnL, length_tagL _ _ _ _ _ hnon]; done) | (simp [length_turnL, length_tagL _ _ _ _ _ hnon] <;> omega)) (by omega)) w hM) (one8 _)) (by first | omega | (simp [length_turnL] <;> omega)) (by first | omega | (simp [length_turnL] <;> omega)) (by decide) (fun v3 => ?_)
  refine st_v (rv_assign rfl) (by decide) ?_
  refine st_v (rv_assign rfl) (by decide) ?_
  refine st_nil ?_
  refine st_then ?_
  refine st_ret ?_
  exact st_done2 rfl rfl rfl (fun w hM => ⟨_, rfl, hM.sublist (List.Sublist.cons _ (List.cons_sublist_cons.2 (List.nil_sublist _)))⟩)
theorem open_bad (v u y x : Value) (key nonce adj text : List (BitVec 8)) (nk : Nat) (hnk : key.length / 4 = nk) (hl : key.length ≤ 100000) (ha : adj.length ≤ 1000000) (ht : text.length ≤ 900000) (w : World) (hT : Tab w) (hR : Rd w v key.length 1 (key.map U8)) (hk : ¬ ((key.length = 16 ∨ key.length = 32) ∧ nonce.length = 12)) (hN : Rd w u nonce.length 1 (nonce.map U8)) (hY : Rd w y adj.length 1 (adj.map U8)) (hX : Rd w x text.length 1 (text.map U8))  : Calls Tryd.prog 13 #[v, u, y, x] w (fun e w' => e = .returned (.tuple #[nilS, vI 2]) ∧ Mem (All w) w w' []) := by
  have hS0 : All w 0 := ⟨by have := hT.live; omega, fun h => h⟩
  have hS1 : All w 1 := ⟨by have := hT.live; omega, fun h => h⟩
  refine calls_of_st (n := 47) (args := [v, u, y, x]) Tryd.func13 rfl Tryd.ntmps13 (Nat.le_of_ble_eq_true rfl) (Mem.all w) ?_
  refine st_seq ?_
  refine st_region ?_
  refine st_v (rv_assign rfl) (by decide) ?_
  refine st_v (rv_assign rfl) (by decide) ?_
  refine st_nil ?_
  refine st_then ?_
  refine st_seq ?_
  refine st_region ?_
  refine st_v (rv_move rfl) (by decide) ?_
  refine st_v (rv_move rfl) (by decide) ?_
  refine st_call1 (ρ := Nat) (fun r => .tuple #[pt r 0, .bool false]) (fun _ => True) (fun r => []) cal22 rfl (fun w hM => (newSealer_bad _ _ key nonce nk hnk hl w (hT.at hM hS0 hS1) ((rd_old hR hR.all) w hM) ((rd_old hN hN.all) w hM) hk).mono fun e w' ⟨b, h1, h2⟩ => ⟨b, h1, trivial, h2⟩) (by decide) (fun b1 _ => ?_)
  refine st_v (rv_move rfl) (by decide) ?_
  refine st_v (rv_extract rfl rfl) (by decide) ?_
  refine st_v (rv_extract rfl rfl) (by decide) ?_
  refine st_v (rv_assign rfl) (by decide) ?_
  refine st_v (rv_assign rfl) (by decide) ?_
  refine st_nil ?_
  refine st_then ?_
  refine st_seq ?_
  refine st_region ?_
  refine st_v (rv_move rfl) (by decide) ?_
  refine st_v (rv_lenR (rd_old hX hX.all) Tryd.underlying22 rfl) (by decide) ?_
  first | refine st_v (rv_subN (b := 16) rfl rfl (by first | omega | (simp <;> omega))) (by decide) ?_ | refine st_v (rv_subZ rfl rfl (by first | omega | (simp <;> omega))) (by decide) ?_
  refine st_v (rv_assign rfl) (by decide) ?_
  refine st_nil ?_
  refine st_then ?_
  refine st_seq ?_
  refine st_block ?_
  refine st_seq ?_
  refine st_region ?_
  refine st_v (rv_move rfl) (by decide) ?_
  refine st_v (rv_not rfl) (by decide) ?_
  refine st_v (rv_assign rfl) (by decide) ?_
  refine st_nil ?_
  refine st_then ?_
  refine st_true rfl ?_
  refine st_seq ?_
  refine st_region ?_
  refine st_v (rv_assign rfl) (by decide) ?_
  refine st_v (rv_assign rfl) (by decide) ?_
  refine st_nil ?_
  refine st_then ?_
  refine st_ret ?_
  refine st_in_ret ?_
  refine st_then_ret ?_
  exact st_done2 rfl rfl rfl (fun w hM => ⟨rfl, hM⟩)
theorem open_short (v u y x : Value) (key nonce adj text : List (BitVec 8)) (nk : Nat) (hnk : key.length / 4 = nk) (hl : key.length ≤ 100000) (ha : adj.length ≤ 1000000) (ht : text.length ≤ 900000) (w : World) (hT : Tab w) (hR : Rd w v key.length 1 (key.map U8)) (hk : (key.length = 16 ∨ key.length = 32)) (hnon : nonce.length = 12) (hN : Rd w u 12 1 (nonce.map U8)) (hs : text.length < 16) (hY : Rd w y adj.length 1 (adj.map U8)) (hX : Rd w x text.length 1 (text.map U8))  : Calls Tryd.prog 13 #[v, u, y, x] w (fun e w' => e = .returned (.tuple #[nilS, vI 4]) ∧ Mem (All w) w w' []) := by
  have hS0 : All w 0 := ⟨by have := hT.live; omega, fun h => h⟩
  have hS1 : All w 1 := ⟨by have := hT.live; omega, fun h => h⟩
  refine calls_of_st (n := 47) (args := [v, u, y, x]) Tryd.func13 rfl Tryd.ntmps13 (Nat.le_of_ble_eq_true rfl) (Mem.all w) ?_
  refine st_seq ?_
  refine st_region ?_
  refine st_v (rv_assign rfl) (by decide) ?_
  refine st_v (rv_assign rfl) (by decide) ?_
  refine st_nil ?_
  refine st_then ?_
  refine st_seq ?_
  refine st_region ?_
  refine st_v (rv_move rfl) (by decide) ?_
  refine st_v (rv_move rfl) (by decide) ?_
  refine st_call1 (ρ := Nat × Nat × Nat × Nat) (fun r => .tuple #[pt r.1 0, .bool true]) (fun _ => True) (fun r => [blk r.1 #[sl r.2.1 r.2.2.1 (nk + 7) r.2.2.2, u] 63, rdA (sl r.2.1 r.2.2.1 (nk + 7) r.2.2.2) (nk + 7) 16 ((kS key nk (3 * nk + 28)).1.map U8)]) cal22 rfl (fun w hM => newSealer_ok _ _ key nonce nk hnk hl w (hT.at hM hS0 hS1) ((rd_old hR hR.all) w hM) hk hnon ((rd_old hN hN.all) w hM)) (by decide) (fun r2 _ => ?_)
  refine st_v (rv_move rfl) (by decide) ?_
  refine st_v (rv_extract rfl rfl) (by decide) ?_
  refine st_v (rv_extract rfl rfl) (by decide) ?_
  refine st_v (rv_assign rfl) (by decide) ?_
  refine st_v (rv_assign rfl) (by decide) ?_
  refine st_nil ?_
  refine st_then ?_
  refine st_seq ?_
  refine st_region ?_
  refine st_v (rv_move rfl) (by decide) ?_
  refine st_v (rv_lenR (rd_old hX hX.all) Tryd.underlying22 rfl) (by decide) ?_
  first | refine st_v (rv_subN (b := 16) rfl rfl (by first | omega | (simp <;> omega))) (by decide) ?_ | refine st_v (rv_subZ rfl rfl (by first | omega | (simp <;> omega))) (by decide) ?_
  refine st_v (rv_assign rfl) (by decide) ?_
  refine st_nil ?_
  refine st_then ?_
  refine st_seq ?_
  refine st_block ?_
  refine st_seq ?_
  refine st_region ?_
  refine st_v (rv_move rfl) (by decide) ?_
  refine st_v (rv_not rfl) (by decide) ?_
  refine st_v (rv_assign rfl) (by decide) ?_
  refine st_nil ?_
  refine st_then ?_
  refine st_false rfl ?_
  refine st_seq ?_
  refine st_drawStart mixed ?_
  refine st_drawOp [0, 1, 3, 7, 7, 7, 7, 103, 255, 7, 7, 1543, 3591, 7687, 16383, 32767, 65535] (by kernel_rfl) rfl ?_
  refine st_v (rv_move rfl) (by decide) ?_
  refine st_nil ?_
  refine st_then ?_
  refine st_drawOp [0, 1, 3, 7, 7, 7, 7, 103, 255, 7, 7, 1543, 3591, 7687, 16383, 32767, 65535] (by kernel_rfl) rfl ?_
  refine st_v (rv_to (u := .bool true) (rv_lssZ rfl rfl) (by simp <;> omega)) (by decide) ?_
  refine st_nil ?_
  refine st_then ?_
  refine st_drawOp [0, 1, 3, 7, 7, 7, 7, 103, 255, 7, 7, 1543, 3591, 7687, 16383, 32767, 65535] (by kernel_rfl) rfl ?_
  refine st_v (rv_move rfl) (by decide) ?_
  refine st_nil ?_
  refine st_then ?_
  refine st_drawSeg1 (E0 := [(2, _), (3, _), (10, _), (12, _), (28, _)]) [kany, kany, kany, kpeq _, kpeq _, kpeq _, kpeq _, kpeq _, kpeq _, kpeq _, kpeq _, kpeq _, kpeq _, kpeq _] 3 14 [0, 1, 3, 7, 7, 7, 7, 103, 255, 7, 7, 1543, 3591, 7687, 16383, 32767, 65535] [2, 3, 10, 12, 28] (by kernel_rfl) (by decide) (by kernel_rfl) (SubE.cons rfl (SubE.cons rfl (SubE.cons rfl (SubE.cons rfl (SubE.cons rfl (SubE.nil _)))))) rfl rfl (hall_skip rfl (hall_skip rfl (hall_skip rfl (hall_cons (hop_off (j := 2) [] rfl rfl rfl rfl rfl rfl (by decide) rfl (jnil)) (hall_cons (hop_off (j := 2) [] rfl rfl rfl rfl rfl rfl (by decide) rfl (jnil)) (hall_cons (hop_off (j := 2) [] rfl rfl rfl rfl rfl rfl (by decide) rfl (jnil)) (hall_cons (hop_off (j := 2) [] rfl rfl rfl rfl rfl rfl (by decide) rfl (jnil)) (hall_cons (hop_off (j := 2) [(5, 31, _), (6, 32, _)] rfl rfl rfl rfl rfl rfl (by decide) rfl (jcons rfl rfl rfl rfl rfl (jcons rfl rfl rfl rfl rfl (jnil)))) (hall_cons (hop_off (j := 2) [(3, 29, _), (4, 30, _), (7, 33, _)] rfl rfl rfl rfl rfl rfl (by decide) rfl (jcons rfl rfl rfl rfl rfl (jcons rfl rfl rfl rfl rfl (jcons rfl rfl rfl rfl rfl (jnil))))) (hall_cons (hop_off (j := 2) [] rfl rfl rfl rfl rfl rfl (by decide) rfl (jnil)) (hall_cons (hop_off (j := 2) [] rfl rfl rfl rfl rfl rfl (by decide) rfl (jnil)) (hall_cons (hop_off (j := 2) [(9, 35, _), (10, 36, _)] rfl rfl rfl rfl rfl rfl (by decide) rfl (jcons rfl rfl rfl rfl rfl (jcons rfl rfl rfl rfl rfl (jnil)))) (hall_cons (hop_off (j := 2) [(11, 37, _)] rfl rfl rfl rfl rfl rfl (by decide) rfl (jcons rfl rfl rfl rfl rfl (jnil))) (hall_cons (hop_off (j := 2) [(12, 38, _)] rfl rfl rfl rfl rfl rfl (by decide) rfl (jcons rfl rfl rfl rfl rfl (jnil))) (hall_nil))))))))))))))) (draw_end1 [(8, 34, _), (13, 39, _)] (jcons rfl rfl rfl rfl rfl (jcons rfl rfl rfl rfl rfl (jnil))) ?_)
  refine st_drawTail (N := 14) [0, 1, 3, 7, 7, 7, 7, 103, 255, 7, 7, 1543, 3591, 7687, 16383, 32767, 65535] (by kernel_rfl) (by kernel_rfl) ?_
  refine st_gskip rfl rfl rfl (by decide) ?_
  first | refine st_v (rv_pick_true rfl rfl) (by decide) ?_ | refine st_v (rv_pick_false rfl rfl) (by decide) ?_ | refine st_v (rv_pick rfl rfl rfl) (by decide) ?_
  refine st_v (rv_assign rfl) (by decide) ?_
  refine st_nil ?_
  refine st_then ?_
  refine st_true rfl ?_
  refine st_seq ?_
  refine st_region ?_
  refine st_v (rv_assign rfl) (by decide) ?_
  refine st_v (rv_assign rfl) (by decide) ?_
  refine st_nil ?_
  refine st_then ?_
  refine st_ret ?_
  refine st_in_ret ?_
  refine st_then_ret ?_
  exact st_done2 rfl rfl rfl (fun w hM => ⟨rfl, hM.sublist (List.nil_sublist _)⟩)
set_option maxHeartbeats 1000000 in
theorem open_long (v u y x : Value) (key nonce adj text : List (BitVec 8)) (nk : Nat) (hnk : key.length / 4 = nk) (hl : key.length ≤ 100000) (ha : adj.length ≤ 1000000) (ht : text.length ≤ 900000) (w : World) (hT : Tab w) (hR : Rd w v key.length 1 (key.map U8)) (hk : (key.length = 16 ∨ key.length = 32)) (hnon : nonce.length = 12) (hN : Rd w u 12 1 (nonce.map U8)) (hs : 16 ≤ text.length) (hY : Rd w y adj.length 1 (adj.map U8)) (hX : Rd w x text.length 1 (text.map U8))  : Calls Tryd.prog 13 #[v, u, y, x] w (fun e w' => (¬ tagL (kS key nk (3 * nk + 28)).1 (nk + 7) nonce adj (text.take (text.length - 16)) = (text.drop (text.length - 16)) ∧ e = .returned (.tuple #[nilS, vI 4]) ∧ Mem (All w) w w' []) ∨ (tagL (kS key nk (3 * nk + 28)).1 (nk + 7) nonce adj (text.take (text.length - 16)) = (text.drop (text.length - 16)) ∧ ∃ u, e = .returned (.tuple #[u, vI 0]) ∧ Mem (All w) w w' [own u 5 1 (text.take (text.length - 16)).length ((turnL (kS key nk (3 * nk + 28)).1 (nk + 7) nonce (text.take (text.length - 16)) (text.take (text.length - 16)).length).map U8)])) := by
  have hS0 : All w 0 := ⟨by have := hT.live; omega, fun h => h⟩
  have hS1 : All w 1 := ⟨by have := hT.live; omega, fun h => h⟩
  have e1 : ((text.drop 0).take ((text.length - 16) - 0)) = (text.take (text.length - 16)) := by simp
  have e2 : List.take 16 (List.drop 0 (List.take (text.length - (text.length - 16)) (List.drop (text.length - 16) text))) = (text.drop (text.length - 16)) := by (rw [List.drop_zero, List.take_of_length_le (by simp <;> omega), List.take_of_length_le (by simp <;> omega)])
  refine calls_of_st (n := 47) (args := [v, u, y, x]) Tryd.func13 rfl Tryd.ntmps13 (Nat.le_of_ble_eq_true rfl) (Mem.all w) ?_
  refine st_seq ?_
  refine st_region ?_
  refine st_v (rv_assign rfl) (by decide) ?_
  refine st_v (rv_assign rfl) (by decide) ?_
  refine st_nil ?_
  refine st_then ?_
  refine st_seq ?_
  refine st_region ?_
  refine st_v (rv_move rfl) (by decide) ?_
  refine st_v (rv_move rfl) (by decide) ?_
  refine st_call1 (ρ := Nat × Nat × Nat × Nat) (fun r => .tuple #[pt r.1 0, .bool true]) (fun _ => True) (fun r => [blk r.1 #[sl r.2.1 r.2.2.1 (nk + 7) r.2.2.2, u] 63, rdA (sl r.2.1 r.2.2.1 (nk + 7) r.2.2.2) (nk + 7) 16 ((kS key nk (3 * nk + 28)).1.map U8)]) cal22 rfl (fun w hM => newSealer_ok _ _ key nonce nk hnk hl w (hT.at hM hS0 hS1) ((rd_old hR hR.all) w hM) hk hnon ((rd_old hN hN.all) w hM)) (by decide) (fun r2 _ => ?_)
  refine st_v (rv_move rfl) (by decide) ?_
  refine st_v (rv_extract rfl rfl) (by decide) ?_
  refine st_v (rv_extract rfl rfl) (by decide) ?_
  refine st_v (rv_assign rfl) (by decide) ?_
  refine st_v (rv_assign rfl) (by decide) ?_
  refine st_nil ?_
  refine st_then ?_
  refine st_seq ?_
  refine st_region ?_
  refine st_v (rv_move rfl) (by decide) ?_
  refine st_v (rv_lenR (rd_old hX hX.all) Tryd.underlying22 rfl) (by decide) ?_
  first | refine st_v (rv_subN (b := 16) rfl rfl (by first | omega | (simp <;> omega))) (by decide) ?_ | refine st_v (rv_subZ rfl rfl (by first | omega | (simp <;> omega))) (by decide) ?_
  refine st_v (rv_assign rfl) (by decide) ?_
  refine st_nil ?_
  refine st_then ?_
  refine st_seq ?_
  refine st_block ?_
  refine st_seq ?_
  refine st_region ?_
  refine st_v (rv_move rfl) (by decide) ?_
  refine st_v (rv_not rfl) (by decide) ?_
  refine st_v (rv_assign rfl) (by decide) ?_
  refine st_nil ?_
  refine st_then ?_
  refine st_false rfl ?_
  refine st_seq ?_
  refine st_drawStart mixed ?_
  refine st_drawOp [0, 1, 3, 7, 7, 7, 7, 103, 255, 7, 7, 1543, 3591, 7687, 16383, 32767, 65535] (by kernel_rfl) rfl ?_
  refine st_v (rv_move rfl) (by decide) ?_
  refine st_nil ?_
  refine st_then ?_
  refine st_drawOp [0, 1, 3, 7, 7, 7, 7, 103, 255, 7, 7, 1543, 3591, 7687, 16383, 32767, 65535] (by kernel_rfl) rfl ?_
  refine st_v (rv_to (u := .bool false) (rv_lssZ rfl rfl) (by simp <;> omega)) (by decide) ?_
  refine st_nil ?_
  refine st_then ?_
  refine st_drawOp [0, 1, 3, 7, 7, 7, 7, 103, 255, 7, 7, 1543, 3591, 7687, 16383, 32767, 65535] (by kernel_rfl) rfl ?_
  refine st_v (rv_move rfl) (by decide) ?_
  refine st_nil ?_
  refine st_then ?_
  refine st_drawSeg1 (E0 := [(2, _), (3, _), (10, _), (12, _), (28, _)]) [kany, kany, kany, kpeq _, kpeq _, kpeq _, kpeq _, kpeq _, kpeq _, kpeq _, kpeq _, kpeq _, kpeq _, kpeq _] 3 14 [0, 1, 3, 7, 7, 7, 7, 103, 255, 7, 7, 1543, 3591, 7687, 16383, 32767, 65535] [2, 3, 10, 12, 28] (by kernel_rfl) (by decide) (by kernel_rfl) (SubE.cons rfl (SubE.cons rfl (SubE.cons rfl (SubE.cons rfl (SubE.cons rfl (SubE.nil _)))))) rfl rfl (hall_skip rfl (hall_skip rfl (hall_skip rfl (hall_cons (hop_on (j := 2) (b := false) [] [] rfl rfl rfl rfl rfl (by decide) rfl (jnil) (xnil) (fun _ _ _ _ => does_v (rv_move rfl))) (hall_cons (hop_on (j := 2) (b := false) [] [] rfl rfl rfl rfl rfl (by decide) rfl (jnil) (xnil) (fun _ _ _ _ => does_v (rv_move rfl))) (hall_cons (hop_on (j := 2) (b := false) [] [] rfl rfl rfl rfl rfl (by decide) rfl (jnil) (xnil) (fun _ _ _ _ => does_v (rv_move rfl))) (hall_cons (hop_on (j := 2) (b := false) [] [] rfl rfl rfl rfl rfl (by decide) rfl (jnil) (xnil) (fun _ _ _ _ => does_v (rv_move rfl))) (hall_cons (hop_on (j := 2) (b := false) [(5, 31, _), (6, 32, _)] [] rfl rfl rfl rfl rfl (by decide) rfl (jcons rfl rfl rfl rfl rfl (jcons rfl rfl rfl rfl rfl (jnil))) (xnil) (fun _ _ _ _ => does_v (rv_sliceR (rd_old hX hX.all) Tryd.underlying22 sz5 rfl evB_none (evB_some rfl rfl) (by first | omega | (simp [length_tagL _ _ _ _ _ hnon] <;> omega)) (by first | omega | (simp [length_tagL _ _ _ _ _ hnon] <;> omega))))) (hall_cons (hop_on (j := 2) (b := false) [(3, 29, _), (4, 30, _), (7, 33, _)] [] rfl rfl rfl rfl rfl (by decide) rfl (jcons rfl rfl rfl rfl rfl (jcons rfl rfl rfl rfl rfl (jcons rfl rfl rfl rfl rfl (jnil)))) (xnil) (fun _ _ _ _ => does_call0 cal24 rfl (fun w hM => tag_calls _ _ _ (nk + 7) (kS key nk (3 * nk + 28)).1 nonce (by omega) (by rw [length_kS]; omega) hnon _ _ adj ((text.drop 0).take ((text.length - 16) - 0)) (by omega) (by simp <;> omega) w (hT.at hM hS0 hS1) ((hM.blkAt (i := 0) rfl).imp fun _ h => h.1) ((rd_rd (i := 1) rfl) w hM) ((rd_old hN hN.all) w hM) ((rd_old hY hY.all) w hM) (Rd.n_eq ((fun w hM => ((rd_old hX hX.all) w hM).part8 (by first | omega | (simp [length_tagL _ _ _ _ _ hnon] <;> omega)) (by first | omega | (simp [length_tagL _ _ _ _ _ hnon] <;> omega))) w hM) (by first | rfl | (simp <;> omega)))))) (hall_cons (hop_on (j := 2) (b := false) [] [] rfl rfl rfl rfl rfl (by decide) rfl (jnil) (xnil) (fun _ _ _ _ => does_v (rv_move rfl))) (hall_cons (hop_on (j := 2) (b := false) [] [] rfl rfl rfl rfl rfl (by decide) rfl (jnil) (xnil) (fun _ _ _ _ => does_v (rv_move rfl))) (hall_cons (hop_on (j := 2) (b := false) [(9, 35, _), (10, 36, _)] [] rfl rfl rfl rfl rfl (by decide) rfl (jcons rfl rfl rfl rfl rfl (jcons rfl rfl rfl rfl rfl (jnil))) (xnil) (fun _ _ _ _ => does_v (rv_sliceR (rd_old hX hX.all) Tryd.underlying22 sz5 rfl (evB_some rfl rfl) evB_none (by first | omega | (simp [length_tagL _ _ _ _ _ hnon] <;> omega)) (by first | omega | (simp [length_tagL _ _ _ _ _ hnon] <;> omega))))) (hall_cons (hop_on (j := 2) (b := false) [(11, 37, _)] [] rfl rfl rfl rfl rfl (by decide) rfl (jcons rfl rfl rfl rfl rfl (jnil)) (xnil) (fun _ _ _ _ => does_v (rv_arrayAt (fun w hM => ((rd_old hX hX.all) w hM).part8 (by first | omega | (simp [length_tagL _ _ _ _ _ hnon] <;> omega)) (by first | omega | (simp [length_tagL _ _ _ _ _ hnon] <;> omega))) Tryd.underlying43 rfl (by first | omega | (simp [length_tagL _ _ _ _ _ hnon] <;> omega)) (by first | omega | (simp [length_tagL _ _ _ _ _ hnon] <;> omega))))) (hall_cons (hop_on (j := 2) (b := false) [(12, 38, _)] [] rfl rfl rfl rfl rfl (by decide) rfl (jcons rfl rfl rfl rfl rfl (jnil)) (xnil) (fun _ _ _ _ => does_v (rv_loadA_rd8 (off := 0) (fun w hM => ((rd_old hX hX.all) w hM).part8 (by first | omega | (simp [length_tagL _ _ _ _ _ hnon] <;> omega)) (by first | omega | (simp [length_tagL _ _ _ _ _ hnon] <;> omega))) tyA43 rfl (by first | omega | (simp [length_tagL _ _ _ _ _ hnon] <;> omega))))) (hall_nil))))))))))))))) (draw_end1 [(8, 34, _), (13, 39, _)] (jcons rfl rfl rfl rfl rfl (jcons rfl rfl rfl rfl rfl (jnil))) ?_)
  refine st_drawTail (N := 14) [0, 1, 3, 7, 7, 7, 7, 103, 255, 7, 7, 1543, 3591, 7687, 16383, 32767, 65535] (by kernel_rfl) (by kernel_rfl) ?_
  refine st_gon rfl rfl ?_
  refine st_v (rv_neqA8 Tryd.underlying43 Tryd.underlying5 sz5 (by first | omega | (simp [length_tagL _ _ _ _ _ hnon] <;> omega)) (by first | omega | (simp [length_tagL _ _ _ _ _ hnon] <;> omega)) (by kernel_rfl) rfl rfl) (by decide) ?_
  first | refine st_v (rv_pick_true rfl rfl) (by decide) ?_ | refine st_v (rv_pick_false rfl rfl) (by decide) ?_ | refine st_v (rv_pick rfl rfl rfl) (by decide) ?_
  refine st_v (rv_assign rfl) (by decide) ?_
  refine st_nil ?_
  refine st_then ?_
  refine st_cond rfl (fun hc25 => ?_) (fun hc25 => ?_)
  · -- t25 True
    try simp only [decide_eq_true_eq, decide_eq_false_iff_not, Bool.and_eq_true, Bool.or_eq_true, Bool.and_eq_false_iff, Bool.or_eq_false_iff, Bool.not_eq_true, Bool.not_eq_eq_eq_not, Bool.not_true, Bool.not_false, Int.not_lt, Int.not_le, ne_eq, Decidable.not_not] at hc25
    have hq : ¬ tagL (kS key nk (3 * nk + 28)).1 (nk + 7) nonce adj (text.take (text.length - 16)) = (text.drop (text.length - 16)) := by (rw [← e1, ← e2]; exact hc25)
    refine st_seq ?_
    refine st_region ?_
    refine st_v (rv_assign rfl) (by decide) ?_
    refine st_v (rv_assign rfl) (by decide) ?_
    refine st_nil ?_
    refine st_then ?_
    refine st_ret ?_
    refine st_in_ret ?_
    refine st_then_ret ?_
    exact st_done2 rfl rfl rfl (fun w hM => .inl ⟨hq, rfl, hM.sublist (List.nil_sublist _)⟩)
  · -- t25 False
    try simp only [decide_eq_true_eq, decide_eq_false_iff_not, Bool.and_eq_true, Bool.or_eq_true, Bool.and_eq_false_iff, Bool.or_eq_false_iff, Bool.not_eq_true, Bool.not_eq_eq_eq_not, Bool.not_true, Bool.not_false, Int.not_lt, Int.not_le, ne_eq, Decidable.not_not] at hc25
    have hq : tagL (kS key nk (3 * nk + 28)).1 (nk + 7) nonce adj (text.take (text.length - 16)) = (text.drop (text.length - 16)) := by (rw [← e1, ← e2]; exact hc25)
    refine st_skip ?_
    refine st_in_normal ?_
    refine st_then ?_
    refine st_seq ?_
    refine st_region ?_
    refine st_v (rv_move rfl) (by decide) ?_
    refine st_v (rv_move rfl) (by decide) ?_
    refine st_v (rv_move rfl) (by decide) ?_
    refine st_v (rv_sliceR (rd_old hX hX.all) Tryd.underlying22 sz5 rfl evB_none (evB_some rfl rfl) (by first | omega | (simp [length_tagL _ _ _ _ _ hnon] <;> omega)) (by first | omega | (simp [length_tagL _ _ _ _ _ hnon] <;> omega))) (by decide) ?_
    refine st_callV cal23 rfl (fun w hM => turn_calls _ _ _ (nk + 7) (kS key nk (3 * nk + 28)).1 nonce (by omega) (by rw [length_kS]; omega) hnon _ ((text.drop 0).take ((text.length - 16) - 0)) (by first | omega | (simp <;> omega)) w (hT.at hM hS0 hS1) ((hM.blkAt (i := 0) rfl).imp fun _ h => h.1) ((rd_rd (i := 1) rfl) w hM) ((rd_old hN hN.all) w hM) (Rd.n_eq (((rd_old hX hX.all) w hM).part8 (by first | omega | (simp [length_tagL _ _ _ _ _ hnon] <;> omega)) (by first | omega | (simp [length_tagL _ _ _ _ _ hnon] <;> omega))) (by first | rfl | (simp <;> omega)))) (by decide) (fun v3 => ?_)
    refine st_v (rv_assign rfl) (by decide) ?_
    refine st_v (rv_assign rfl) (by decide) ?_
    refine st_nil ?_
    refine st_then ?_
    refine st_ret ?_
    exact st_done2 rfl rfl rfl (fun w hM => .inr ⟨hq, _, rfl, by have h := hM.sublist (List.cons_sublist_cons.2 (List.nil_sublist _)); rw [e1] at h; exact h⟩)
theorem aesSeal_calls (v u y x : Value) (key nonce adj text : List (BitVec 8)) (hl : key.length ≤ 100000) (ha : adj.length ≤ 1000000) (ht : text.length ≤ 900000) (w : World) (hT : Tab w) (hR : Rd w v key.length 1 (key.map U8)) (hN : Rd w u nonce.length 1 (nonce.map U8)) (hY : Rd w y adj.length 1 (adj.map U8)) (hX : Rd w x text.length 1 (text.map U8)) :
    Calls Tryd.prog 12 #[v, u, y, x] w (fun e w' => ∃ r, e = .returned (.tuple #[r, vI (sErr key nonce)]) ∧ Mem (All w) w w' [own r 5 1 (sOut key nonce adj text).length ((sOut key nonce adj text).map U8)]) := by
  by_cases hk : (key.length = 16 ∨ key.length = 32) ∧ nonce.length = 12
  · have ho : sOk key nonce = true := by simp [sOk, hk]
    have hlen : (sOut key nonce adj text).length = text.length + 16 := by
      rw [sOut, if_pos ho, sealOut, List.length_append, length_turnL, length_tagL _ _ _ _ _ hk.2]
    rw [hlen, sErr, sOut, if_pos ho, if_pos ho]
    exact seal_ok v u y x key nonce adj text _ rfl hl ha ht w hT hR hk.1 hk.2 (by rw [hk.2] at hN; exact hN) hY hX
  · have ho : sOk key nonce = false := by
      cases h : sOk key nonce with
      | false => rfl
      | true => exfalso; apply hk; simpa [sOk] using h
    rw [sErr, sOut, ho]
    exact (seal_bad v u y x key nonce adj text _ rfl hl ha ht w hT hR hk hN hY hX).mono fun e w' h => ⟨nilS, h.1, (h.2.ownNil 5 1)⟩
theorem aesOpen_calls (v u y x : Value) (key nonce adj text : List (BitVec 8)) (hl : key.length ≤ 100000) (ha : adj.length ≤ 1000000) (ht : text.length ≤ 900000) (w : World) (hT : Tab w) (hR : Rd w v key.length 1 (key.map U8)) (hN : Rd w u nonce.length 1 (nonce.map U8)) (hY : Rd w y adj.length 1 (adj.map U8)) (hX : Rd w x text.length 1 (text.map U8)) :
    Calls Tryd.prog 13 #[v, u, y, x] w (fun e w' => ∃ r, e = .returned (.tuple #[r, vI (oErr key nonce adj text)]) ∧ Mem (All w) w w' [own r 5 1 (oOut key nonce adj text).length ((oOut key nonce adj text).map U8)]) := by
  by_cases hk : (key.length = 16 ∨ key.length = 32) ∧ nonce.length = 12
  · have ho : sOk key nonce = true := by simp [sOk, hk]
    have hN' : Rd w u 12 1 (nonce.map U8) := by rw [hk.2] at hN; exact hN
    by_cases hs : 16 ≤ text.length
    · refine (open_long v u y x key nonce adj text _ rfl hl ha ht w hT hR hk.1 hk.2 hN' hs hY hX).mono fun e w' h => ?_
      rcases h with ⟨hq, h1, h2⟩ | ⟨hq, r, h1, h2⟩
      · have hp : opens key nonce adj text = false := by rw [opens, flatOf, decide_eq_false hq, Bool.and_false]
        rw [oErr, oOut, ho, hp]
        exact ⟨nilS, h1, h2.ownNil 5 1⟩
      · have hp : opens key nonce adj text = true := by rw [opens, flatOf, decide_eq_true hq, decide_eq_true hs]; rfl
        have hlen : (oOut key nonce adj text).length = (text.take (text.length - 16)).length := by rw [oOut, if_pos ho, if_pos hp, length_turnL]
        rw [hlen, oErr, oOut, ho, hp]
        exact ⟨r, h1, h2⟩
    · have hp : opens key nonce adj text = false := by rw [opens, decide_eq_false hs, Bool.false_and]
      rw [oErr, oOut, ho, hp]
      exact (open_short v u y x key nonce adj text _ rfl hl ha ht w hT hR hk.1 hk.2 hN' (by omega) hY hX).mono fun e w' h => ⟨nilS, h.1, h.2.ownNil 5 1⟩
  · have ho : sOk key nonce = false := by
      cases h : sOk key nonce with
      | false => rfl
      | true => exfalso; apply hk; simpa [sOk] using h
    rw [oErr, oOut, ho]
    exact (open_bad v u y x key nonce adj text _ rfl hl ha ht w hT hR hk hN hY hX).mono fun e w' h => ⟨nilS, h.1, (h.2.ownNil 5 1)⟩
end Go.Proofs.YtpihffpdkfkkhaaDoor
