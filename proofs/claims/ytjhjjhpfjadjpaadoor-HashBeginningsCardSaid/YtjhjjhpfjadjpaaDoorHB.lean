/- Walks: what functions of the given program do, operation by operation. Written by wip/gen. -/
import Derived.Test.YtjhjjhpfjadjpaaDoorHA
namespace Go.Proofs.YtjhjjhpfjadjpaaDoor
set_option linter.all false
open Go
set_option maxRecDepth 20000 in
theorem len64_64_calls (w : World) : Calls Tryd.prog 169 #[U64 18446744073709551615#64] w (fun r w' => r = .returned (vI 64) ∧ Mem (All w) w w' []) := by
  refine calls_of_st (n := 25) (args := [U64 18446744073709551615#64]) Tryd.func169 rfl Tryd.ntmps169 (Nat.le_of_ble_eq_true rfl) (Mem.all w) ?_
  refine st_seq ?_
  refine st_region ?_
  refine st_v (rv_assign rfl) (by decide) ?_
  refine st_nil ?_
  refine st_then ?_
  refine st_seq ?_
  refine st_seq ?_
  refine st_region ?_
  refine st_v (rv_move rfl) (by decide) ?_
  refine st_v (rv_geq64 (b := 4294967296#64) rfl rfl) (by decide) ?_
  refine st_nil ?_
  refine st_then ?_
  refine st_true rfl ?_
  refine st_seq ?_
  refine st_region ?_
  refine st_v (rv_move rfl) (by decide) ?_
  refine st_v (rv_shr64 (s := 32) rfl rfl rfl) (by decide) ?_
  refine st_v (rv_assign rfl) (by decide) ?_
  refine st_nil ?_
  refine st_then ?_
  refine st_region ?_
  refine st_v (rv_assign rfl) (by decide) ?_
  refine st_nil ?_
  refine st_then ?_
  refine st_seq ?_
  refine st_seq ?_
  refine st_region ?_
  refine st_v (rv_move rfl) (by decide) ?_
  refine st_v (rv_geq64 (b := 65536#64) rfl rfl) (by decide) ?_
  refine st_nil ?_
  refine st_then ?_
  refine st_true rfl ?_
  refine st_seq ?_
  refine st_region ?_
  refine st_v (rv_move rfl) (by decide) ?_
  refine st_v (rv_shr64 (s := 16) rfl rfl rfl) (by decide) ?_
  refine st_v (rv_assign rfl) (by decide) ?_
  refine st_nil ?_
  refine st_then ?_
  refine st_region ?_
  refine st_v (rv_move rfl) (by decide) ?_
  first | refine st_v (rv_addN (b := 16) rfl rfl (by first | omega | (simp; done) | (simp; omega))) (by decide) ?_ | refine st_v (rv_addZ rfl rfl (by first | omega | (simp; done) | (simp; omega))) (by decide) ?_
  refine st_v (rv_assign rfl) (by decide) ?_
  refine st_nil ?_
  refine st_then ?_
  refine st_seq ?_
  refine st_seq ?_
  refine st_region ?_
  refine st_v (rv_move rfl) (by decide) ?_
  refine st_v (rv_geq64 (b := 256#64) rfl rfl) (by decide) ?_
  refine st_nil ?_
  refine st_then ?_
  refine st_true rfl ?_
  refine st_seq ?_
  refine st_region ?_
  refine st_v (rv_move rfl) (by decide) ?_
  refine st_v (rv_shr64 (s := 8) rfl rfl rfl) (by decide) ?_
  refine st_v (rv_assign rfl) (by decide) ?_
  refine st_nil ?_
  refine st_then ?_
  refine st_region ?_
  refine st_v (rv_move rfl) (by decide) ?_
  first | refine st_v (rv_addN (b := 8) rfl rfl (by first | omega | (simp; done) | (simp; omega))) (by decide) ?_ | refine st_v (rv_addZ rfl rfl (by first | omega | (simp; done) | (simp; omega))) (by decide) ?_
  refine st_v (rv_assign rfl) (by decide) ?_
  refine st_nil ?_
  refine st_then ?_
  refine st_seq ?_
  refine st_region ?_
  refine st_v (rv_move rfl) (by decide) ?_
  refine st_v (rv_move rfl) (by decide) ?_
  refine st_v (rv_conv64to8 Tryd.underlying77 Tryd.underlying5 rfl) (by decide) ?_
  refine st_v (rv_indexStr Tryd.underlying9 rfl rfl (j := 255) (by rfl) (c := 8) (by kernel_rfl)) (by decide) ?_
  refine st_v (rv_to (u := vI 8) (rv_conv8toI (a := 8#8) Tryd.underlying5 Tryd.underlying3 rfl (by decide)) (by rfl)) (by decide) ?_
  refine st_v (rv_to (u := vI 64) (rv_addZ rfl rfl (by decide)) (by rfl)) (by decide) ?_
  refine st_v (rv_assign rfl) (by decide) ?_
  refine st_nil ?_
  refine st_then ?_
  refine st_ret ?_
  exact st_done rfl rfl (fun w hM => ⟨rfl, hM.sublist (List.nil_sublist _)⟩)
set_option maxRecDepth 20000 in
theorem width64_calls (w : World) : Calls Tryd.prog 177 #[] w (fun r w' => r = .returned (vI 64) ∧ Mem (All w) w w' []) := by
  refine calls_of_st (n := 4) (args := []) Tryd.func177 rfl Tryd.ntmps177 (Nat.le_of_ble_eq_true rfl) (Mem.all w) ?_
  refine st_seq ?_
  refine st_region ?_
  refine st_v (rv_assign rfl) (by decide) ?_
  refine st_nil ?_
  refine st_then ?_
  refine st_seq ?_
  refine st_region ?_
  refine st_v (rv_convIto64 Tryd.underlying3 Tryd.underlying77 rfl) (by decide) ?_
  refine st_v (rv_to (u := U64 18446744073709551615#64) (rv_com64 rfl) (by rfl)) (by decide) ?_
  refine st_call0 cal169 rfl (fun w hM => len64_64_calls w) (by decide) ?_
  refine st_v (rv_assign rfl) (by decide) ?_
  refine st_nil ?_
  refine st_then ?_
  refine st_ret ?_
  exact st_done rfl rfl (fun w hM => ⟨rfl, hM.sublist (List.nil_sublist _)⟩)
set_option maxRecDepth 20000 in
theorem right64_calls (x : BitVec 64) (k : Nat) (hk : k ≤ 64) (w : World) : Calls Tryd.prog 181 #[U64 x, vI k] w (fun r w' => r = .returned (U64 (rorW x k)) ∧ Mem (All w) w w' []) := by
  refine calls_of_st (n := 14) (args := [U64 x, vI k]) Tryd.func181 rfl Tryd.ntmps181 (Nat.le_of_ble_eq_true rfl) (Mem.all w) ?_
  refine st_seq ?_
  refine st_region ?_
  refine st_v (rv_assign rfl) (by decide) ?_
  refine st_nil ?_
  refine st_then ?_
  refine st_seq ?_
  refine st_drawStart mixed ?_
  refine st_drawSeg1 (E0 := [(0, _), (1, _), (4, _)]) [kpeq _, kpeq _, kpeq _, kpeq _, kpeq _, kpeq _, kpeq _, kpeq _] 0 8 [0, 0, 3, 0, 0, 0, 48, 120, 255, 511] [0, 1, 4] (by kernel_rfl) (by decide) (by kernel_rfl) (.cons rfl (.cons rfl (.cons rfl (.nil _)))) rfl rfl (hall_cons (hop_mv rfl (by decide) rfl rfl) (hall_cons (hop_mv rfl (by decide) rfl rfl) (hall_cons (hop_val [(0, 5, _), (1, 6, _)] [] rfl rfl rfl (by decide) rfl (jcons rfl rfl rfl rfl rfl (jcons rfl rfl rfl rfl rfl (jnil))) (xnil) (fun _ _ _ _ => does_v (rv_shr64 rfl rfl rfl))) (hall_cons (hop_mv rfl (by decide) rfl rfl) (hall_cons (hop_val [] [] rfl rfl rfl (by decide) rfl (jnil) (xnil) (fun _ _ _ _ => does_call0 cal177 rfl (fun w hM => width64_calls w))) (hall_cons (hop_mv rfl (by decide) rfl rfl) (hall_cons (hop_val [(4, 9, _), (5, 10, _)] [] rfl rfl rfl (by decide) rfl (jcons rfl rfl rfl rfl rfl (jcons rfl rfl rfl rfl rfl (jnil))) (xnil) (fun _ _ _ _ => does_v (rv_subN rfl rfl (by first | omega | (simp; done) | (simp; omega))))) (hall_cons (hop_val [(3, 8, _), (6, 11, _)] [] rfl rfl rfl (by decide) rfl (jcons rfl rfl rfl rfl rfl (jcons rfl rfl rfl rfl rfl (jnil))) (xnil) (fun _ _ _ _ => does_v (rv_shl64 rfl rfl rfl))) (hall_nil))))))))) (draw_end1 [(2, 7, _), (7, 12, _)] (jcons rfl rfl rfl rfl rfl (jcons rfl rfl rfl rfl rfl (jnil))) ?_)
  refine st_drawTail (N := 8) [0, 0, 3, 0, 0, 0, 48, 120, 255, 511] (by kernel_rfl) (by kernel_rfl) ?_
  refine st_v (rv_or64 rfl rfl) (by decide) ?_
  refine st_v (rv_assign rfl) (by decide) ?_
  refine st_nil ?_
  refine st_then ?_
  refine st_ret ?_
  exact st_done rfl rfl (fun w hM => ⟨rfl, hM.sublist (List.nil_sublist _)⟩)
set_option maxRecDepth 20000 in
theorem sum364_calls (x : BitVec 64) (a b c : Nat) (ha : a ≤ 64) (hb : b ≤ 64) (hc : c ≤ 64) (w : World) : Calls Tryd.prog 180 #[U64 x, .agg #[vI a, vI b, vI c]] w (fun r w' => r = .returned (U64 (sum3W x (a, b, c))) ∧ Mem (All w) w w' []) := by
  refine calls_of_st (n := 19) (args := [U64 x, .agg #[vI a, vI b, vI c]]) Tryd.func180 rfl Tryd.ntmps180 (Nat.le_of_ble_eq_true rfl) (Mem.all w) ?_
  refine st_seq ?_
  refine st_region ?_
  refine st_box rfl (by decide) rfl (fun b1 hb1 => ?_)
  refine st_v (rv_assign rfl) (by decide) ?_
  refine st_nil ?_
  refine st_then ?_
  refine st_seq ?_
  refine st_drawStart mixed ?_
  refine st_drawSeg1 (E0 := [(0, _), (3, _), (4, _)]) [kpeq _, kpeq _, kpeq _, kpeq _, kpeq _, kpeq _, kpeq _, kpeq _, kpeq _, kpeq _, kpeq _, kpeq _, kpeq _] 0 13 [0, 0, 2, 7, 0, 0, 32, 127, 255, 0, 0, 1024, 3839, 8191, 16383] [0, 3, 4] (by kernel_rfl) (by decide) (by kernel_rfl) (.cons rfl (.cons rfl (.cons rfl (.nil _)))) rfl rfl (hall_cons (hop_mv rfl (by decide) rfl rfl) (hall_cons (hop_val [] [] rfl rfl rfl (by decide) rfl (jnil) (xnil) (fun _ _ _ _ => does_v (rv_indexA Tryd.underlying119 sz3 rfl rfl (j := 0) rfl (by decide) rfl))) (hall_cons (hop_val [(1, 6, _)] [] rfl rfl rfl (by decide) rfl (jcons rfl rfl rfl rfl rfl (jnil)) (xnil) (fun _ _ _ _ => does_v (rv_load_blk tyS3 rfl (i := 0) rfl rfl))) (hall_cons (hop_val [(0, 5, _), (2, 7, _)] [] rfl rfl rfl (by decide) rfl (jcons rfl rfl rfl rfl rfl (jcons rfl rfl rfl rfl rfl (jnil))) (xnil) (fun _ _ _ _ => does_call0 cal181 rfl (fun w hM => right64_calls _ _ (by omega) w))) (hall_cons (hop_mv rfl (by decide) rfl rfl) (hall_cons (hop_val [] [] rfl rfl rfl (by decide) rfl (jnil) (xnil) (fun _ _ _ _ => does_v (rv_indexA Tryd.underlying119 sz3 rfl rfl (j := 1) rfl (by decide) rfl))) (hall_cons (hop_val [(5, 10, _)] [] rfl rfl rfl (by decide) rfl (jcons rfl rfl rfl rfl rfl (jnil)) (xnil) (fun _ _ _ _ => does_v (rv_load_blk tyS3 rfl (i := 0) rfl rfl))) (hall_cons (hop_val [(4, 9, _), (6, 11, _)] [] rfl rfl rfl (by decide) rfl (jcons rfl rfl rfl rfl rfl (jcons rfl rfl rfl rfl rfl (jnil))) (xnil) (fun _ _ _ _ => does_call0 cal181 rfl (fun w hM => right64_calls _ _ (by omega) w))) (hall_cons (hop_val [(3, 8, _), (7, 12, _)] [] rfl rfl rfl (by decide) rfl (jcons rfl rfl rfl rfl rfl (jcons rfl rfl rfl rfl rfl (jnil))) (xnil) (fun _ _ _ _ => does_v (rv_xor64 rfl rfl))) (hall_cons (hop_mv rfl (by decide) rfl rfl) (hall_cons (hop_val [] [] rfl rfl rfl (by decide) rfl (jnil) (xnil) (fun _ _ _ _ => does_v (rv_indexA Tryd.underlying119 sz3 rfl rfl (j := 2) rfl (by decide) rfl))) (hall_cons (hop_val [(10, 15, _)] [] rfl rfl rfl (by decide) rfl (jcons rfl rfl rfl rfl rfl (jnil)) (xnil) (fun _ _ _ _ => does_v (rv_load_blk tyS3 rfl (i := 0) rfl rfl))) (hall_cons (hop_val [(9, 14, _), (11, 16, _)] [] rfl rfl rfl (by decide) rfl (jcons rfl rfl rfl rfl rfl (jcons rfl rfl rfl rfl rfl (jnil))) (xnil) (fun _ _ _ _ => does_call0 cal181 rfl (fun w hM => right64_calls _ _ (by omega) w))) (hall_nil)))))))))))))) (draw_end1 [(8, 13, _), (12, 17, _)] (jcons rfl rfl rfl rfl rfl (jcons rfl rfl rfl rfl rfl (jnil))) ?_)
  refine st_drawTail (N := 13) [0, 0, 2, 7, 0, 0, 32, 127, 255, 0, 0, 1024, 3839, 8191, 16383] (by kernel_rfl) (by kernel_rfl) ?_
  refine st_v (rv_xor64 rfl rfl) (by decide) ?_
  refine st_v (rv_assign rfl) (by decide) ?_
  refine st_nil ?_
  refine st_then ?_
  refine st_ret ?_
  exact st_done rfl rfl (fun w hM => ⟨rfl, hM.sublist (List.nil_sublist _)⟩)
set_option maxRecDepth 20000 in
theorem shift364_calls (x : BitVec 64) (a b c : Nat) (ha : a ≤ 64) (hb : b ≤ 64) (w : World) : Calls Tryd.prog 179 #[U64 x, .agg #[vI a, vI b, vI c]] w (fun r w' => r = .returned (U64 (shf3W x (a, b, c))) ∧ Mem (All w) w w' []) := by
  refine calls_of_st (n := 19) (args := [U64 x, .agg #[vI a, vI b, vI c]]) Tryd.func179 rfl Tryd.ntmps179 (Nat.le_of_ble_eq_true rfl) (Mem.all w) ?_
  refine st_seq ?_
  refine st_region ?_
  refine st_box rfl (by decide) rfl (fun b1 hb1 => ?_)
  refine st_v (rv_assign rfl) (by decide) ?_
  refine st_nil ?_
  refine st_then ?_
  refine st_seq ?_
  refine st_drawStart mixed ?_
  refine st_drawSeg1 (E0 := [(0, _), (3, _), (4, _)]) [kpeq _, kpeq _, kpeq _, kpeq _, kpeq _, kpeq _, kpeq _, kpeq _, kpeq _, kpeq _, kpeq _, kpeq _, kpeq _] 0 13 [0, 0, 2, 7, 0, 0, 32, 127, 255, 0, 0, 1024, 3584, 8191, 16383] [0, 3, 4] (by kernel_rfl) (by decide) (by kernel_rfl) (.cons rfl (.cons rfl (.cons rfl (.nil _)))) rfl rfl (hall_cons (hop_mv rfl (by decide) rfl rfl) (hall_cons (hop_val [] [] rfl rfl rfl (by decide) rfl (jnil) (xnil) (fun _ _ _ _ => does_v (rv_indexA Tryd.underlying119 sz3 rfl rfl (j := 0) rfl (by decide) rfl))) (hall_cons (hop_val [(1, 6, _)] [] rfl rfl rfl (by decide) rfl (jcons rfl rfl rfl rfl rfl (jnil)) (xnil) (fun _ _ _ _ => does_v (rv_load_blk tyS3 rfl (i := 0) rfl rfl))) (hall_cons (hop_val [(0, 5, _), (2, 7, _)] [] rfl rfl rfl (by decide) rfl (jcons rfl rfl rfl rfl rfl (jcons rfl rfl rfl rfl rfl (jnil))) (xnil) (fun _ _ _ _ => does_call0 cal181 rfl (fun w hM => right64_calls _ _ (by omega) w))) (hall_cons (hop_mv rfl (by decide) rfl rfl) (hall_cons (hop_val [] [] rfl rfl rfl (by decide) rfl (jnil) (xnil) (fun _ _ _ _ => does_v (rv_indexA Tryd.underlying119 sz3 rfl rfl (j := 1) rfl (by decide) rfl))) (hall_cons (hop_val [(5, 10, _)] [] rfl rfl rfl (by decide) rfl (jcons rfl rfl rfl rfl rfl (jnil)) (xnil) (fun _ _ _ _ => does_v (rv_load_blk tyS3 rfl (i := 0) rfl rfl))) (hall_cons (hop_val [(4, 9, _), (6, 11, _)] [] rfl rfl rfl (by decide) rfl (jcons rfl rfl rfl rfl rfl (jcons rfl rfl rfl rfl rfl (jnil))) (xnil) (fun _ _ _ _ => does_call0 cal181 rfl (fun w hM => right64_calls _ _ (by omega) w))) (hall_cons (hop_val [(3, 8, _), (7, 12, _)] [] rfl rfl rfl (by decide) rfl (jcons rfl rfl rfl rfl rfl (jcons rfl rfl rfl rfl rfl (jnil))) (xnil) (fun _ _ _ _ => does_v (rv_xor64 rfl rfl))) (hall_cons (hop_mv rfl (by decide) rfl rfl) (hall_cons (hop_val [] [] rfl rfl rfl (by decide) rfl (jnil) (xnil) (fun _ _ _ _ => does_v (rv_indexA Tryd.underlying119 sz3 rfl rfl (j := 2) rfl (by decide) rfl))) (hall_cons (hop_val [(10, 15, _)] [] rfl rfl rfl (by decide) rfl (jcons rfl rfl rfl rfl rfl (jnil)) (xnil) (fun _ _ _ _ => does_v (rv_load_blk tyS3 rfl (i := 0) rfl rfl))) (hall_cons (hop_val [(9, 14, _), (11, 16, _)] [] rfl rfl rfl (by decide) rfl (jcons rfl rfl rfl rfl rfl (jcons rfl rfl rfl rfl rfl (jnil))) (xnil) (fun _ _ _ _ => does_v (rv_shr64 rfl rfl rfl))) (hall_nil)))))))))))))) (draw_end1 [(8, 13, _), (12, 17, _)] (jcons rfl rfl rfl rfl rfl (jcons rfl rfl rfl rfl rfl (jnil))) ?_)
  refine st_drawTail (N := 13) [0, 0, 2, 7, 0, 0, 32, 127, 255, 0, 0, 1024, 3584, 8191, 16383] (by kernel_rfl) (by kernel_rfl) ?_
  refine st_v (rv_xor64 rfl rfl) (by decide) ?_
  refine st_v (rv_assign rfl) (by decide) ?_
  refine st_nil ?_
  refine st_then ?_
  refine st_ret ?_
  exact st_done rfl rfl (fun w hM => ⟨rfl, hM.sublist (List.nil_sublist _)⟩)
set_option maxRecDepth 20000 in
set_option maxHeartbeats 2000000 in
theorem block64_calls (fp b off : Nat) (T : TypeId) (cs : Array Value) (kv v : Value) (F : Fam 64) (hF : FamOk F) (h : List (BitVec 64)) (q : List (BitVec 8)) (hh : h.length = 8) (hoff : off + 8 ≤ cs.size) (hq : q.length = 128) (w : World) (hB : (blk b (spl cs off (h.map U64)) T).holds w) (hrow : ∃ fr : Nat × Nat, w.heap[fp]? = some (.cells #[kv, vI F.big0.1, vI F.big0.2.1, vI F.big0.2.2, vI F.big1.1, vI F.big1.2.1, vI F.big1.2.2, vI F.small0.1, vI F.small0.2.1, vI F.small0.2.2, vI F.small1.1, vI F.small1.2.1, vI F.small1.2.2] 187 fr)) (hS0 : Old w (fun x => x = b) fp) (hK : Rd w kv F.k.length 1 (F.k.map U64)) (hS1 : ∀ x, vfoot kv x → Old w (fun x => x = b) x) (hQ : Rd w v 128 1 (q.map U8)) (hS2 : ∀ x, vfoot v x → Old w (fun x => x = b) x) : Calls Tryd.prog 178 #[pt fp 0, pt b off, v] w (fun e w' => e = .returned (.tuple #[]) ∧ Mem (Old w (fun x => x = b)) w w' [blk b (spl cs off ((blockW F h q).map U64)) T]) := by
  obtain ⟨fr, hrow⟩ := hrow
  obtain ⟨hk16, hk100, f1, f2, f3, f4, f5, f6, f7, f8, f9, f10, f11, f12⟩ := hF
  refine calls_of_st (n := 194) (args := [pt fp 0, pt b off, v]) Tryd.func178 rfl Tryd.ntmps178 (Nat.le_of_ble_eq_true rfl) (Mem.param hB) ?_
  refine st_seq ?_
  refine st_region ?_
  refine st_v (rv_move rfl) (by decide) ?_
  refine st_v (rv_nilCheck rfl) (by decide) ?_
  refine st_v (rv_fieldAddr Tryd.underlying187 (fs := _) rfl sz121 rfl rfl) (by decide) ?_
  refine st_v (rv_load_old tyS121 rfl hrow hS0 rfl) (by decide) ?_
  refine st_v (rv_lenR (rd_old hK hS1) Tryd.underlying121 rfl) (by decide) ?_
  refine st_make64 Tryd.underlying121 tyZ77 rfl rfl (by omega) (by omega) (by omega) (by decide) (fun b1 hb1 => ?_)
  refine st_v (rv_assign rfl) (by decide) ?_
  refine st_nil ?_
  refine st_then ?_
  refine st_seq ?_
  refine st_region ?_
  refine st_call0 cal177 rfl (fun w hM => width64_calls w) (by decide) ?_
  refine st_v (rv_to (u := vI 8) (rv_quoN (a := 64) (b := 8) rfl rfl (by omega)) (by rfl)) (by decide) ?_
  refine st_v (rv_assign rfl) (by decide) ?_
  refine st_nil ?_
  refine st_then ?_
  refine st_seq ?_
  refine st_seq ?_
  refine st_region ?_
  refine st_v (rv_move rfl) (by decide) ?_
  refine st_nil ?_
  refine st_then ?_
  refine st_block ?_
  refine st_loopA (σ := Nat) [(0, kst _), (1, kst _), (2, kst _), (6, kst _), (7, kst _), (26, fun t => vI t)] [fun t => blk b1 (c64 (first16 64 q F.k.length t)) 77, kst _] (fun t => t ≤ 16) (fun t => 16 - t) 0 (by omega) (.cons rfl (.cons rfl (.cons rfl (.cons rfl (.cons rfl (.cons rfl (.nil _))))))) (fun _ hM => hM) ?_
  intro t hI
  try dsimp only at hI
  dsimp only [List.map, kst]
  refine st_seq ?_
  refine st_region ?_
  refine st_v (rv_lssZ rfl rfl) (by decide) ?_
  refine st_nil ?_
  refine st_then ?_
  refine st_seq ?_
  refine st_cond rfl (fun hc27 => ?_) (fun hc27 => ?_)
  · -- t27 True
    try simp only [z1, z2, z3, z4, z5, z6, z7, z8, z9, z10, z11, z12, z13, z14] at hc27
    refine st_skip ?_
    refine st_then ?_
    refine st_seq ?_
    refine st_block ?_
    refine st_seq ?_
    refine st_region ?_
    refine st_v (rv_move rfl) (by decide) ?_
    refine st_v (rv_assign rfl) (by decide) ?_
    refine st_nil ?_
    refine st_then ?_
    refine st_seq ?_
    refine st_region ?_
    refine st_v (rv_move rfl) (by decide) ?_
    refine st_v (rv_move rfl) (by decide) ?_
    refine st_v (rv_move rfl) (by decide) ?_
    first | refine st_v (rv_mulN rfl rfl (by first | omega | (simp; done) | (simp; omega))) (by decide) ?_ | refine st_v (rv_mulZ rfl rfl (by first | omega | (simp; done) | (simp; omega))) (by decide) ?_
    refine st_v (rv_move rfl) (by decide) ?_
    first | refine st_v (rv_addN (b := 1) rfl rfl (by first | omega | (simp; done) | (simp; omega))) (by decide) ?_ | refine st_v (rv_addZ rfl rfl (by first | omega | (simp; done) | (simp; omega))) (by decide) ?_
    refine st_v (rv_move rfl) (by decide) ?_
    first | refine st_v (rv_mulN rfl rfl (by first | omega | (simp; done) | (simp; omega))) (by decide) ?_ | refine st_v (rv_mulZ rfl rfl (by first | omega | (simp; done) | (simp; omega))) (by decide) ?_
    refine st_v (rv_sliceR (rd_old hQ hS2) Tryd.underlying22 sz5 rfl (evB_some rfl rfl) (evB_some rfl rfl) (by first | omega | (simp [length_roundW _ _ _ _ hh, length_shiftS _ (length_roundW _ _ _ _ hh), length_stepW, hh, over] <;> omega)) (by first | omega | (simp [length_roundW _ _ _ _ hh, length_shiftS _ (length_roundW _ _ _ _ hh), length_stepW, hh, over] <;> omega))) (by decide) ?_
    refine st_v (rv_lenR (fun w hM => ((rd_old hQ hS2) w hM).part8 (by first | omega | (simp [length_roundW _ _ _ _ hh, length_shiftS _ (length_roundW _ _ _ _ hh), length_stepW, hh, over] <;> omega)) (by first | omega | (simp [length_roundW _ _ _ _ hh, length_shiftS _ (length_roundW _ _ _ _ hh), length_stepW, hh, over] <;> omega))) Tryd.underlying22 rfl) (by decide) ?_
    refine st_v (rv_move rfl) (by decide) ?_
    refine st_nil ?_
    refine st_then ?_
    refine st_block ?_
    refine st_loopA (σ := Nat) [(0, kst _), (1, kst _), (2, kst _), (6, kst _), (7, kst _), (8, kst _), (26, kst _), (37, kst _), (38, kst _), (39, fun i => vI i)] [fun i => blk b1 (c64 (accW 64 (first16 64 q F.k.length t) (cutB q t 8) t i)) 77, kst _] (fun i => i ≤ 8) (fun i => 8 - i) 0 (by omega) (.cons rfl (.cons rfl (.cons rfl (.cons rfl (.cons rfl (.cons rfl (.cons rfl (.cons rfl (.cons rfl (.cons rfl (.nil _))))))))))) (fun _ hM => hM) ?_
    intro i hI
    try dsimp only at hI
    dsimp only [List.map, kst]
    refine st_seq ?_
    refine st_region ?_
    refine st_v (rv_lssZ rfl rfl) (by decide) ?_
    refine st_nil ?_
    refine st_then ?_
    refine st_seq ?_
    refine st_cond rfl (fun hc40 => ?_) (fun hc40 => ?_)
    · -- t40 True
      try simp only [z1, z2, z3, z4, z5, z6, z7, z8, z9, z10, z11, z12, z13, z14] at hc40
      refine st_skip ?_
      refine st_then ?_
      refine st_seq ?_
      refine st_block ?_
      refine st_seq ?_
      refine st_region ?_
      refine st_v (rv_indexR1 (fun w hM => ((rd_old hQ hS2) w hM).part8 (by first | omega | (simp [length_roundW _ _ _ _ hh, length_shiftS _ (length_roundW _ _ _ _ hh), length_stepW, hh, over] <;> omega)) (by first | omega | (simp [length_roundW _ _ _ _ hh, length_shiftS _ (length_roundW _ _ _ _ hh), length_stepW, hh, over] <;> omega))) Tryd.underlying22 sz5 rfl rfl rfl (by first | omega | (simp [length_roundW _ _ _ _ hh, length_shiftS _ (length_roundW _ _ _ _ hh), length_stepW, hh, over] <;> omega))) (by decide) ?_
      refine st_v (rv_load_rd (fun w hM => ((rd_old hQ hS2) w hM).part8 (by first | omega | (simp [length_roundW _ _ _ _ hh, length_shiftS _ (length_roundW _ _ _ _ hh), length_stepW, hh, over] <;> omega)) (by first | omega | (simp [length_roundW _ _ _ _ hh, length_shiftS _ (length_roundW _ _ _ _ hh), length_stepW, hh, over] <;> omega))) tyS5 rfl (get8 (by first | omega | (simp [length_roundW _ _ _ _ hh, length_shiftS _ (length_roundW _ _ _ _ hh), length_stepW, hh, over] <;> omega)))) (by decide) ?_
      refine st_v (rv_assign rfl) (by decide) ?_
      refine st_nil ?_
      refine st_then ?_
      refine st_region ?_
      refine st_v (rv_move rfl) (by decide) ?_
      refine st_v (rv_move rfl) (by decide) ?_
      refine st_v (rv_move rfl) (by decide) ?_
      refine st_v (rv_move rfl) (by decide) ?_
      refine st_v (rv_indexS Tryd.underlying121 sz77 rfl rfl rfl (by first | omega | (simp [length_roundW _ _ _ _ hh, length_shiftS _ (length_roundW _ _ _ _ hh), length_stepW, hh, over] <;> omega)) (by first | exact (Nat.zero_add _).trans (Nat.mul_one _) | exact congrArg _ (Nat.mul_one _) | rfl)) (by decide) ?_
      refine st_v (rv_load_blk tyS77 rfl (i := 0) rfl (cell64 (by first | omega | (simp [length_roundW _ _ _ _ hh, length_shiftS _ (length_roundW _ _ _ _ hh), length_stepW, hh, over] <;> omega)))) (by decide) ?_
      refine st_v (rv_shl64 (s := 8) rfl rfl rfl) (by decide) ?_
      refine st_v (rv_move rfl) (by decide) ?_
      refine st_v (rv_conv8to64 Tryd.underlying5 Tryd.underlying77 rfl) (by decide) ?_
      refine st_v (rv_or64 rfl rfl) (by decide) ?_
      refine st_v (rv_indexS Tryd.underlying121 sz77 rfl rfl rfl (by first | omega | (simp [length_roundW _ _ _ _ hh, length_shiftS _ (length_roundW _ _ _ _ hh), length_stepW, hh, over] <;> omega)) (by first | exact (Nat.zero_add _).trans (Nat.mul_one _) | exact congrArg _ (Nat.mul_one _) | rfl)) (by decide) ?_
      refine st_store64 rfl rfl (i := 0) rfl sz77 (by first | omega | (simp [length_roundW _ _ _ _ hh, length_shiftS _ (length_roundW _ _ _ _ hh), length_stepW, hh, over] <;> omega)) (l' := [_, _]) rfl ?_
      refine st_nil ?_
      refine st_in_normal ?_
      refine st_then ?_
      refine st_region ?_
      first | refine st_v (rv_addN (b := 1) rfl rfl (by first | omega | (simp; done) | (simp; omega))) (by decide) ?_ | refine st_v (rv_addZ rfl rfl (by first | omega | (simp; done) | (simp; omega))) (by decide) ?_
      refine st_v (rv_move rfl) (by decide) ?_
      refine st_nil ?_
      refine st_then ?_
      exact st_again (i + 1) (by omega) (by omega) (.cons rfl (.cons rfl (.cons rfl (.cons rfl (.cons rfl (.cons rfl (.cons rfl (.cons rfl (.cons rfl (.cons rfl (.nil _))))))))))) (fun _ hM => hM)
    · -- t40 False
      try simp only [z1, z2, z3, z4, z5, z6, z7, z8, z9, z10, z11, z12, z13, z14] at hc40
      obtain rfl : i = 8 := by omega
      refine st_exit ?_
      refine st_then_exit ?_
      refine st_then_exit ?_
      refine st_in_exit ?_
      refine st_in_normal ?_
      refine st_then ?_
      refine st_region ?_
      first | refine st_v (rv_addN (b := 1) rfl rfl (by first | omega | (simp; done) | (simp; omega))) (by decide) ?_ | refine st_v (rv_addZ rfl rfl (by first | omega | (simp; done) | (simp; omega))) (by decide) ?_
      refine st_v (rv_move rfl) (by decide) ?_
      refine st_nil ?_
      refine st_then ?_
      exact st_again (t + 1) (by omega) (by omega) (.cons rfl (.cons rfl (.cons rfl (.cons rfl (.cons rfl (.cons rfl (.nil _))))))) (fun _ hM => hM)
  · -- t27 False
    try simp only [z1, z2, z3, z4, z5, z6, z7, z8, z9, z10, z11, z12, z13, z14] at hc27
    obtain rfl : t = 16 := by omega
    refine st_exit ?_
    refine st_then_exit ?_
    refine st_then_exit ?_
    refine st_in_exit ?_
    refine st_then ?_
    refine st_seq ?_
    refine st_seq ?_
    refine st_region ?_
    refine st_v (rv_assign rfl) (by decide) ?_
    refine st_nil ?_
    refine st_then ?_
    refine st_block ?_
    refine st_loopA (σ := Nat) [(0, kst _), (1, kst _), (6, kst _), (11, fun t => vI (16 + t : Nat))] [fun t => blk b1 (c64 (schedW F q t)) 77, kst _] (fun t => 16 + t ≤ F.k.length) (fun t => F.k.length - (16 + t)) 0 (by omega) (.cons rfl (.cons rfl (.cons rfl (.cons rfl (.nil _))))) (fun _ hM => hM) ?_
    intro t hI
    try dsimp only at hI
    dsimp only [List.map, kst]
    refine st_seq ?_
    refine st_seq ?_
    refine st_region ?_
    refine st_v (rv_move rfl) (by decide) ?_
    refine st_v (rv_move rfl) (by decide) ?_
    refine st_v (rv_lenS Tryd.underlying121 rfl) (by decide) ?_
    refine st_v (rv_lssZ rfl rfl) (by decide) ?_
    refine st_nil ?_
    refine st_then ?_
    refine st_cond rfl (fun hc59 => ?_) (fun hc59 => ?_)
    · -- t59 True
      try simp only [z1, z2, z3, z4, z5, z6, z7, z8, z9, z10, z11, z12, z13, z14] at hc59
      refine st_skip ?_
      refine st_then ?_
      refine st_seq ?_
      refine st_block ?_
      refine st_drawStart mixed ?_
      refine st_drawSeg1 (E0 := [(0, _), (1, _), (6, _), (11, _)]) [kpeq _, kpeq _, kpeq _, kpeq _, kpeq _, kpeq _, kpeq _, kpeq _, kpeq _, kpeq _, kpeq _, kpeq _, kpeq _, kpeq _, kpeq _, kpeq _, kpeq _, kpeq _, kpeq _, kpeq _, kpeq _, kpeq _, kpeq _, kpeq _, kpeq _, kpeq _, kpeq _, kpeq _, kpeq _, kpeq _, kpeq _, kpeq _, kpeq _, kpeq _, kpeq _] 0 35 [0, 0, 0, 0, 8, 28, 60, 0, 128, 384, 896, 2044, 0, 0, 8192, 28672, 61440, 131068, 0, 0, 524288, 1835008, 3932160, 0, 8388608, 25165824, 58720256, 133959676, 268435452, 0, 0, 1073741824, 3758096384, 8053063680, 17179869180, 34359738367, 68719476735] [0, 1, 6, 11] (by kernel_rfl) (by decide) (by kernel_rfl) (.cons rfl (.cons rfl (.cons rfl (.cons rfl (.nil _))))) rfl rfl (hall_cons (hop_mv rfl (by decide) rfl rfl) (hall_cons (hop_mv rfl (by decide) rfl rfl) (hall_cons (hop_mv rfl (by decide) rfl rfl) (hall_cons (hop_mv rfl (by decide) rfl rfl) (hall_cons (hop_val [(3, 65, _)] [] rfl rfl rfl (by decide) rfl (jcons rfl rfl rfl rfl rfl (jnil)) (xnil) (fun _ _ _ _ => does_v (rv_subN (b := 2) rfl rfl (by first | omega | (simp; done) | (simp; omega))))) (hall_cons (hop_val [(2, 64, _), (4, 66, _)] [] rfl rfl rfl (by decide) rfl (jcons rfl rfl rfl rfl rfl (jcons rfl rfl rfl rfl rfl (jnil))) (xnil) (fun _ _ _ _ => does_v (rv_indexS Tryd.underlying121 sz77 rfl rfl rfl (by first | omega | (simp [length_roundW _ _ _ _ hh, length_shiftS _ (length_roundW _ _ _ _ hh), length_stepW, hh, over] <;> omega)) (by first | exact (Nat.zero_add _).trans (Nat.mul_one _) | exact congrArg _ (Nat.mul_one _) | rfl)))) (hall_cons (hop_val [(5, 67, _)] [] rfl rfl rfl (by decide) rfl (jcons rfl rfl rfl rfl rfl (jnil)) (xnil) (fun _ _ _ _ => does_v (rv_load_blk tyS77 rfl (i := 0) rfl (cell64 (by first | omega | (simp [length_roundW _ _ _ _ hh, length_shiftS _ (length_roundW _ _ _ _ hh), length_stepW, hh, over] <;> omega)))))) (hall_cons (hop_mv rfl (by decide) rfl rfl) (hall_cons (hop_val [(7, 69, _)] [] rfl rfl rfl (by decide) rfl (jcons rfl rfl rfl rfl rfl (jnil)) (xnil) (fun _ _ _ _ => does_v (rv_nilCheck rfl))) (hall_cons (hop_val [(8, 70, _)] [] rfl rfl rfl (by decide) rfl (jcons rfl rfl rfl rfl rfl (jnil)) (xnil) (fun _ _ _ _ => does_v (rv_fieldAddr Tryd.underlying187 (fs := _) rfl sz119 rfl rfl))) (hall_cons (hop_val [(9, 71, _)] [] rfl rfl rfl (by decide) rfl (jcons rfl rfl rfl rfl rfl (jnil)) (xnil) (fun _ _ _ _ => does_v (rv_loadA_old tyA119 rfl hrow hS0 (Nat.le_of_ble_eq_true rfl) (cs' := #[_, _, _]) rfl))) (hall_cons (hop_val [(6, 68, _), (10, 72, _)] [] rfl rfl rfl (by decide) rfl (jcons rfl rfl rfl rfl rfl (jcons rfl rfl rfl rfl rfl (jnil))) (xnil) (fun _ _ _ _ => does_call0 cal179 rfl (fun w hM => shift364_calls _ _ _ _ (by omega) (by omega) w))) (hall_cons (hop_mv rfl (by decide) rfl rfl) (hall_cons (hop_mv rfl (by decide) rfl rfl) (hall_cons (hop_val [(13, 75, _)] [] rfl rfl rfl (by decide) rfl (jcons rfl rfl rfl rfl rfl (jnil)) (xnil) (fun _ _ _ _ => does_v (rv_subN (b := 7) rfl rfl (by first | omega | (simp; done) | (simp; omega))))) (hall_cons (hop_val [(12, 74, _), (14, 76, _)] [] rfl rfl rfl (by decide) rfl (jcons rfl rfl rfl rfl rfl (jcons rfl rfl rfl rfl rfl (jnil))) (xnil) (fun _ _ _ _ => does_v (rv_indexS Tryd.underlying121 sz77 rfl rfl rfl (by first | omega | (simp [length_roundW _ _ _ _ hh, length_shiftS _ (length_roundW _ _ _ _ hh), length_stepW, hh, over] <;> omega)) (by first | exact (Nat.zero_add _).trans (Nat.mul_one _) | exact congrArg _ (Nat.mul_one _) | rfl)))) (hall_cons (hop_val [(15, 77, _)] [] rfl rfl rfl (by decide) rfl (jcons rfl rfl rfl rfl rfl (jnil)) (xnil) (fun _ _ _ _ => does_v (rv_load_blk tyS77 rfl (i := 0) rfl (cell64 (by first | omega | (simp [length_roundW _ _ _ _ hh, length_shiftS _ (length_roundW _ _ _ _ hh), length_stepW, hh, over] <;> omega)))))) (hall_cons (hop_val [(11, 73, _), (16, 78, _)] [] rfl rfl rfl (by decide) rfl (jcons rfl rfl rfl rfl rfl (jcons rfl rfl rfl rfl rfl (jnil))) (xnil) (fun _ _ _ _ => does_v (rv_add64 rfl rfl))) (hall_cons (hop_mv rfl (by decide) rfl rfl) (hall_cons (hop_mv rfl (by decide) rfl rfl) (hall_cons (hop_val [(19, 81, _)] [] rfl rfl rfl (by decide) rfl (jcons rfl rfl rfl rfl rfl (jnil)) (xnil) (fun _ _ _ _ => does_v (rv_subN (b := 15) rfl rfl (by first | omega | (simp; done) | (simp; omega))))) (hall_cons (hop_val [(18, 80, _), (20, 82, _)] [] rfl rfl rfl (by decide) rfl (jcons rfl rfl rfl rfl rfl (jcons rfl rfl rfl rfl rfl (jnil))) (xnil) (fun _ _ _ _ => does_v (rv_indexS Tryd.underlying121 sz77 rfl rfl rfl (by first | omega | (simp [length_roundW _ _ _ _ hh, length_shiftS _ (length_roundW _ _ _ _ hh), length_stepW, hh, over] <;> omega)) (by first | exact (Nat.zero_add _).trans (Nat.mul_one _) | exact congrArg _ (Nat.mul_one _) | rfl)))) (hall_cons (hop_val [(21, 83, _)] [] rfl rfl rfl (by decide) rfl (jcons rfl rfl rfl rfl rfl (jnil)) (xnil) (fun _ _ _ _ => does_v (rv_load_blk tyS77 rfl (i := 0) rfl (cell64 (by first | omega | (simp [length_roundW _ _ _ _ hh, length_shiftS _ (length_roundW _ _ _ _ hh), length_stepW, hh, over] <;> omega)))))) (hall_cons (hop_mv rfl (by decide) rfl rfl) (hall_cons (hop_val [(23, 85, _)] [] rfl rfl rfl (by decide) rfl (jcons rfl rfl rfl rfl rfl (jnil)) (xnil) (fun _ _ _ _ => does_v (rv_nilCheck rfl))) (hall_cons (hop_val [(24, 86, _)] [] rfl rfl rfl (by decide) rfl (jcons rfl rfl rfl rfl rfl (jnil)) (xnil) (fun _ _ _ _ => does_v (rv_fieldAddr Tryd.underlying187 (fs := _) rfl sz119 rfl rfl))) (hall_cons (hop_val [(25, 87, _)] [] rfl rfl rfl (by decide) rfl (jcons rfl rfl rfl rfl rfl (jnil)) (xnil) (fun _ _ _ _ => does_v (rv_loadA_old tyA119 rfl hrow hS0 (Nat.le_of_ble_eq_true rfl) (cs' := #[_, _, _]) rfl))) (hall_cons (hop_val [(22, 84, _), (26, 88, _)] [] rfl rfl rfl (by decide) rfl (jcons rfl rfl rfl rfl rfl (jcons rfl rfl rfl rfl rfl (jnil))) (xnil) (fun _ _ _ _ => does_call0 cal179 rfl (fun w hM => shift364_calls _ _ _ _ (by omega) (by omega) w))) (hall_cons (hop_val [(17, 79, _), (27, 89, _)] [] rfl rfl rfl (by decide) rfl (jcons rfl rfl rfl rfl rfl (jcons rfl rfl rfl rfl rfl (jnil))) (xnil) (fun _ _ _ _ => does_v (rv_add64 rfl rfl))) (hall_cons (hop_mv rfl (by decide) rfl rfl) (hall_cons (hop_mv rfl (by decide) rfl rfl) (hall_cons (hop_val [(30, 92, _)] [] rfl rfl rfl (by decide) rfl (jcons rfl rfl rfl rfl rfl (jnil)) (xnil) (fun _ _ _ _ => does_v (rv_subN (b := 16) rfl rfl (by first | omega | (simp; done) | (simp; omega))))) (hall_cons (hop_val [(29, 91, _), (31, 93, _)] [] rfl rfl rfl (by decide) rfl (jcons rfl rfl rfl rfl rfl (jcons rfl rfl rfl rfl rfl (jnil))) (xnil) (fun _ _ _ _ => does_v (rv_indexS Tryd.underlying121 sz77 rfl rfl rfl (by first | omega | (simp [length_roundW _ _ _ _ hh, length_shiftS _ (length_roundW _ _ _ _ hh), length_stepW, hh, over] <;> omega)) (by first | exact (Nat.zero_add _).trans (Nat.mul_one _) | exact congrArg _ (Nat.mul_one _) | rfl)))) (hall_cons (hop_val [(32, 94, _)] [] rfl rfl rfl (by decide) rfl (jcons rfl rfl rfl rfl rfl (jnil)) (xnil) (fun _ _ _ _ => does_v (rv_load_blk tyS77 rfl (i := 0) rfl (cell64 (by first | omega | (simp [length_roundW _ _ _ _ hh, length_shiftS _ (length_roundW _ _ _ _ hh), length_stepW, hh, over] <;> omega)))))) (hall_cons (hop_val [(28, 90, _), (33, 95, _)] [] rfl rfl rfl (by decide) rfl (jcons rfl rfl rfl rfl rfl (jcons rfl rfl rfl rfl rfl (jnil))) (xnil) (fun _ _ _ _ => does_v (rv_add64 rfl rfl))) (hall_nil)))))))))))))))))))))))))))))))))))) (draw_end1 [(0, 62, _), (1, 63, _), (34, 96, _)] (jcons rfl rfl rfl rfl rfl (jcons rfl rfl rfl rfl rfl (jcons rfl rfl rfl rfl rfl (jnil)))) ?_)
      refine st_drawTail (N := 35) [0, 0, 0, 0, 8, 28, 60, 0, 128, 384, 896, 2044, 0, 0, 8192, 28672, 61440, 131068, 0, 0, 524288, 1835008, 3932160, 0, 8388608, 25165824, 58720256, 133959676, 268435452, 0, 0, 1073741824, 3758096384, 8053063680, 17179869180, 34359738367, 68719476735] (by kernel_rfl) (by kernel_rfl) ?_
      refine st_v (rv_indexS Tryd.underlying121 sz77 rfl rfl rfl (by first | omega | (simp [length_roundW _ _ _ _ hh, length_shiftS _ (length_roundW _ _ _ _ hh), length_stepW, hh, over] <;> omega)) (by first | exact (Nat.zero_add _).trans (Nat.mul_one _) | exact congrArg _ (Nat.mul_one _) | rfl)) (by decide) ?_
      refine st_store64 rfl rfl (i := 0) rfl sz77 (by first | omega | (simp [length_roundW _ _ _ _ hh, length_shiftS _ (length_roundW _ _ _ _ hh), length_stepW, hh, over] <;> omega)) (l' := [_, _]) rfl ?_
      refine st_nil ?_
      refine st_in_normal ?_
      refine st_then ?_
      refine st_region ?_
      refine st_v (rv_move rfl) (by decide) ?_
      first | refine st_v (rv_addN (b := 1) rfl rfl (by first | omega | (simp; done) | (simp; omega))) (by decide) ?_ | refine st_v (rv_addZ rfl rfl (by first | omega | (simp; done) | (simp; omega))) (by decide) ?_
      refine st_v (rv_assign rfl) (by decide) ?_
      refine st_nil ?_
      refine st_then ?_
      exact st_again (t + 1) (by omega) (by omega) (.cons rfl (.cons rfl (.cons rfl (.cons rfl (.nil _))))) (fun _ hM => hM)
    · -- t59 False
      try simp only [z1, z2, z3, z4, z5, z6, z7, z8, z9, z10, z11, z12, z13, z14] at hc59
      obtain rfl : t = F.k.length - 16 := by omega
      refine st_exit ?_
      refine st_then_exit ?_
      refine st_then_exit ?_
      refine st_in_exit ?_
      refine st_then ?_
      refine st_seq ?_
      refine st_region ?_
      refine st_v (rv_move rfl) (by decide) ?_
      refine st_v (rv_nilCheck rfl) (by decide) ?_
      refine st_v (rv_loadA_blk tyA163 rfl (i := 1) rfl (by simp; omega) (spl_ext64 (by omega) hh)) (by decide) ?_
      refine st_alloc tyZ163 (by decide) (cs := c64 (List.replicate 8 0#64)) (rfl) (fun b2 hb2 => ?_)
      refine st_storeW64 rfl rfl (i := 0) rfl sz163 (by first | omega | (simp [length_roundW _ _ _ _ hh, length_shiftS _ (length_roundW _ _ _ _ hh), length_stepW, hh, over]; done) | (simp [length_roundW _ _ _ _ hh, length_shiftS _ (length_roundW _ _ _ _ hh), length_stepW, hh, over] <;> omega)) (by first | omega | (simp [length_roundW _ _ _ _ hh, length_shiftS _ (length_roundW _ _ _ _ hh), length_stepW, hh, over]; done) | (simp [length_roundW _ _ _ _ hh, length_shiftS _ (length_roundW _ _ _ _ hh), length_stepW, hh, over] <;> omega)) (l' := [_, _, _]) rfl ?_
      refine st_nil ?_
      refine st_then ?_
      refine st_seq ?_
      refine st_seq ?_
      refine st_region ?_
      refine st_v (rv_move rfl) (by decide) ?_
      refine st_v (rv_nilCheck rfl) (by decide) ?_
      refine st_v (rv_fieldAddr Tryd.underlying187 (fs := _) rfl sz121 rfl rfl) (by decide) ?_
      refine st_v (rv_load_old tyS121 rfl hrow hS0 rfl) (by decide) ?_
      refine st_v (rv_lenR (rd_old hK hS1) Tryd.underlying121 rfl) (by decide) ?_
      refine st_v (rv_move rfl) (by decide) ?_
      refine st_nil ?_
      refine st_then ?_
      refine st_block ?_
      refine st_loopA (σ := Nat) [(0, kst _), (1, kst _), (6, kst _), (12, kst _), (104, kst _), (105, kst _), (106, fun t => vI t)] [fun t => blk b2 (c64 (roundW F (schedW F q (F.k.length - 16)) h t)) 163, kst _, kst _] (fun t => t ≤ F.k.length) (fun t => F.k.length - t) 0 (by omega) (.cons rfl (.cons rfl (.cons rfl (.cons rfl (.cons rfl (.cons rfl (.cons rfl (.nil _)))))))) (fun _ hM => hM) ?_
      intro t hI
      try dsimp only at hI
      dsimp only [List.map, kst]
      refine st_seq ?_
      refine st_region ?_
      refine st_v (rv_lssZ rfl rfl) (by decide) ?_
      refine st_nil ?_
      refine st_then ?_
      refine st_seq ?_
      refine st_cond rfl (fun hc107 => ?_) (fun hc107 => ?_)
      · -- t107 True
        try simp only [z1, z2, z3, z4, z5, z6, z7, z8, z9, z10, z11, z12, z13, z14] at hc107
        refine st_skip ?_
        refine st_then ?_
        refine st_seq ?_
        refine st_block ?_
        refine st_seq ?_
        refine st_region ?_
        refine st_v (rv_move rfl) (by decide) ?_
        refine st_v (rv_indexR1 (rd_old hK hS1) Tryd.underlying121 sz77 rfl rfl rfl (by first | omega | (simp [length_roundW _ _ _ _ hh, length_shiftS _ (length_roundW _ _ _ _ hh), length_stepW, hh, over] <;> omega))) (by decide) ?_
        refine st_v (rv_load_rd (rd_old hK hS1) tyS77 rfl (get64 (by first | omega | (simp [length_roundW _ _ _ _ hh, length_shiftS _ (length_roundW _ _ _ _ hh), length_stepW, hh, over] <;> omega)))) (by decide) ?_
        refine st_v (rv_assign rfl) (by decide) ?_
        refine st_v (rv_assign rfl) (by decide) ?_
        refine st_nil ?_
        refine st_then ?_
        refine st_seq ?_
        refine st_drawStart mixed ?_
        refine st_drawSeg1 (E0 := [(0, _), (1, _), (6, _), (12, _), (13, _), (14, _), (104, _), (105, _), (106, _)]) [kpeq _, kpeq _, kpeq _, kpeq _, kpeq _, kpeq _, kpeq _, kpeq _, kpeq _, kpeq _, kpeq _, kpeq _, kpeq _, kpeq _, kpeq _, kpeq _, kpeq _, kpeq _, kpeq _, kpeq _, kpeq _, kpeq _, kpeq _, kpeq _, kpeq _, kpeq _, kpeq _, kpeq _, kpeq _] 0 29 [0, 1, 0, 4, 0, 16, 48, 112, 252, 511, 0, 1024, 0, 4096, 15360, 0, 32768, 98304, 0, 262144, 1015808, 2096128, 4194303, 0, 16777215, 0, 0, 100663296, 234881024, 536870911, 1073741823] [0, 1, 6, 12, 13, 14, 104, 105, 106] (by kernel_rfl) (by decide) (by kernel_rfl) (.cons rfl (.cons rfl (.cons rfl (.cons rfl (.cons rfl (.cons rfl (.cons rfl (.cons rfl (.cons rfl (.nil _)))))))))) rfl rfl (hall_cons (hop_val [] [] rfl rfl rfl (by decide) rfl (jnil) (xnil) (fun _ _ _ _ => does_v (rv_indexA Tryd.underlying163 sz77 rfl rfl (j := 7) rfl (by decide) rfl))) (hall_cons (hop_val [(0, 111, _)] [] rfl rfl rfl (by decide) rfl (jcons rfl rfl rfl rfl rfl (jnil)) (xnil) (fun _ _ _ _ => does_v (rv_load_blk tyS77 rfl (i := 0) rfl (cell64 (by first | omega | (simp [length_roundW _ _ _ _ hh, length_shiftS _ (length_roundW _ _ _ _ hh), length_stepW, hh, over] <;> omega)))))) (hall_cons (hop_val [] [] rfl rfl rfl (by decide) rfl (jnil) (xnil) (fun _ _ _ _ => does_v (rv_indexA Tryd.underlying163 sz77 rfl rfl (j := 4) rfl (by decide) rfl))) (hall_cons (hop_val [(2, 113, _)] [] rfl rfl rfl (by decide) rfl (jcons rfl rfl rfl rfl rfl (jnil)) (xnil) (fun _ _ _ _ => does_v (rv_load_blk tyS77 rfl (i := 0) rfl (cell64 (by first | omega | (simp [length_roundW _ _ _ _ hh, length_shiftS _ (length_roundW _ _ _ _ hh), length_stepW, hh, over] <;> omega)))))) (hall_cons (hop_mv rfl (by decide) rfl rfl) (hall_cons (hop_val [(4, 115, _)] [] rfl rfl rfl (by decide) rfl (jcons rfl rfl rfl rfl rfl (jnil)) (xnil) (fun _ _ _ _ => does_v (rv_nilCheck rfl))) (hall_cons (hop_val [(5, 116, _)] [] rfl rfl rfl (by decide) rfl (jcons rfl rfl rfl rfl rfl (jnil)) (xnil) (fun _ _ _ _ => does_v (rv_fieldAddr Tryd.underlying187 (fs := _) rfl sz119 rfl rfl))) (hall_cons (hop_val [(6, 117, _)] [] rfl rfl rfl (by decide) rfl (jcons rfl rfl rfl rfl rfl (jnil)) (xnil) (fun _ _ _ _ => does_v (rv_loadA_old tyA119 rfl hrow hS0 (Nat.le_of_ble_eq_true rfl) (cs' := #[_, _, _]) rfl))) (hall_cons (hop_val [(3, 114, _), (7, 118, _)] [] rfl rfl rfl (by decide) rfl (jcons rfl rfl rfl rfl rfl (jcons rfl rfl rfl rfl rfl (jnil))) (xnil) (fun _ _ _ _ => does_call0 cal180 rfl (fun w hM => sum364_calls _ _ _ _ (by omega) (by omega) (by omega) w))) (hall_cons (hop_val [(1, 112, _), (8, 119, _)] [] rfl rfl rfl (by decide) rfl (jcons rfl rfl rfl rfl rfl (jcons rfl rfl rfl rfl rfl (jnil))) (xnil) (fun _ _ _ _ => does_v (rv_add64 rfl rfl))) (hall_cons (hop_val [] [] rfl rfl rfl (by decide) rfl (jnil) (xnil) (fun _ _ _ _ => does_v (rv_indexA Tryd.underlying163 sz77 rfl rfl (j := 4) rfl (by decide) rfl))) (hall_cons (hop_val [(10, 121, _)] [] rfl rfl rfl (by decide) rfl (jcons rfl rfl rfl rfl rfl (jnil)) (xnil) (fun _ _ _ _ => does_v (rv_load_blk tyS77 rfl (i := 0) rfl (cell64 (by first | omega | (simp [length_roundW _ _ _ _ hh, length_shiftS _ (length_roundW _ _ _ _ hh), length_stepW, hh, over] <;> omega)))))) (hall_cons (hop_val [] [] rfl rfl rfl (by decide) rfl (jnil) (xnil) (fun _ _ _ _ => does_v (rv_indexA Tryd.underlying163 sz77 rfl rfl (j := 5) rfl (by decide) rfl))) (hall_cons (hop_val [(12, 123, _)] [] rfl rfl rfl (by decide) rfl (jcons rfl rfl rfl rfl rfl (jnil)) (xnil) (fun _ _ _ _ => does_v (rv_load_blk tyS77 rfl (i := 0) rfl (cell64 (by first | omega | (simp [length_roundW _ _ _ _ hh, length_shiftS _ (length_roundW _ _ _ _ hh), length_stepW, hh, over] <;> omega)))))) (hall_cons (hop_val [(11, 122, _), (13, 124, _)] [] rfl rfl rfl (by decide) rfl (jcons rfl rfl rfl rfl rfl (jcons rfl rfl rfl rfl rfl (jnil))) (xnil) (fun _ _ _ _ => does_v (rv_and64 rfl rfl))) (hall_cons (hop_val [] [] rfl rfl rfl (by decide) rfl (jnil) (xnil) (fun _ _ _ _ => does_v (rv_indexA Tryd.underlying163 sz77 rfl rfl (j := 4) rfl (by decide) rfl))) (hall_cons (hop_val [(15, 126, _)] [] rfl rfl rfl (by decide) rfl (jcons rfl rfl rfl rfl rfl (jnil)) (xnil) (fun _ _ _ _ => does_v (rv_load_blk tyS77 rfl (i := 0) rfl (cell64 (by first | omega | (simp [length_roundW _ _ _ _ hh, length_shiftS _ (length_roundW _ _ _ _ hh), length_stepW, hh, over] <;> omega)))))) (hall_cons (hop_val [(16, 127, _)] [] rfl rfl rfl (by decide) rfl (jcons rfl rfl rfl rfl rfl (jnil)) (xnil) (fun _ _ _ _ => does_v (rv_com64 rfl))) (hall_cons (hop_val [] [] rfl rfl rfl (by decide) rfl (jnil) (xnil) (fun _ _ _ _ => does_v (rv_indexA Tryd.underlying163 sz77 rfl rfl (j := 6) rfl (by decide) rfl))) (hall_cons (hop_val [(18, 129, _)] [] rfl rfl rfl (by decide) rfl (jcons rfl rfl rfl rfl rfl (jnil)) (xnil) (fun _ _ _ _ => does_v (rv_load_blk tyS77 rfl (i := 0) rfl (cell64 (by first | omega | (simp [length_roundW _ _ _ _ hh, length_shiftS _ (length_roundW _ _ _ _ hh), length_stepW, hh, over] <;> omega)))))) (hall_cons (hop_val [(17, 128, _), (19, 130, _)] [] rfl rfl rfl (by decide) rfl (jcons rfl rfl rfl rfl rfl (jcons rfl rfl rfl rfl rfl (jnil))) (xnil) (fun _ _ _ _ => does_v (rv_and64 rfl rfl))) (hall_cons (hop_val [(14, 125, _), (20, 131, _)] [] rfl rfl rfl (by decide) rfl (jcons rfl rfl rfl rfl rfl (jcons rfl rfl rfl rfl rfl (jnil))) (xnil) (fun _ _ _ _ => does_v (rv_or64 rfl rfl))) (hall_cons (hop_val [(9, 120, _), (21, 132, _)] [] rfl rfl rfl (by decide) rfl (jcons rfl rfl rfl rfl rfl (jcons rfl rfl rfl rfl rfl (jnil))) (xnil) (fun _ _ _ _ => does_v (rv_add64 rfl rfl))) (hall_cons (hop_mv rfl (by decide) rfl rfl) (hall_cons (hop_val [(22, 133, _), (23, 134, _)] [] rfl rfl rfl (by decide) rfl (jcons rfl rfl rfl rfl rfl (jcons rfl rfl rfl rfl rfl (jnil))) (xnil) (fun _ _ _ _ => does_v (rv_add64 rfl rfl))) (hall_cons (hop_mv rfl (by decide) rfl rfl) (hall_cons (hop_mv rfl (by decide) rfl rfl) (hall_cons (hop_val [(25, 136, _), (26, 137, _)] [] rfl rfl rfl (by decide) rfl (jcons rfl rfl rfl rfl rfl (jcons rfl rfl rfl rfl rfl (jnil))) (xnil) (fun _ _ _ _ => does_v (rv_indexS Tryd.underlying121 sz77 rfl rfl rfl (by first | omega | (simp [length_roundW _ _ _ _ hh, length_shiftS _ (length_roundW _ _ _ _ hh), length_stepW, hh, over] <;> omega)) (by first | exact (Nat.zero_add _).trans (Nat.mul_one _) | exact congrArg _ (Nat.mul_one _) | rfl)))) (hall_cons (hop_val [(27, 138, _)] [] rfl rfl rfl (by decide) rfl (jcons rfl rfl rfl rfl rfl (jnil)) (xnil) (fun _ _ _ _ => does_v (rv_load_blk tyS77 rfl (i := 1) rfl (cell64 (by first | omega | (simp [length_roundW _ _ _ _ hh, length_shiftS _ (length_roundW _ _ _ _ hh), length_stepW, hh, over] <;> omega)))))) (hall_nil)))))))))))))))))))))))))))))) (draw_end1 [(24, 135, _), (28, 139, _)] (jcons rfl rfl rfl rfl rfl (jcons rfl rfl rfl rfl rfl (jnil))) ?_)
        refine st_drawTail (N := 29) [0, 1, 0, 4, 0, 16, 48, 112, 252, 511, 0, 1024, 0, 4096, 15360, 0, 32768, 98304, 0, 262144, 1015808, 2096128, 4194303, 0, 16777215, 0, 0, 100663296, 234881024, 536870911, 1073741823] (by kernel_rfl) (by kernel_rfl) ?_
        refine st_v (rv_add64 rfl rfl) (by decide) ?_
        refine st_v (rv_assign rfl) (by decide) ?_
        refine st_nil ?_
        refine st_then ?_
        refine st_seq ?_
        refine st_drawStart mixed ?_
        refine st_drawSeg1 (E0 := [(0, _), (1, _), (6, _), (12, _), (15, _), (104, _), (105, _), (106, _)]) [kpeq _, kpeq _, kpeq _, kpeq _, kpeq _, kpeq _, kpeq _, kpeq _, kpeq _, kpeq _, kpeq _, kpeq _, kpeq _, kpeq _, kpeq _, kpeq _, kpeq _, kpeq _, kpeq _, kpeq _, kpeq _, kpeq _, kpeq _, kpeq _] 0 24 [0, 1, 0, 4, 12, 28, 63, 0, 128, 0, 512, 1920, 0, 4096, 0, 16384, 61440, 130944, 0, 262144, 0, 1048576, 3932160, 8388480, 16777215, 33554431] [0, 1, 6, 12, 15, 104, 105, 106] (by kernel_rfl) (by decide) (by kernel_rfl) (.cons rfl (.cons rfl (.cons rfl (.cons rfl (.cons rfl (.cons rfl (.cons rfl (.cons rfl (.nil _))))))))) rfl rfl (hall_cons (hop_val [] [] rfl rfl rfl (by decide) rfl (jnil) (xnil) (fun _ _ _ _ => does_v (rv_indexA Tryd.underlying163 sz77 rfl rfl (j := 0) rfl (by decide) rfl))) (hall_cons (hop_val [(0, 141, _)] [] rfl rfl rfl (by decide) rfl (jcons rfl rfl rfl rfl rfl (jnil)) (xnil) (fun _ _ _ _ => does_v (rv_load_blk tyS77 rfl (i := 0) rfl (cell64 (by first | omega | (simp [length_roundW _ _ _ _ hh, length_shiftS _ (length_roundW _ _ _ _ hh), length_stepW, hh, over] <;> omega)))))) (hall_cons (hop_mv rfl (by decide) rfl rfl) (hall_cons (hop_val [(2, 143, _)] [] rfl rfl rfl (by decide) rfl (jcons rfl rfl rfl rfl rfl (jnil)) (xnil) (fun _ _ _ _ => does_v (rv_nilCheck rfl))) (hall_cons (hop_val [(3, 144, _)] [] rfl rfl rfl (by decide) rfl (jcons rfl rfl rfl rfl rfl (jnil)) (xnil) (fun _ _ _ _ => does_v (rv_fieldAddr Tryd.underlying187 (fs := _) rfl sz119 rfl rfl))) (hall_cons (hop_val [(4, 145, _)] [] rfl rfl rfl (by decide) rfl (jcons rfl rfl rfl rfl rfl (jnil)) (xnil) (fun _ _ _ _ => does_v (rv_loadA_old tyA119 rfl hrow hS0 (Nat.le_of_ble_eq_true rfl) (cs' := #[_, _, _]) rfl))) (hall_cons (hop_val [(1, 142, _), (5, 146, _)] [] rfl rfl rfl (by decide) rfl (jcons rfl rfl rfl rfl rfl (jcons rfl rfl rfl rfl rfl (jnil))) (xnil) (fun _ _ _ _ => does_call0 cal180 rfl (fun w hM => sum364_calls _ _ _ _ (by omega) (by omega) (by omega) w))) (hall_cons (hop_val [] [] rfl rfl rfl (by decide) rfl (jnil) (xnil) (fun _ _ _ _ => does_v (rv_indexA Tryd.underlying163 sz77 rfl rfl (j := 0) rfl (by decide) rfl))) (hall_cons (hop_val [(7, 148, _)] [] rfl rfl rfl (by decide) rfl (jcons rfl rfl rfl rfl rfl (jnil)) (xnil) (fun _ _ _ _ => does_v (rv_load_blk tyS77 rfl (i := 0) rfl (cell64 (by first | omega | (simp [length_roundW _ _ _ _ hh, length_shiftS _ (length_roundW _ _ _ _ hh), length_stepW, hh, over] <;> omega)))))) (hall_cons (hop_val [] [] rfl rfl rfl (by decide) rfl (jnil) (xnil) (fun _ _ _ _ => does_v (rv_indexA Tryd.underlying163 sz77 rfl rfl (j := 1) rfl (by decide) rfl))) (hall_cons (hop_val [(9, 150, _)] [] rfl rfl rfl (by decide) rfl (jcons rfl rfl rfl rfl rfl (jnil)) (xnil) (fun _ _ _ _ => does_v (rv_load_blk tyS77 rfl (i := 0) rfl (cell64 (by first | omega | (simp [length_roundW _ _ _ _ hh, length_shiftS _ (length_roundW _ _ _ _ hh), length_stepW, hh, over] <;> omega)))))) (hall_cons (hop_val [(8, 149, _), (10, 151, _)] [] rfl rfl rfl (by decide) rfl (jcons rfl rfl rfl rfl rfl (jcons rfl rfl rfl rfl rfl (jnil))) (xnil) (fun _ _ _ _ => does_v (rv_and64 rfl rfl))) (hall_cons (hop_val [] [] rfl rfl rfl (by decide) rfl (jnil) (xnil) (fun _ _ _ _ => does_v (rv_indexA Tryd.underlying163 sz77 rfl rfl (j := 0) rfl (by decide) rfl))) (hall_cons (hop_val [(12, 153, _)] [] rfl rfl rfl (by decide) rfl (jcons rfl rfl rfl rfl rfl (jnil)) (xnil) (fun _ _ _ _ => does_v (rv_load_blk tyS77 rfl (i := 0) rfl (cell64 (by first | omega | (simp [length_roundW _ _ _ _ hh, length_shiftS _ (length_roundW _ _ _ _ hh), length_stepW, hh, over] <;> omega)))))) (hall_cons (hop_val [] [] rfl rfl rfl (by decide) rfl (jnil) (xnil) (fun _ _ _ _ => does_v (rv_indexA Tryd.underlying163 sz77 rfl rfl (j := 2) rfl (by decide) rfl))) (hall_cons (hop_val [(14, 155, _)] [] rfl rfl rfl (by decide) rfl (jcons rfl rfl rfl rfl rfl (jnil)) (xnil) (fun _ _ _ _ => does_v (rv_load_blk tyS77 rfl (i := 0) rfl (cell64 (by first | omega | (simp [length_roundW _ _ _ _ hh, length_shiftS _ (length_roundW _ _ _ _ hh), length_stepW, hh, over] <;> omega)))))) (hall_cons (hop_val [(13, 154, _), (15, 156, _)] [] rfl rfl rfl (by decide) rfl (jcons rfl rfl rfl rfl rfl (jcons rfl rfl rfl rfl rfl (jnil))) (xnil) (fun _ _ _ _ => does_v (rv_and64 rfl rfl))) (hall_cons (hop_val [(11, 152, _), (16, 157, _)] [] rfl rfl rfl (by decide) rfl (jcons rfl rfl rfl rfl rfl (jcons rfl rfl rfl rfl rfl (jnil))) (xnil) (fun _ _ _ _ => does_v (rv_or64 rfl rfl))) (hall_cons (hop_val [] [] rfl rfl rfl (by decide) rfl (jnil) (xnil) (fun _ _ _ _ => does_v (rv_indexA Tryd.underlying163 sz77 rfl rfl (j := 1) rfl (by decide) rfl))) (hall_cons (hop_val [(18, 159, _)] [] rfl rfl rfl (by decide) rfl (jcons rfl rfl rfl rfl rfl (jnil)) (xnil) (fun _ _ _ _ => does_v (rv_load_blk tyS77 rfl (i := 0) rfl (cell64 (by first | omega | (simp [length_roundW _ _ _ _ hh, length_shiftS _ (length_roundW _ _ _ _ hh), length_stepW, hh, over] <;> omega)))))) (hall_cons (hop_val [] [] rfl rfl rfl (by decide) rfl (jnil) (xnil) (fun _ _ _ _ => does_v (rv_indexA Tryd.underlying163 sz77 rfl rfl (j := 2) rfl (by decide) rfl))) (hall_cons (hop_val [(20, 161, _)] [] rfl rfl rfl (by decide) rfl (jcons rfl rfl rfl rfl rfl (jnil)) (xnil) (fun _ _ _ _ => does_v (rv_load_blk tyS77 rfl (i := 0) rfl (cell64 (by first | omega | (simp [length_roundW _ _ _ _ hh, length_shiftS _ (length_roundW _ _ _ _ hh), length_stepW, hh, over] <;> omega)))))) (hall_cons (hop_val [(19, 160, _), (21, 162, _)] [] rfl rfl rfl (by decide) rfl (jcons rfl rfl rfl rfl rfl (jcons rfl rfl rfl rfl rfl (jnil))) (xnil) (fun _ _ _ _ => does_v (rv_and64 rfl rfl))) (hall_cons (hop_val [(17, 158, _), (22, 163, _)] [] rfl rfl rfl (by decide) rfl (jcons rfl rfl rfl rfl rfl (jcons rfl rfl rfl rfl rfl (jnil))) (xnil) (fun _ _ _ _ => does_v (rv_or64 rfl rfl))) (hall_nil))))))))))))))))))))))))) (draw_end1 [(6, 147, _), (23, 164, _)] (jcons rfl rfl rfl rfl rfl (jcons rfl rfl rfl rfl rfl (jnil))) ?_)
        refine st_drawTail (N := 24) [0, 1, 0, 4, 12, 28, 63, 0, 128, 0, 512, 1920, 0, 4096, 0, 16384, 61440, 130944, 0, 262144, 0, 1048576, 3932160, 8388480, 16777215, 33554431] (by kernel_rfl) (by kernel_rfl) ?_
        refine st_v (rv_add64 rfl rfl) (by decide) ?_
        refine st_v (rv_assign rfl) (by decide) ?_
        refine st_nil ?_
        refine st_then ?_
        refine st_seq ?_
        refine st_drawStart mixed ?_
        refine st_drawSeg1 (E0 := [(0, _), (1, _), (6, _), (12, _), (15, _), (16, _), (104, _), (105, _), (106, _)]) [kpeq _, kpeq _] 0 2 [0, 0, 3] [0, 1, 6, 12, 15, 16, 104, 105, 106] (by kernel_rfl) (by decide) (by kernel_rfl) (.cons rfl (.cons rfl (.cons rfl (.cons rfl (.cons rfl (.cons rfl (.cons rfl (.cons rfl (.cons rfl (.nil _)))))))))) rfl rfl (hall_cons (hop_val [] [] rfl rfl rfl (by decide) rfl (jnil) (xnil) (fun _ _ _ _ => does_v (rv_sliceA Tryd.underlying163 sz77 rfl (evB_some (k := 1) rfl rfl) evB_none (by omega) (by omega) (by decide) rfl))) (hall_cons (hop_val [] [] rfl rfl rfl (by decide) rfl (jnil) (xnil) (fun _ _ _ _ => does_v (rv_sliceA Tryd.underlying163 sz77 rfl evB_none (evB_some (k := 7) rfl rfl) (by omega) (by omega) (by decide) rfl))) (hall_nil))) (draw_end1 [(0, 166, _), (1, 167, _)] (jcons rfl rfl rfl rfl rfl (jcons rfl rfl rfl rfl rfl (jnil))) ?_)
        refine st_drawTail (N := 2) [0, 0, 3] (by kernel_rfl) (by kernel_rfl) ?_
        refine st_copy64 Tryd.underlying121 sz77 rfl rfl (i := 0) rfl (by first | omega | (simp [length_roundW _ _ _ _ hh, length_shiftS _ (length_roundW _ _ _ _ hh), length_stepW, hh, over]; done) | (simp [length_roundW _ _ _ _ hh, length_shiftS _ (length_roundW _ _ _ _ hh), length_stepW, hh, over] <;> omega)) (fun w hM => src_rd ((rd_p64 (i := 0) rfl (by first | omega | (simp [length_roundW _ _ _ _ hh, length_shiftS _ (length_roundW _ _ _ _ hh), length_stepW, hh, over]; done) | (simp [length_roundW _ _ _ _ hh, length_shiftS _ (length_roundW _ _ _ _ hh), length_stepW, hh, over] <;> omega)) (by omega)) w hM) (one64 _)) (l' := [_, _, _]) rfl (by decide) ?_
        refine st_nil ?_
        refine st_then ?_
        refine st_seq ?_
        refine st_region ?_
        refine st_v (rv_indexA Tryd.underlying163 sz77 rfl rfl (j := 4) rfl (by decide) rfl) (by decide) ?_
        refine st_v (rv_load_blk tyS77 rfl (i := 0) rfl (cell64 (by first | omega | (simp [length_roundW _ _ _ _ hh, length_shiftS _ (length_roundW _ _ _ _ hh), length_stepW, hh, over] <;> omega)))) (by decide) ?_
        refine st_v (rv_move rfl) (by decide) ?_
        refine st_v (rv_add64 rfl rfl) (by decide) ?_
        refine st_v (rv_indexA Tryd.underlying163 sz77 rfl rfl (j := 4) rfl (by decide) rfl) (by decide) ?_
        refine st_store64 rfl rfl (i := 0) rfl sz77 (by first | omega | (simp [length_roundW _ _ _ _ hh, length_shiftS _ (length_roundW _ _ _ _ hh), length_stepW, hh, over] <;> omega)) (l' := [_, _, _]) rfl ?_
        refine st_nil ?_
        refine st_then ?_
        refine st_region ?_
        refine st_v (rv_move rfl) (by decide) ?_
        refine st_v (rv_move rfl) (by decide) ?_
        refine st_v (rv_add64 rfl rfl) (by decide) ?_
        refine st_v (rv_indexA Tryd.underlying163 sz77 rfl rfl (j := 0) rfl (by decide) rfl) (by decide) ?_
        refine st_store64 rfl rfl (i := 0) rfl sz77 (by first | omega | (simp [length_roundW _ _ _ _ hh, length_shiftS _ (length_roundW _ _ _ _ hh), length_stepW, hh, over] <;> omega)) (l' := [_, _, _]) rfl ?_
        refine st_nil ?_
        refine st_in_normal ?_
        refine st_then ?_
        refine st_region ?_
        first | refine st_v (rv_addN (b := 1) rfl rfl (by first | omega | (simp; done) | (simp; omega))) (by decide) ?_ | refine st_v (rv_addZ rfl rfl (by first | omega | (simp; done) | (simp; omega))) (by decide) ?_
        refine st_v (rv_move rfl) (by decide) ?_
        refine st_nil ?_
        refine st_then ?_
        exact st_again (t + 1) (by omega) (by omega) (.cons rfl (.cons rfl (.cons rfl (.cons rfl (.cons rfl (.cons rfl (.cons rfl (.nil _)))))))) (fun _ hM => hM)
      · -- t107 False
        try simp only [z1, z2, z3, z4, z5, z6, z7, z8, z9, z10, z11, z12, z13, z14] at hc107
        obtain rfl : t = F.k.length := by omega
        refine st_exit ?_
        refine st_then_exit ?_
        refine st_then_exit ?_
        refine st_in_exit ?_
        refine st_then ?_
        refine st_seq ?_
        refine st_region ?_
        refine st_v (rv_move rfl) (by decide) ?_
        refine st_nil ?_
        refine st_then ?_
        refine st_block ?_
        refine st_loopA (σ := Nat) [(1, kst _), (12, kst _), (179, fun i => vI i)] [kst _, kst _, fun i => blk b (spl cs off ((addH h (roundW F (schedW F q (F.k.length - 16)) h F.k.length) i).map U64)) T] (fun i => i ≤ 8) (fun i => 8 - i) 0 (by omega) (.cons rfl (.cons rfl (.cons rfl (.nil _)))) (fun _ hM => hM) ?_
        intro i hI
        try dsimp only at hI
        dsimp only [List.map, kst]
        refine st_seq ?_
        refine st_region ?_
        refine st_v (rv_lssZ rfl rfl) (by decide) ?_
        refine st_nil ?_
        refine st_then ?_
        refine st_seq ?_
        refine st_cond rfl (fun hc180 => ?_) (fun hc180 => ?_)
        · -- t180 True
          try simp only [z1, z2, z3, z4, z5, z6, z7, z8, z9, z10, z11, z12, z13, z14] at hc180
          refine st_skip ?_
          refine st_then ?_
          refine st_seq ?_
          refine st_block ?_
          refine st_seq ?_
          refine st_region ?_
          refine st_v (rv_move rfl) (by decide) ?_
          refine st_v (rv_assign rfl) (by decide) ?_
          refine st_nil ?_
          refine st_then ?_
          refine st_drawStart mixed ?_
          refine st_drawSeg1 (E0 := [(1, _), (12, _), (17, _), (179, _)]) [kpeq _, kpeq _, kpeq _, kpeq _, kpeq _, kpeq _, kpeq _, kpeq _, kpeq _, kpeq _] 0 10 [0, 0, 1, 7, 15, 0, 32, 96, 255, 1, 1023, 2047] [1, 12, 17, 179] (by kernel_rfl) (by decide) (by kernel_rfl) (.cons rfl (.cons rfl (.cons rfl (.cons rfl (.nil _))))) rfl rfl (hall_cons (hop_mv rfl (by decide) rfl rfl) (hall_cons (hop_mv rfl (by decide) rfl rfl) (hall_cons (hop_val [(0, 182, _)] [] rfl rfl rfl (by decide) rfl (jcons rfl rfl rfl rfl rfl (jnil)) (xnil) (fun _ _ _ _ => does_v (rv_nilCheck rfl))) (hall_cons (hop_val [(2, 184, _), (1, 183, _)] [] rfl rfl rfl (by decide) rfl (jcons rfl rfl rfl rfl rfl (jcons rfl rfl rfl rfl rfl (jnil))) (xnil) (fun _ _ _ _ => does_v (rv_indexA Tryd.underlying163 sz77 rfl rfl rfl (by first | omega | (simp [length_roundW _ _ _ _ hh, length_shiftS _ (length_roundW _ _ _ _ hh), length_stepW, hh, over] <;> omega)) (by first | exact (Nat.zero_add _).trans (Nat.mul_one _) | exact congrArg _ (Nat.mul_one _) | exact Nat.zero_add _ | rfl)))) (hall_cons (hop_val [(3, 185, _)] [] rfl rfl rfl (by decide) rfl (jcons rfl rfl rfl rfl rfl (jnil)) (xnil) (fun _ _ _ _ => does_v (rv_load_blk tyS77 rfl (i := 2) rfl (spl_get U64 0#64 (by simp [length_addH, hh]; omega) (by simp [length_addH, hh]; omega))))) (hall_cons (hop_mv rfl (by decide) rfl rfl) (hall_cons (hop_val [(5, 187, _)] [] rfl rfl rfl (by decide) rfl (jcons rfl rfl rfl rfl rfl (jnil)) (xnil) (fun _ _ _ _ => does_v (rv_indexA Tryd.underlying163 sz77 rfl rfl rfl (by first | omega | (simp [length_roundW _ _ _ _ hh, length_shiftS _ (length_roundW _ _ _ _ hh), length_stepW, hh, over] <;> omega)) (by first | exact (Nat.zero_add _).trans (Nat.mul_one _) | exact congrArg _ (Nat.mul_one _) | exact Nat.zero_add _ | rfl)))) (hall_cons (hop_val [(6, 188, _)] [] rfl rfl rfl (by decide) rfl (jcons rfl rfl rfl rfl rfl (jnil)) (xnil) (fun _ _ _ _ => does_v (rv_load_blk tyS77 rfl (i := 0) rfl (cell64 (by first | omega | (simp [length_roundW _ _ _ _ hh, length_shiftS _ (length_roundW _ _ _ _ hh), length_stepW, hh, over] <;> omega)))))) (hall_cons (hop_val [(4, 186, _), (7, 189, _)] [] rfl rfl rfl (by decide) rfl (jcons rfl rfl rfl rfl rfl (jcons rfl rfl rfl rfl rfl (jnil))) (xnil) (fun _ _ _ _ => does_v (rv_add64 rfl rfl))) (hall_cons (hop_val [(0, 182, _)] [] rfl rfl rfl (by decide) rfl (jcons rfl rfl rfl rfl rfl (jnil)) (xnil) (fun _ _ _ _ => does_v (rv_nilCheck rfl))) (hall_nil))))))))))) (draw_end1 [(1, 183, _), (8, 190, _), (9, 191, _)] (jcons rfl rfl rfl rfl rfl (jcons rfl rfl rfl rfl rfl (jcons rfl rfl rfl rfl rfl (jnil)))) ?_)
          refine st_drawTail (N := 10) [0, 0, 1, 7, 15, 0, 32, 96, 255, 1, 1023, 2047] (by kernel_rfl) (by kernel_rfl) ?_
          refine st_v (rv_indexA Tryd.underlying163 sz77 rfl rfl rfl (by first | omega | (simp [length_roundW _ _ _ _ hh, length_shiftS _ (length_roundW _ _ _ _ hh), length_stepW, hh, over] <;> omega)) (by first | exact (Nat.zero_add _).trans (Nat.mul_one _) | exact congrArg _ (Nat.mul_one _) | exact Nat.zero_add _ | rfl)) (by decide) ?_
          refine st_store (vs := [_]) rfl rfl (i := 2) rfl sz77 rfl (by simp; omega) (one1 rfl) (spl_set U64 (by simp [length_addH, hh]; omega) (by simp [length_addH, hh]; omega)) (l' := [_, _, _]) rfl ?_
          refine st_nil ?_
          refine st_in_normal ?_
          refine st_then ?_
          refine st_region ?_
          first | refine st_v (rv_addN (b := 1) rfl rfl (by first | omega | (simp; done) | (simp; omega))) (by decide) ?_ | refine st_v (rv_addZ rfl rfl (by first | omega | (simp; done) | (simp; omega))) (by decide) ?_
          refine st_v (rv_move rfl) (by decide) ?_
          refine st_nil ?_
          refine st_then ?_
          exact st_again (i + 1) (by omega) (by omega) (.cons rfl (.cons rfl (.cons rfl (.nil _)))) (fun _ hM => hM)
        · -- t180 False
          try simp only [z1, z2, z3, z4, z5, z6, z7, z8, z9, z10, z11, z12, z13, z14] at hc180
          obtain rfl : i = 8 := by omega
          refine st_exit ?_
          refine st_then_exit ?_
          refine st_then_exit ?_
          refine st_in_exit ?_
          exact st_done0' rfl (fun w hM => ⟨rfl, hM.sublist (List.Sublist.cons _ (List.Sublist.cons _ (List.Sublist.refl _)))⟩)
end Go.Proofs.YtjhjjhpfjadjpaaDoor
