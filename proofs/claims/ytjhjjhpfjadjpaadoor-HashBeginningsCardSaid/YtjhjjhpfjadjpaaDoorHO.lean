/- Walks: what functions of the given program do, operation by operation. Written by wip/gen. -/
import Derived.Test.YtjhjjhpfjadjpaaDoorHK
namespace Go.Proofs.YtjhjjhpfjadjpaaDoor
set_option linter.all false
open Go
/-- a key, no longer than a block -/
def keyN (k : Nat) (key : List (BitVec 8)) : List (BitVec 8) := if hbs k < key.length then hsum k key else key
def xorTo (l : List (BitVec 8)) (b : BitVec 8) : Nat → List (BitVec 8)
  | 0 => l
  | i + 1 => (xorTo l b i).set i ((xorTo l b i).getD i 0#8 ^^^ b)
theorem length_xorTo (l : List (BitVec 8)) (b : BitVec 8) (i : Nat) : (xorTo l b i).length = l.length := by
  induction i with
  | zero => rfl
  | succ i ih => simp [xorTo, ih]
def key0 (k : Nat) (key : List (BitVec 8)) : List (BitVec 8) := over (List.replicate (hbs k) 0#8) 0 ((keyN k key).take (min (hbs k) (keyN k key).length))
def kpad (k : Nat) (key : List (BitVec 8)) (b : BitVec 8) : List (BitVec 8) := xorTo (key0 k key) b (hbs k)
theorem kpadL {k : Nat} (h2 : k ≤ 2) {q : List (BitVec 8)} (hk : hbs k < q.length) (b : BitVec 8) : xorTo (over (List.replicate (hbs k) 0#8) 0 ((hsum k q).take (min (hsize k) (hbs k)))) b (hbs k) = kpad k q b := by
  rw [kpad, key0, keyN, if_pos hk, length_hsum h2, Nat.min_comm]
theorem kpadS {k : Nat} {q : List (BitVec 8)} (hk : q.length ≤ hbs k) (b : BitVec 8) : xorTo (over (List.replicate (hbs k) 0#8) 0 (q.take (min q.length (hbs k)))) b (hbs k) = kpad k q b := by
  rw [kpad, key0, keyN, if_neg (by omega), Nat.min_comm]
theorem Mem.c8Own {S : Nat → Prop} {w0 w : World} {l : List Asn} {i b n : Nat} {q : List (BitVec 8)} {T : TypeId} (M : Mem S w0 w l) (h : l[i]? = some (blk b (c8 q) T)) (hq : q.length = n) : Mem S w0 w (l.set i (own (sl b 0 n n) T 1 n (q.map U8))) :=
  M.toOwn (i := i) (off := 0) (n := n) (cap := n) (size := 1) (xs := q.map U8) h (by simp [hq]) (Nat.le_refl _) (by simp [c8, hq]) (fun j u hj => by
    rw [Nat.zero_add]
    show ((q.map U8).toArray)[j]? = some u
    rw [List.getElem?_toArray]; exact hj)

set_option maxRecDepth 20000 in
set_option maxHeartbeats 1000000 in
theorem newKeyed0L_calls (v : Value) (q : List (BitVec 8)) (hq : q.length ≤ 900000) (hk : hbs 0 < q.length) (w : World) (hL : LaidH w) (hR : Rd w v q.length 1 (q.map U8)) : Calls Tryd.prog 86 #[vI (0 : Nat), v] w (fun e w' => ∃ r : Nat × Value × Value, e = .returned (pt r.1 0) ∧ Mem (All w) w w' [blk r.1 #[vI (0 : Nat), r.2.1, r.2.2] 173, own r.2.1 5 1 (hbs 0) ((kpad 0 q 54#8).map U8), own r.2.2 5 1 (hbs 0) ((kpad 0 q 92#8).map U8)]) := by
  refine calls_of_st (n := 65) (args := [vI (0 : Nat), v]) Tryd.func86 rfl Tryd.ntmps86 (Nat.le_of_ble_eq_true rfl) (Mem.all w) ?_
  refine st_seq ?_
  refine st_region ?_
  refine st_v (rv_assign rfl) (by decide) ?_
  refine st_nil ?_
  refine st_then ?_
  refine st_seq ?_
  refine st_region ?_
  refine st_v (rv_move rfl) (by decide) ?_
  refine st_call1 (ρ := HP) (fun r => pt r.hb 0) (fun _ => True) (fun r => [hashM 0 r.hb r.sb r.fp r.vb [], famM 0 r.fp r.kv]) cal82 rfl (fun w hM => ((begin0_calls w (hL.at hM))).mono fun e w' ⟨r, h1, h2⟩ => ⟨r, h1, trivial, h2⟩) (by decide) (fun r1 _ => ?_)
  refine St.mem ?_ (fun w hM => Mem.unpack (lm := hashL U32 154 159 117 F256 64 h256 0 r1.hb r1.sb r1.fp r1.vb []) (lf := [_]) hM)
  refine st_v (rv_nilCheck rfl) (by decide) ?_
  refine st_v (rv_fieldAddr Tryd.underlying117 (fs := _) rfl sz115 rfl rfl) (by decide) ?_
  refine st_v (rv_load_blk tyS115 rfl (i := 0) rfl rfl) (by decide) ?_
  refine st_inv1 (ρ := Unit) (fun _ => vI (64 : Nat)) (fun _ => True) (fun _ => []) metsize32 cal164 rfl rfl (fun w hM => (size32_calls _ w).mono fun e w' ⟨h1, h2⟩ => ⟨(), h1, trivial, h2⟩) (by decide) (fun _ _ => ?_)
  refine st_v (rv_assign rfl) (by decide) ?_
  refine st_nil ?_
  refine st_then ?_
  refine st_seq ?_
  refine st_seq ?_
  refine st_region ?_
  refine st_v (rv_move rfl) (by decide) ?_
  refine st_v (rv_lenR (rd_old hR hR.all) Tryd.underlying22 rfl) (by decide) ?_
  refine st_v (rv_move rfl) (by decide) ?_
  refine st_v (rv_to (u := .bool true) (rv_gtrZ rfl rfl) (by simp [hbs] at hk ⊢; omega)) (by decide) ?_
  refine st_nil ?_
  refine st_then ?_
  refine st_true rfl ?_
  refine st_region ?_
  refine st_v (rv_move rfl) (by decide) ?_
  refine st_v (rv_move rfl) (by decide) ?_
  refine st_buildO1 Tryd.underlying166 tyZ22 rfl rfl (fun w hM => cells_rd ((rd_old hR hR.all) w hM)) (by decide) (fun v2 => ?_)
  refine st_callV cal83 rfl (fun w hM => (of1_calls 0 (by decide) _ v q hq w (hL.at hM) ((rd_own (i := 0) rfl) w hM) (rd_old hR hR.all w hM))) (by decide) (fun v3 => ?_)
  refine st_v (rv_assign rfl) (by decide) ?_
  refine st_nil ?_
  refine st_then ?_
  refine st_seq ?_
  refine st_drawStart mixed ?_
  refine st_drawSeg1 (E0 := [(0, _), (1, _), (5, _)]) [kpeq _, kpeq _, (fun _ v => slV (c8 (List.replicate (64) 0#8)) 5 (64) v), kpeq _, (fun _ v => slV (c8 (List.replicate (64) 0#8)) 5 (64) v)] 0 5 [0, 0, 2, 0, 8, 31, 63, 127] [0, 1, 5] (by kernel_rfl) (by decide) (by kernel_rfl) (.cons rfl (.cons rfl (.cons rfl (.nil _)))) rfl rfl (hall_cons (hop_mv rfl (by decide) rfl rfl) (hall_cons (hop_mv rfl (by decide) rfl rfl) (hall_cons (hop_val [(1, 23, _)] [] rfl rfl rfl (by decide) rfl (jcons rfl rfl rfl rfl rfl (jnil)) (xnil) (fun _ _ _ _ => @does_make8 _ _ _ _ _ _ _ _ _ _ _ _ _ _ _ _ (64) Tryd.underlying22 tyZ5 rfl rfl (by first | omega | (simp [length_xorTo, over] <;> omega)) (by first | omega | (simp [length_xorTo, over] <;> omega)))) (hall_cons (hop_mv rfl (by decide) rfl rfl) (hall_cons (hop_val [(3, 25, _)] [] rfl rfl rfl (by decide) rfl (jcons rfl rfl rfl rfl rfl (jnil)) (xnil) (fun _ _ _ _ => @does_make8 _ _ _ _ _ _ _ _ _ _ _ _ _ _ _ _ (64) Tryd.underlying22 tyZ5 rfl rfl (by first | omega | (simp [length_xorTo, over] <;> omega)) (by first | omega | (simp [length_xorTo, over] <;> omega)))) (hall_nil)))))) (draw_end [(0, 22, _)] [(2, 24, (fun _ v => slV (c8 (List.replicate (64) 0#8)) 5 (64) v)), (4, 26, (fun _ v => slV (c8 (List.replicate (64) 0#8)) 5 (64) v))] rfl (jcons rfl rfl rfl rfl rfl (jnil)) (xcons rfl rfl rfl rfl rfl rfl (xcons rfl rfl rfl rfl rfl rfl (xnil))) (fun vals => ?_))
  dsimp only [xenv, xmem]
  refine st_openS (i := 0) rfl (fun b4 hb4 => ?_)
  rw [hb4]
  refine st_openS (i := 1) rfl (fun b5 hb5 => ?_)
  rw [hb5]
  refine st_drawTail (N := 5) [0, 0, 2, 0, 8, 31, 63, 127] (by kernel_rfl) (by kernel_rfl) ?_
  refine st_v (rv_buildStruct_of Tryd.underlying173 tyZ173 (places := [(0, 1), (1, 1), (2, 1)]) (by kernel_rfl) rfl (cs := #[_, _, _]) (by rfl)) (by decide) ?_
  refine st_box rfl (by decide) rfl (fun b6 hb6 => ?_)
  refine st_v (rv_assign rfl) (by decide) ?_
  refine st_nil ?_
  refine st_then ?_
  refine st_seq ?_
  refine st_region ?_
  refine st_v (rv_move rfl) (by decide) ?_
  refine st_v (rv_nilCheck rfl) (by decide) ?_
  refine st_v (rv_fieldAddr Tryd.underlying173 (fs := _) rfl sz22 rfl rfl) (by decide) ?_
  refine st_v (rv_load_blk tyS22 rfl (i := 0) rfl rfl) (by decide) ?_
  refine st_v (rv_move rfl) (by decide) ?_
  refine st_copy8 Tryd.underlying22 sz5 rfl rfl (i := 1) rfl (by first | omega | (simp [length_xorTo, over]; done) | (simp [length_xorTo, over] <;> omega)) (fun w hM => src_rd ((rd_own (i := 3) rfl) w hM) (one8 _)) (l' := [_, _, _, _, _, _, _, _]) rfl (by decide) ?_
  refine st_nil ?_
  refine st_then ?_
  refine st_seq ?_
  refine st_region ?_
  refine st_v (rv_move rfl) (by decide) ?_
  refine st_v (rv_nilCheck rfl) (by decide) ?_
  refine st_v (rv_fieldAddr Tryd.underlying173 (fs := _) rfl sz22 rfl rfl) (by decide) ?_
  refine st_v (rv_load_blk tyS22 rfl (i := 0) rfl rfl) (by decide) ?_
  refine st_v (rv_move rfl) (by decide) ?_
  refine st_copy8 Tryd.underlying22 sz5 rfl rfl (i := 2) rfl (by first | omega | (simp [length_xorTo, over]; done) | (simp [length_xorTo, over] <;> omega)) (fun w hM => src_rd ((rd_own (i := 3) rfl) w hM) (one8 _)) (l' := [_, _, _, _, _, _, _, _]) rfl (by decide) ?_
  refine st_nil ?_
  refine st_then ?_
  refine st_seq ?_
  refine st_seq ?_
  refine st_region ?_
  refine st_v (rv_move rfl) (by decide) ?_
  refine st_v (rv_move rfl) (by decide) ?_
  refine st_nil ?_
  refine st_then ?_
  refine st_block ?_
  refine st_loopA (σ := Nat) [(6, kst _), (41, kst _), (42, fun i => vI i)] [kst _, fun i => blk b4 (c8 (xorTo (over (List.replicate 64 0#8) 0 ((hsum 0 q).take (min (hsize 0) 64))) 54#8 i)) 5, fun i => blk b5 (c8 (xorTo (over (List.replicate 64 0#8) 0 ((hsum 0 q).take (min (hsize 0) 64))) 92#8 i)) 5, kst _, kst _, kst _, kst _, kst _] (fun i => i ≤ 64) (fun i => 64 - i) 0 (by omega) (.cons rfl (.cons rfl (.cons rfl (.nil _)))) (fun _ hM => hM) ?_
  intro i hI
  try dsimp only at hI
  dsimp only [List.map, kst]
  refine st_seq ?_
  refine st_region ?_
  refine st_v (rv_lssZ rfl rfl) (by decide) ?_
  refine st_nil ?_
  refine st_then ?_
  refine st_seq ?_
  refine st_cond rfl (fun hc43 => ?_) (fun hc43 => ?_)
  · -- t43 True
    try simp only [z1, z2, z3, z4, z5, z6, z7, z8, z9, z10, z11, z12, z13, z14] at hc43
    refine st_skip ?_
    refine st_then ?_
    refine st_seq ?_
    refine st_block ?_
    refine st_seq ?_
    refine st_region ?_
    refine st_v (rv_move rfl) (by decide) ?_
    refine st_v (rv_assign rfl) (by decide) ?_
    refine st_nil ?_
    refine st_then ?_
    refine st_seq ?_
    refine st_region ?_
    refine st_v (rv_move rfl) (by decide) ?_
    refine st_v (rv_nilCheck rfl) (by decide) ?_
    refine st_v (rv_fieldAddr Tryd.underlying173 (fs := _) rfl sz22 rfl rfl) (by decide) ?_
    refine st_v (rv_load_blk tyS22 rfl (i := 0) rfl rfl) (by decide) ?_
    refine st_v (rv_move rfl) (by decide) ?_
    refine st_v (rv_indexS Tryd.underlying22 sz5 rfl rfl rfl (by first | omega | (simp [length_xorTo, over] <;> omega)) (by first | exact (Nat.zero_add _).trans (Nat.mul_one _) | exact congrArg _ (Nat.mul_one _) | rfl)) (by decide) ?_
    refine st_v (rv_load_blk tyS5 rfl (i := 1) rfl (cell8 (by first | omega | (simp [length_xorTo, over] <;> omega)))) (by decide) ?_
    refine st_v (rv_xor8 (b := 54#8) rfl rfl) (by decide) ?_
    refine st_v (rv_indexS Tryd.underlying22 sz5 rfl rfl rfl (by first | omega | (simp [length_xorTo, over] <;> omega)) (by first | exact (Nat.zero_add _).trans (Nat.mul_one _) | exact congrArg _ (Nat.mul_one _) | rfl)) (by decide) ?_
    refine st_store8 rfl rfl (i := 1) rfl sz5 (by first | omega | (simp [length_xorTo, over] <;> omega)) (l' := [_, _, _, _, _, _, _, _]) rfl ?_
    refine st_nil ?_
    refine st_then ?_
    refine st_region ?_
    refine st_v (rv_move rfl) (by decide) ?_
    refine st_v (rv_nilCheck rfl) (by decide) ?_
    refine st_v (rv_fieldAddr Tryd.underlying173 (fs := _) rfl sz22 rfl rfl) (by decide) ?_
    refine st_v (rv_load_blk tyS22 rfl (i := 0) rfl rfl) (by decide) ?_
    refine st_v (rv_move rfl) (by decide) ?_
    refine st_v (rv_indexS Tryd.underlying22 sz5 rfl rfl rfl (by first | omega | (simp [length_xorTo, over] <;> omega)) (by first | exact (Nat.zero_add _).trans (Nat.mul_one _) | exact congrArg _ (Nat.mul_one _) | rfl)) (by decide) ?_
    refine st_v (rv_load_blk tyS5 rfl (i := 2) rfl (cell8 (by first | omega | (simp [length_xorTo, over] <;> omega)))) (by decide) ?_
    refine st_v (rv_xor8 (b := 92#8) rfl rfl) (by decide) ?_
    refine st_v (rv_indexS Tryd.underlying22 sz5 rfl rfl rfl (by first | omega | (simp [length_xorTo, over] <;> omega)) (by first | exact (Nat.zero_add _).trans (Nat.mul_one _) | exact congrArg _ (Nat.mul_one _) | rfl)) (by decide) ?_
    refine st_store8 rfl rfl (i := 2) rfl sz5 (by first | omega | (simp [length_xorTo, over] <;> omega)) (l' := [_, _, _, _, _, _, _, _]) rfl ?_
    refine st_nil ?_
    refine st_in_normal ?_
    refine st_then ?_
    refine st_region ?_
    first | refine st_v (rv_addN (b := 1) rfl rfl (by first | omega | (simp; done) | (simp; omega))) (by decide) ?_ | refine st_v (rv_addZ rfl rfl (by first | omega | (simp; done) | (simp; omega))) (by decide) ?_
    refine st_v (rv_move rfl) (by decide) ?_
    refine st_nil ?_
    refine st_then ?_
    exact st_again (i + 1) (by omega) (by omega) (.cons rfl (.cons rfl (.cons rfl (.nil _)))) (fun _ hM => hM)
  · -- t43 False
    try simp only [z1, z2, z3, z4, z5, z6, z7, z8, z9, z10, z11, z12, z13, z14] at hc43
    obtain rfl : i = 64 := by omega
    refine st_exit ?_
    refine st_then_exit ?_
    refine st_then_exit ?_
    refine st_in_exit ?_
    refine st_then ?_
    refine st_seq ?_
    refine st_region ?_
    refine st_v (rv_move rfl) (by decide) ?_
    refine st_v (rv_assign rfl) (by decide) ?_
    refine st_nil ?_
    refine st_then ?_
    refine st_ret ?_
    exact st_done rfl rfl (fun w hM => ⟨(b6, sl b4 0 64 64, sl b5 0 64 64), rfl, by
    have hM := hM.c8Own (i := 1) (n := 64) rfl (by simp [length_xorTo, over] <;> omega)
    have hM := hM.c8Own (i := 2) (n := 64) rfl (by simp [length_xorTo, over] <;> omega)
    have hM := (Mem.front (Mem.front (Mem.front hM (i := 2) rfl) (i := 2) rfl) (i := 2) rfl)
    have hM := hM.sublist (List.cons_sublist_cons.2 (List.cons_sublist_cons.2 (List.cons_sublist_cons.2 (List.nil_sublist _))))
    rw [← (kpadL (k := 0) (by decide) hk _), ← (kpadL (k := 0) (by decide) hk _)]
    exact hM⟩)
set_option maxRecDepth 20000 in
set_option maxHeartbeats 1000000 in
theorem newKeyed0S_calls (v : Value) (q : List (BitVec 8)) (hq : q.length ≤ 900000) (hk : q.length ≤ hbs 0) (w : World) (hL : LaidH w) (hR : Rd w v q.length 1 (q.map U8)) : Calls Tryd.prog 86 #[vI (0 : Nat), v] w (fun e w' => ∃ r : Nat × Value × Value, e = .returned (pt r.1 0) ∧ Mem (All w) w w' [blk r.1 #[vI (0 : Nat), r.2.1, r.2.2] 173, own r.2.1 5 1 (hbs 0) ((kpad 0 q 54#8).map U8), own r.2.2 5 1 (hbs 0) ((kpad 0 q 92#8).map U8)]) := by
  refine calls_of_st (n := 65) (args := [vI (0 : Nat), v]) Tryd.func86 rfl Tryd.ntmps86 (Nat.le_of_ble_eq_true rfl) (Mem.all w) ?_
  refine st_seq ?_
  refine st_region ?_
  refine st_v (rv_assign rfl) (by decide) ?_
  refine st_nil ?_
  refine st_then ?_
  refine st_seq ?_
  refine st_region ?_
  refine st_v (rv_move rfl) (by decide) ?_
  refine st_call1 (ρ := HP) (fun r => pt r.hb 0) (fun _ => True) (fun r => [hashM 0 r.hb r.sb r.fp r.vb [], famM 0 r.fp r.kv]) cal82 rfl (fun w hM => ((begin0_calls w (hL.at hM))).mono fun e w' ⟨r, h1, h2⟩ => ⟨r, h1, trivial, h2⟩) (by decide) (fun r1 _ => ?_)
  refine St.mem ?_ (fun w hM => Mem.unpack (lm := hashL U32 154 159 117 F256 64 h256 0 r1.hb r1.sb r1.fp r1.vb []) (lf := [_]) hM)
  refine st_v (rv_nilCheck rfl) (by decide) ?_
  refine st_v (rv_fieldAddr Tryd.underlying117 (fs := _) rfl sz115 rfl rfl) (by decide) ?_
  refine st_v (rv_load_blk tyS115 rfl (i := 0) rfl rfl) (by decide) ?_
  refine st_inv1 (ρ := Unit) (fun _ => vI (64 : Nat)) (fun _ => True) (fun _ => []) metsize32 cal164 rfl rfl (fun w hM => (size32_calls _ w).mono fun e w' ⟨h1, h2⟩ => ⟨(), h1, trivial, h2⟩) (by decide) (fun _ _ => ?_)
  refine st_v (rv_assign rfl) (by decide) ?_
  refine st_nil ?_
  refine st_then ?_
  refine st_seq ?_
  refine st_seq ?_
  refine st_region ?_
  refine st_v (rv_move rfl) (by decide) ?_
  refine st_v (rv_lenR (rd_old hR hR.all) Tryd.underlying22 rfl) (by decide) ?_
  refine st_v (rv_move rfl) (by decide) ?_
  refine st_v (rv_to (u := .bool false) (rv_gtrZ rfl rfl) (by simp [hbs] at hk ⊢; omega)) (by decide) ?_
  refine st_nil ?_
  refine st_then ?_
  refine st_false rfl ?_
  refine st_skip ?_
  refine st_then ?_
  refine st_seq ?_
  refine st_drawStart mixed ?_
  refine st_drawSeg1 (E0 := [(0, _), (1, _), (5, _)]) [kpeq _, kpeq _, (fun _ v => slV (c8 (List.replicate (64) 0#8)) 5 (64) v), kpeq _, (fun _ v => slV (c8 (List.replicate (64) 0#8)) 5 (64) v)] 0 5 [0, 0, 2, 0, 8, 31, 63, 127] [0, 1, 5] (by kernel_rfl) (by decide) (by kernel_rfl) (.cons rfl (.cons rfl (.cons rfl (.nil _)))) rfl rfl (hall_cons (hop_mv rfl (by decide) rfl rfl) (hall_cons (hop_mv rfl (by decide) rfl rfl) (hall_cons (hop_val [(1, 23, _)] [] rfl rfl rfl (by decide) rfl (jcons rfl rfl rfl rfl rfl (jnil)) (xnil) (fun _ _ _ _ => @does_make8 _ _ _ _ _ _ _ _ _ _ _ _ _ _ _ _ (64) Tryd.underlying22 tyZ5 rfl rfl (by first | omega | (simp [length_xorTo, over] <;> omega)) (by first | omega | (simp [length_xorTo, over] <;> omega)))) (hall_cons (hop_mv rfl (by decide) rfl rfl) (hall_cons (hop_val [(3, 25, _)] [] rfl rfl rfl (by decide) rfl (jcons rfl rfl rfl rfl rfl (jnil)) (xnil) (fun _ _ _ _ => @does_make8 _ _ _ _ _ _ _ _ _ _ _ _ _ _ _ _ (64) Tryd.underlying22 tyZ5 rfl rfl (by first | omega | (simp [length_xorTo, over] <;> omega)) (by first | omega | (simp [length_xorTo, over] <;> omega)))) (hall_nil)))))) (draw_end [(0, 22, _)] [(2, 24, (fun _ v => slV (c8 (List.replicate (64) 0#8)) 5 (64) v)), (4, 26, (fun _ v => slV (c8 (List.replicate (64) 0#8)) 5 (64) v))] rfl (jcons rfl rfl rfl rfl rfl (jnil)) (xcons rfl rfl rfl rfl rfl rfl (xcons rfl rfl rfl rfl rfl rfl (xnil))) (fun vals => ?_))
  dsimp only [xenv, xmem]
  refine st_openS (i := 0) rfl (fun b2 hb2 => ?_)
  rw [hb2]
  refine st_openS (i := 1) rfl (fun b3 hb3 => ?_)
  rw [hb3]
  refine st_drawTail (N := 5) [0, 0, 2, 0, 8, 31, 63, 127] (by kernel_rfl) (by kernel_rfl) ?_
  refine st_v (rv_buildStruct_of Tryd.underlying173 tyZ173 (places := [(0, 1), (1, 1), (2, 1)]) (by kernel_rfl) rfl (cs := #[_, _, _]) (by rfl)) (by decide) ?_
  refine st_box rfl (by decide) rfl (fun b4 hb4 => ?_)
  refine st_v (rv_assign rfl) (by decide) ?_
  refine st_nil ?_
  refine st_then ?_
  refine st_seq ?_
  refine st_region ?_
  refine st_v (rv_move rfl) (by decide) ?_
  refine st_v (rv_nilCheck rfl) (by decide) ?_
  refine st_v (rv_fieldAddr Tryd.underlying173 (fs := _) rfl sz22 rfl rfl) (by decide) ?_
  refine st_v (rv_load_blk tyS22 rfl (i := 0) rfl rfl) (by decide) ?_
  refine st_v (rv_move rfl) (by decide) ?_
  refine st_copy8 Tryd.underlying22 sz5 rfl rfl (i := 1) rfl (by first | omega | (simp [length_xorTo, over]; done) | (simp [length_xorTo, over] <;> omega)) (fun w hM => src_rd ((rd_old hR hR.all) w hM) (one8 _)) (l' := [_, _, _, _, _, _]) rfl (by decide) ?_
  refine st_nil ?_
  refine st_then ?_
  refine st_seq ?_
  refine st_region ?_
  refine st_v (rv_move rfl) (by decide) ?_
  refine st_v (rv_nilCheck rfl) (by decide) ?_
  refine st_v (rv_fieldAddr Tryd.underlying173 (fs := _) rfl sz22 rfl rfl) (by decide) ?_
  refine st_v (rv_load_blk tyS22 rfl (i := 0) rfl rfl) (by decide) ?_
  refine st_v (rv_move rfl) (by decide) ?_
  refine st_copy8 Tryd.underlying22 sz5 rfl rfl (i := 2) rfl (by first | omega | (simp [length_xorTo, over]; done) | (simp [length_xorTo, over] <;> omega)) (fun w hM => src_rd ((rd_old hR hR.all) w hM) (one8 _)) (l' := [_, _, _, _, _, _]) rfl (by decide) ?_
  refine st_nil ?_
  refine st_then ?_
  refine st_seq ?_
  refine st_seq ?_
  refine st_region ?_
  refine st_v (rv_move rfl) (by decide) ?_
  refine st_v (rv_move rfl) (by decide) ?_
  refine st_nil ?_
  refine st_then ?_
  refine st_block ?_
  refine st_loopA (σ := Nat) [(6, kst _), (41, kst _), (42, fun i => vI i)] [kst _, fun i => blk b2 (c8 (xorTo (over (List.replicate 64 0#8) 0 ((q).take (min q.length 64))) 54#8 i)) 5, fun i => blk b3 (c8 (xorTo (over (List.replicate 64 0#8) 0 ((q).take (min q.length 64))) 92#8 i)) 5, kst _, kst _, kst _] (fun i => i ≤ 64) (fun i => 64 - i) 0 (by omega) (.cons rfl (.cons rfl (.cons rfl (.nil _)))) (fun _ hM => hM) ?_
  intro i hI
  try dsimp only at hI
  dsimp only [List.map, kst]
  refine st_seq ?_
  refine st_region ?_
  refine st_v (rv_lssZ rfl rfl) (by decide) ?_
  refine st_nil ?_
  refine st_then ?_
  refine st_seq ?_
  refine st_cond rfl (fun hc43 => ?_) (fun hc43 => ?_)
  · -- t43 True
    try simp only [z1, z2, z3, z4, z5, z6, z7, z8, z9, z10, z11, z12, z13, z14] at hc43
    refine st_skip ?_
    refine st_then ?_
    refine st_seq ?_
    refine st_block ?_
    refine st_seq ?_
    refine st_region ?_
    refine st_v (rv_move rfl) (by decide) ?_
    refine st_v (rv_assign rfl) (by decide) ?_
    refine st_nil ?_
    refine st_then ?_
    refine st_seq ?_
    refine st_region ?_
    refine st_v (rv_move rfl) (by decide) ?_
    refine st_v (rv_nilCheck rfl) (by decide) ?_
    refine st_v (rv_fieldAddr Tryd.underlying173 (fs := _) rfl sz22 rfl rfl) (by decide) ?_
    refine st_v (rv_load_blk tyS22 rfl (i := 0) rfl rfl) (by decide) ?_
    refine st_v (rv_move rfl) (by decide) ?_
    refine st_v (rv_indexS Tryd.underlying22 sz5 rfl rfl rfl (by first | omega | (simp [length_xorTo, over] <;> omega)) (by first | exact (Nat.zero_add _).trans (Nat.mul_one _) | exact congrArg _ (Nat.mul_one _) | rfl)) (by decide) ?_
    refine st_v (rv_load_blk tyS5 rfl (i := 1) rfl (cell8 (by first | omega | (simp [length_xorTo, over] <;> omega)))) (by decide) ?_
    refine st_v (rv_xor8 (b := 54#8) rfl rfl) (by decide) ?_
    refine st_v (rv_indexS Tryd.underlying22 sz5 rfl rfl rfl (by first | omega | (simp [length_xorTo, over] <;> omega)) (by first | exact (Nat.zero_add _).trans (Nat.mul_one _) | exact congrArg _ (Nat.mul_one _) | rfl)) (by decide) ?_
    refine st_store8 rfl rfl (i := 1) rfl sz5 (by first | omega | (simp [length_xorTo, over] <;> omega)) (l' := [_, _, _, _, _, _]) rfl ?_
    refine st_nil ?_
    refine st_then ?_
    refine st_region ?_
    refine st_v (rv_move rfl) (by decide) ?_
    refine st_v (rv_nilCheck rfl) (by decide) ?_
    refine st_v (rv_fieldAddr Tryd.underlying173 (fs := _) rfl sz22 rfl rfl) (by decide) ?_
    refine st_v (rv_load_blk tyS22 rfl (i := 0) rfl rfl) (by decide) ?_
    refine st_v (rv_move rfl) (by decide) ?_
    refine st_v (rv_indexS Tryd.underlying22 sz5 rfl rfl rfl (by first | omega | (simp [length_xorTo, over] <;> omega)) (by first | exact (Nat.zero_add _).trans (Nat.mul_one _) | exact congrArg _ (Nat.mul_one _) | rfl)) (by decide) ?_
    refine st_v (rv_load_blk tyS5 rfl (i := 2) rfl (cell8 (by first | omega | (simp [length_xorTo, over] <;> omega)))) (by decide) ?_
    refine st_v (rv_xor8 (b := 92#8) rfl rfl) (by decide) ?_
    refine st_v (rv_indexS Tryd.underlying22 sz5 rfl rfl rfl (by first | omega | (simp [length_xorTo, over] <;> omega)) (by first | exact (Nat.zero_add _).trans (Nat.mul_one _) | exact congrArg _ (Nat.mul_one _) | rfl)) (by decide) ?_
    refine st_store8 rfl rfl (i := 2) rfl sz5 (by first | omega | (simp [length_xorTo, over] <;> omega)) (l' := [_, _, _, _, _, _]) rfl ?_
    refine st_nil ?_
    refine st_in_normal ?_
    refine st_then ?_
    refine st_region ?_
    first | refine st_v (rv_addN (b := 1) rfl rfl (by first | omega | (simp; done) | (simp; omega))) (by decide) ?_ | refine st_v (rv_addZ rfl rfl (by first | omega | (simp; done) | (simp; omega))) (by decide) ?_
    refine st_v (rv_move rfl) (by decide) ?_
    refine st_nil ?_
    refine st_then ?_
    exact st_again (i + 1) (by omega) (by omega) (.cons rfl (.cons rfl (.cons rfl (.nil _)))) (fun _ hM => hM)
  · -- t43 False
    try simp only [z1, z2, z3, z4, z5, z6, z7, z8, z9, z10, z11, z12, z13, z14] at hc43
    obtain rfl : i = 64 := by omega
    refine st_exit ?_
    refine st_then_exit ?_
    refine st_then_exit ?_
    refine st_in_exit ?_
    refine st_then ?_
    refine st_seq ?_
    refine st_region ?_
    refine st_v (rv_move rfl) (by decide) ?_
    refine st_v (rv_assign rfl) (by decide) ?_
    refine st_nil ?_
    refine st_then ?_
    refine st_ret ?_
    exact st_done rfl rfl (fun w hM => ⟨(b4, sl b2 0 64 64, sl b3 0 64 64), rfl, by
    have hM := hM.c8Own (i := 1) (n := 64) rfl (by simp [length_xorTo, over] <;> omega)
    have hM := hM.c8Own (i := 2) (n := 64) rfl (by simp [length_xorTo, over] <;> omega)
    have hM := (Mem.front (Mem.front (Mem.front hM (i := 2) rfl) (i := 2) rfl) (i := 2) rfl)
    have hM := hM.sublist (List.cons_sublist_cons.2 (List.cons_sublist_cons.2 (List.cons_sublist_cons.2 (List.nil_sublist _))))
    rw [← (kpadS (k := 0) hk _), ← (kpadS (k := 0) hk _)]
    exact hM⟩)
set_option maxRecDepth 20000 in
set_option maxHeartbeats 1000000 in
theorem newKeyed1L_calls (v : Value) (q : List (BitVec 8)) (hq : q.length ≤ 900000) (hk : hbs 1 < q.length) (w : World) (hL : LaidH w) (hR : Rd w v q.length 1 (q.map U8)) : Calls Tryd.prog 86 #[vI (1 : Nat), v] w (fun e w' => ∃ r : Nat × Value × Value, e = .returned (pt r.1 0) ∧ Mem (All w) w w' [blk r.1 #[vI (1 : Nat), r.2.1, r.2.2] 173, own r.2.1 5 1 (hbs 1) ((kpad 1 q 54#8).map U8), own r.2.2 5 1 (hbs 1) ((kpad 1 q 92#8).map U8)]) := by
  refine calls_of_st (n := 65) (args := [vI (1 : Nat), v]) Tryd.func86 rfl Tryd.ntmps86 (Nat.le_of_ble_eq_true rfl) (Mem.all w) ?_
  refine st_seq ?_
  refine st_region ?_
  refine st_v (rv_assign rfl) (by decide) ?_
  refine st_nil ?_
  refine st_then ?_
  refine st_seq ?_
  refine st_region ?_
  refine st_v (rv_move rfl) (by decide) ?_
  refine st_call1 (ρ := HP) (fun r => pt r.hb 0) (fun _ => True) (fun r => [hashM 1 r.hb r.sb r.fp r.vb [], famM 1 r.fp r.kv]) cal82 rfl (fun w hM => ((begin1_calls w (hL.at hM))).mono fun e w' ⟨r, h1, h2⟩ => ⟨r, h1, trivial, h2⟩) (by decide) (fun r1 _ => ?_)
  refine St.mem ?_ (fun w hM => Mem.unpack (lm := hashL U64 160 165 117 F512 128 h384 1 r1.hb r1.sb r1.fp r1.vb []) (lf := [_]) hM)
  refine st_v (rv_nilCheck rfl) (by decide) ?_
  refine st_v (rv_fieldAddr Tryd.underlying117 (fs := _) rfl sz115 rfl rfl) (by decide) ?_
  refine st_v (rv_load_blk tyS115 rfl (i := 0) rfl rfl) (by decide) ?_
  refine st_inv1 (ρ := Unit) (fun _ => vI (128 : Nat)) (fun _ => True) (fun _ => []) metsize64 cal174 rfl rfl (fun w hM => (size64_calls _ w).mono fun e w' ⟨h1, h2⟩ => ⟨(), h1, trivial, h2⟩) (by decide) (fun _ _ => ?_)
  refine st_v (rv_assign rfl) (by decide) ?_
  refine st_nil ?_
  refine st_then ?_
  refine st_seq ?_
  refine st_seq ?_
  refine st_region ?_
  refine st_v (rv_move rfl) (by decide) ?_
  refine st_v (rv_lenR (rd_old hR hR.all) Tryd.underlying22 rfl) (by decide) ?_
  refine st_v (rv_move rfl) (by decide) ?_
  refine st_v (rv_to (u := .bool true) (rv_gtrZ rfl rfl) (by simp [hbs] at hk ⊢; omega)) (by decide) ?_
  refine st_nil ?_
  refine st_then ?_
  refine st_true rfl ?_
  refine st_region ?_
  refine st_v (rv_move rfl) (by decide) ?_
  refine st_v (rv_move rfl) (by decide) ?_
  refine st_buildO1 Tryd.underlying166 tyZ22 rfl rfl (fun w hM => cells_rd ((rd_old hR hR.all) w hM)) (by decide) (fun v2 => ?_)
  refine st_callV cal83 rfl (fun w hM => (of1_calls 1 (by decide) _ v q hq w (hL.at hM) ((rd_own (i := 0) rfl) w hM) (rd_old hR hR.all w hM))) (by decide) (fun v3 => ?_)
  refine st_v (rv_assign rfl) (by decide) ?_
  refine st_nil ?_
  refine st_then ?_
  refine st_seq ?_
  refine st_drawStart mixed ?_
  refine st_drawSeg1 (E0 := [(0, _), (1, _), (5, _)]) [kpeq _, kpeq _, (fun _ v => slV (c8 (List.replicate (128) 0#8)) 5 (128) v), kpeq _, (fun _ v => slV (c8 (List.replicate (128) 0#8)) 5 (128) v)] 0 5 [0, 0, 2, 0, 8, 31, 63, 127] [0, 1, 5] (by kernel_rfl) (by decide) (by kernel_rfl) (.cons rfl (.cons rfl (.cons rfl (.nil _)))) rfl rfl (hall_cons (hop_mv rfl (by decide) rfl rfl) (hall_cons (hop_mv rfl (by decide) rfl rfl) (hall_cons (hop_val [(1, 23, _)] [] rfl rfl rfl (by decide) rfl (jcons rfl rfl rfl rfl rfl (jnil)) (xnil) (fun _ _ _ _ => @does_make8 _ _ _ _ _ _ _ _ _ _ _ _ _ _ _ _ (128) Tryd.underlying22 tyZ5 rfl rfl (by first | omega | (simp [length_xorTo, over] <;> omega)) (by first | omega | (simp [length_xorTo, over] <;> omega)))) (hall_cons (hop_mv rfl (by decide) rfl rfl) (hall_cons (hop_val [(3, 25, _)] [] rfl rfl rfl (by decide) rfl (jcons rfl rfl rfl rfl rfl (jnil)) (xnil) (fun _ _ _ _ => @does_make8 _ _ _ _ _ _ _ _ _ _ _ _ _ _ _ _ (128) Tryd.underlying22 tyZ5 rfl rfl (by first | omega | (simp [length_xorTo, over] <;> omega)) (by first | omega | (simp [length_xorTo, over] <;> omega)))) (hall_nil)))))) (draw_end [(0, 22, _)] [(2, 24, (fun _ v => slV (c8 (List.replicate (128) 0#8)) 5 (128) v)), (4, 26, (fun _ v => slV (c8 (List.replicate (128) 0#8)) 5 (128) v))] rfl (jcons rfl rfl rfl rfl rfl (jnil)) (xcons rfl rfl rfl rfl rfl rfl (xcons rfl rfl rfl rfl rfl rfl (xnil))) (fun vals => ?_))
  dsimp only [xenv, xmem]
  refine st_openS (i := 0) rfl (fun b4 hb4 => ?_)
  rw [hb4]
  refine st_openS (i := 1) rfl (fun b5 hb5 => ?_)
  rw [hb5]
  refine st_drawTail (N := 5) [0, 0, 2, 0, 8, 31, 63, 127] (by kernel_rfl) (by kernel_rfl) ?_
  refine st_v (rv_buildStruct_of Tryd.underlying173 tyZ173 (places := [(0, 1), (1, 1), (2, 1)]) (by kernel_rfl) rfl (cs := #[_, _, _]) (by rfl)) (by decide) ?_
  refine st_box rfl (by decide) rfl (fun b6 hb6 => ?_)
  refine st_v (rv_assign rfl) (by decide) ?_
  refine st_nil ?_
  refine st_then ?_
  refine st_seq ?_
  refine st_region ?_
  refine st_v (rv_move rfl) (by decide) ?_
  refine st_v (rv_nilCheck rfl) (by decide) ?_
  refine st_v (rv_fieldAddr Tryd.underlying173 (fs := _) rfl sz22 rfl rfl) (by decide) ?_
  refine st_v (rv_load_blk tyS22 rfl (i := 0) rfl rfl) (by decide) ?_
  refine st_v (rv_move rfl) (by decide) ?_
  refine st_copy8 Tryd.underlying22 sz5 rfl rfl (i := 1) rfl (by first | omega | (simp [length_xorTo, over]; done) | (simp [length_xorTo, over] <;> omega)) (fun w hM => src_rd ((rd_own (i := 3) rfl) w hM) (one8 _)) (l' := [_, _, _, _, _, _, _, _]) rfl (by decide) ?_
  refine st_nil ?_
  refine st_then ?_
  refine st_seq ?_
  refine st_region ?_
  refine st_v (rv_move rfl) (by decide) ?_
  refine st_v (rv_nilCheck rfl) (by decide) ?_
  refine st_v (rv_fieldAddr Tryd.underlying173 (fs := _) rfl sz22 rfl rfl) (by decide) ?_
  refine st_v (rv_load_blk tyS22 rfl (i := 0) rfl rfl) (by decide) ?_
  refine st_v (rv_move rfl) (by decide) ?_
  refine st_copy8 Tryd.underlying22 sz5 rfl rfl (i := 2) rfl (by first | omega | (simp [length_xorTo, over]; done) | (simp [length_xorTo, over] <;> omega)) (fun w hM => src_rd ((rd_own (i := 3) rfl) w hM) (one8 _)) (l' := [_, _, _, _, _, _, _, _]) rfl (by decide) ?_
  refine st_nil ?_
  refine st_then ?_
  refine st_seq ?_
  refine st_seq ?_
  refine st_region ?_
  refine st_v (rv_move rfl) (by decide) ?_
  refine st_v (rv_move rfl) (by decide) ?_
  refine st_nil ?_
  refine st_then ?_
  refine st_block ?_
  refine st_loopA (σ := Nat) [(6, kst _), (41, kst _), (42, fun i => vI i)] [kst _, fun i => blk b4 (c8 (xorTo (over (List.replicate 128 0#8) 0 ((hsum 1 q).take (min (hsize 1) 128))) 54#8 i)) 5, fun i => blk b5 (c8 (xorTo (over (List.replicate 128 0#8) 0 ((hsum 1 q).take (min (hsize 1) 128))) 92#8 i)) 5, kst _, kst _, kst _, kst _, kst _] (fun i => i ≤ 128) (fun i => 128 - i) 0 (by omega) (.cons rfl (.cons rfl (.cons rfl (.nil _)))) (fun _ hM => hM) ?_
  intro i hI
  try dsimp only at hI
  dsimp only [List.map, kst]
  refine st_seq ?_
  refine st_region ?_
  refine st_v (rv_lssZ rfl rfl) (by decide) ?_
  refine st_nil ?_
  refine st_then ?_
  refine st_seq ?_
  refine st_cond rfl (fun hc43 => ?_) (fun hc43 => ?_)
  · -- t43 True
    try simp only [z1, z2, z3, z4, z5, z6, z7, z8, z9, z10, z11, z12, z13, z14] at hc43
    refine st_skip ?_
    refine st_then ?_
    refine st_seq ?_
    refine st_block ?_
    refine st_seq ?_
    refine st_region ?_
    refine st_v (rv_move rfl) (by decide) ?_
    refine st_v (rv_assign rfl) (by decide) ?_
    refine st_nil ?_
    refine st_then ?_
    refine st_seq ?_
    refine st_region ?_
    refine st_v (rv_move rfl) (by decide) ?_
    refine st_v (rv_nilCheck rfl) (by decide) ?_
    refine st_v (rv_fieldAddr Tryd.underlying173 (fs := _) rfl sz22 rfl rfl) (by decide) ?_
    refine st_v (rv_load_blk tyS22 rfl (i := 0) rfl rfl) (by decide) ?_
    refine st_v (rv_move rfl) (by decide) ?_
    refine st_v (rv_indexS Tryd.underlying22 sz5 rfl rfl rfl (by first | omega | (simp [length_xorTo, over] <;> omega)) (by first | exact (Nat.zero_add _).trans (Nat.mul_one _) | exact congrArg _ (Nat.mul_one _) | rfl)) (by decide) ?_
    refine st_v (rv_load_blk tyS5 rfl (i := 1) rfl (cell8 (by first | omega | (simp [length_xorTo, over] <;> omega)))) (by decide) ?_
    refine st_v (rv_xor8 (b := 54#8) rfl rfl) (by decide) ?_
    refine st_v (rv_indexS Tryd.underlying22 sz5 rfl rfl rfl (by first | omega | (simp [length_xorTo, over] <;> omega)) (by first | exact (Nat.zero_add _).trans (Nat.mul_one _) | exact congrArg _ (Nat.mul_one _) | rfl)) (by decide) ?_
    refine st_store8 rfl rfl (i := 1) rfl sz5 (by first | omega | (simp [length_xorTo, over] <;> omega)) (l' := [_, _, _, _, _, _, _, _]) rfl ?_
    refine st_nil ?_
    refine st_then ?_
    refine st_region ?_
    refine st_v (rv_move rfl) (by decide) ?_
    refine st_v (rv_nilCheck rfl) (by decide) ?_
    refine st_v (rv_fieldAddr Tryd.underlying173 (fs := _) rfl sz22 rfl rfl) (by decide) ?_
    refine st_v (rv_load_blk tyS22 rfl (i := 0) rfl rfl) (by decide) ?_
    refine st_v (rv_move rfl) (by decide) ?_
    refine st_v (rv_indexS Tryd.underlying22 sz5 rfl rfl rfl (by first | omega | (simp [length_xorTo, over] <;> omega)) (by first | exact (Nat.zero_add _).trans (Nat.mul_one _) | exact congrArg _ (Nat.mul_one _) | rfl)) (by decide) ?_
    refine st_v (rv_load_blk tyS5 rfl (i := 2) rfl (cell8 (by first | omega | (simp [length_xorTo, over] <;> omega)))) (by decide) ?_
    refine st_v (rv_xor8 (b := 92#8) rfl rfl) (by decide) ?_
    refine st_v (rv_indexS Tryd.underlying22 sz5 rfl rfl rfl (by first | omega | (simp [length_xorTo, over] <;> omega)) (by first | exact (Nat.zero_add _).trans (Nat.mul_one _) | exact congrArg _ (Nat.mul_one _) | rfl)) (by decide) ?_
    refine st_store8 rfl rfl (i := 2) rfl sz5 (by first | omega | (simp [length_xorTo, over] <;> omega)) (l' := [_, _, _, _, _, _, _, _]) rfl ?_
    refine st_nil ?_
    refine st_in_normal ?_
    refine st_then ?_
    refine st_region ?_
    first | refine st_v (rv_addN (b := 1) rfl rfl (by first | omega | (simp; done) | (simp; omega))) (by decide) ?_ | refine st_v (rv_addZ rfl rfl (by first | omega | (simp; done) | (simp; omega))) (by decide) ?_
    refine st_v (rv_move rfl) (by decide) ?_
    refine st_nil ?_
    refine st_then ?_
    exact st_again (i + 1) (by omega) (by omega) (.cons rfl (.cons rfl (.cons rfl (.nil _)))) (fun _ hM => hM)
  · -- t43 False
    try simp only [z1, z2, z3, z4, z5, z6, z7, z8, z9, z10, z11, z12, z13, z14] at hc43
    obtain rfl : i = 128 := by omega
    refine st_exit ?_
    refine st_then_exit ?_
    refine st_then_exit ?_
    refine st_in_exit ?_
    refine st_then ?_
    refine st_seq ?_
    refine st_region ?_
    refine st_v (rv_move rfl) (by decide) ?_
    refine st_v (rv_assign rfl) (by decide) ?_
    refine st_nil ?_
    refine st_then ?_
    refine st_ret ?_
    exact st_done rfl rfl (fun w hM => ⟨(b6, sl b4 0 128 128, sl b5 0 128 128), rfl, by
    have hM := hM.c8Own (i := 1) (n := 128) rfl (by simp [length_xorTo, over] <;> omega)
    have hM := hM.c8Own (i := 2) (n := 128) rfl (by simp [length_xorTo, over] <;> omega)
    have hM := (Mem.front (Mem.front (Mem.front hM (i := 2) rfl) (i := 2) rfl) (i := 2) rfl)
    have hM := hM.sublist (List.cons_sublist_cons.2 (List.cons_sublist_cons.2 (List.cons_sublist_cons.2 (List.nil_sublist _))))
    rw [← (kpadL (k := 1) (by decide) hk _), ← (kpadL (k := 1) (by decide) hk _)]
    exact hM⟩)
set_option maxRecDepth 20000 in
set_option maxHeartbeats 1000000 in
theorem newKeyed1S_calls (v : Value) (q : List (BitVec 8)) (hq : q.length ≤ 900000) (hk : q.length ≤ hbs 1) (w : World) (hL : LaidH w) (hR : Rd w v q.length 1 (q.map U8)) : Calls Tryd.prog 86 #[vI (1 : Nat), v] w (fun e w' => ∃ r : Nat × Value × Value, e = .returned (pt r.1 0) ∧ Mem (All w) w w' [blk r.1 #[vI (1 : Nat), r.2.1, r.2.2] 173, own r.2.1 5 1 (hbs 1) ((kpad 1 q 54#8).map U8), own r.2.2 5 1 (hbs 1) ((kpad 1 q 92#8).map U8)]) := by
  refine calls_of_st (n := 65) (args := [vI (1 : Nat), v]) Tryd.func86 rfl Tryd.ntmps86 (Nat.le_of_ble_eq_true rfl) (Mem.all w) ?_
  refine st_seq ?_
  refine st_region ?_
  refine st_v (rv_assign rfl) (by decide) ?_
  refine st_nil ?_
  refine st_then ?_
  refine st_seq ?_
  refine st_region ?_
  refine st_v (rv_move rfl) (by decide) ?_
  refine st_call1 (ρ := HP) (fun r => pt r.hb 0) (fun _ => True) (fun r => [hashM 1 r.hb r.sb r.fp r.vb [], famM 1 r.fp r.kv]) cal82 rfl (fun w hM => ((begin1_calls w (hL.at hM))).mono fun e w' ⟨r, h1, h2⟩ => ⟨r, h1, trivial, h2⟩) (by decide) (fun r1 _ => ?_)
  refine St.mem ?_ (fun w hM => Mem.unpack (lm := hashL U64 160 165 117 F512 128 h384 1 r1.hb r1.sb r1.fp r1.vb []) (lf := [_]) hM)
  refine st_v (rv_nilCheck rfl) (by decide) ?_
  refine st_v (rv_fieldAddr Tryd.underlying117 (fs := _) rfl sz115 rfl rfl) (by decide) ?_
  refine st_v (rv_load_blk tyS115 rfl (i := 0) rfl rfl) (by decide) ?_
  refine st_inv1 (ρ := Unit) (fun _ => vI (128 : Nat)) (fun _ => True) (fun _ => []) metsize64 cal174 rfl rfl (fun w hM => (size64_calls _ w).mono fun e w' ⟨h1, h2⟩ => ⟨(), h1, trivial, h2⟩) (by decide) (fun _ _ => ?_)
  refine st_v (rv_assign rfl) (by decide) ?_
  refine st_nil ?_
  refine st_then ?_
  refine st_seq ?_
  refine st_seq ?_
  refine st_region ?_
  refine st_v (rv_move rfl) (by decide) ?_
  refine st_v (rv_lenR (rd_old hR hR.all) Tryd.underlying22 rfl) (by decide) ?_
  refine st_v (rv_move rfl) (by decide) ?_
  refine st_v (rv_to (u := .bool false) (rv_gtrZ rfl rfl) (by simp [hbs] at hk ⊢; omega)) (by decide) ?_
  refine st_nil ?_
  refine st_then ?_
  refine st_false rfl ?_
  refine st_skip ?_
  refine st_then ?_
  refine st_seq ?_
  refine st_drawStart mixed ?_
  refine st_drawSeg1 (E0 := [(0, _), (1, _), (5, _)]) [kpeq _, kpeq _, (fun _ v => slV (c8 (List.replicate (128) 0#8)) 5 (128) v), kpeq _, (fun _ v => slV (c8 (List.replicate (128) 0#8)) 5 (128) v)] 0 5 [0, 0, 2, 0, 8, 31, 63, 127] [0, 1, 5] (by kernel_rfl) (by decide) (by kernel_rfl) (.cons rfl (.cons rfl (.cons rfl (.nil _)))) rfl rfl (hall_cons (hop_mv rfl (by decide) rfl rfl) (hall_cons (hop_mv rfl (by decide) rfl rfl) (hall_cons (hop_val [(1, 23, _)] [] rfl rfl rfl (by decide) rfl (jcons rfl rfl rfl rfl rfl (jnil)) (xnil) (fun _ _ _ _ => @does_make8 _ _ _ _ _ _ _ _ _ _ _ _ _ _ _ _ (128) Tryd.underlying22 tyZ5 rfl rfl (by first | omega | (simp [length_xorTo, over] <;> omega)) (by first | omega | (simp [length_xorTo, over] <;> omega)))) (hall_cons (hop_mv rfl (by decide) rfl rfl) (hall_cons (hop_val [(3, 25, _)] [] rfl rfl rfl (by decide) rfl (jcons rfl rfl rfl rfl rfl (jnil)) (xnil) (fun _ _ _ _ => @does_make8 _ _ _ _ _ _ _ _ _ _ _ _ _ _ _ _ (128) Tryd.underlying22 tyZ5 rfl rfl (by first | omega | (simp [length_xorTo, over] <;> omega)) (by first | omega | (simp [length_xorTo, over] <;> omega)))) (hall_nil)))))) (draw_end [(0, 22, _)] [(2, 24, (fun _ v => slV (c8 (List.replicate (128) 0#8)) 5 (128) v)), (4, 26, (fun _ v => slV (c8 (List.replicate (128) 0#8)) 5 (128) v))] rfl (jcons rfl rfl rfl rfl rfl (jnil)) (xcons rfl rfl rfl rfl rfl rfl (xcons rfl rfl rfl rfl rfl rfl (xnil))) (fun vals => ?_))
  dsimp only [xenv, xmem]
  refine st_openS (i := 0) rfl (fun b2 hb2 => ?_)
  rw [hb2]
  refine st_openS (i := 1) rfl (fun b3 hb3 => ?_)
  rw [hb3]
  refine st_drawTail (N := 5) [0, 0, 2, 0, 8, 31, 63, 127] (by kernel_rfl) (by kernel_rfl) ?_
  refine st_v (rv_buildStruct_of Tryd.underlying173 tyZ173 (places := [(0, 1), (1, 1), (2, 1)]) (by kernel_rfl) rfl (cs := #[_, _, _]) (by rfl)) (by decide) ?_
  refine st_box rfl (by decide) rfl (fun b4 hb4 => ?_)
  refine st_v (rv_assign rfl) (by decide) ?_
  refine st_nil ?_
  refine st_then ?_
  refine st_seq ?_
  refine st_region ?_
  refine st_v (rv_move rfl) (by decide) ?_
  refine st_v (rv_nilCheck rfl) (by decide) ?_
  refine st_v (rv_fieldAddr Tryd.underlying173 (fs := _) rfl sz22 rfl rfl) (by decide) ?_
  refine st_v (rv_load_blk tyS22 rfl (i := 0) rfl rfl) (by decide) ?_
  refine st_v (rv_move rfl) (by decide) ?_
  refine st_copy8 Tryd.underlying22 sz5 rfl rfl (i := 1) rfl (by first | omega | (simp [length_xorTo, over]; done) | (simp [length_xorTo, over] <;> omega)) (fun w hM => src_rd ((rd_old hR hR.all) w hM) (one8 _)) (l' := [_, _, _, _, _, _]) rfl (by decide) ?_
  refine st_nil ?_
  refine st_then ?_
  refine st_seq ?_
  refine st_region ?_
  refine st_v (rv_move rfl) (by decide) ?_
  refine st_v (rv_nilCheck rfl) (by decide) ?_
  refine st_v (rv_fieldAddr Tryd.underlying173 (fs := _) rfl sz22 rfl rfl) (by decide) ?_
  refine st_v (rv_load_blk tyS22 rfl (i := 0) rfl rfl) (by decide) ?_
  refine st_v (rv_move rfl) (by decide) ?_
  refine st_copy8 Tryd.underlying22 sz5 rfl rfl (i := 2) rfl (by first | omega | (simp [length_xorTo, over]; done) | (simp [length_xorTo, over] <;> omega)) (fun w hM => src_rd ((rd_old hR hR.all) w hM) (one8 _)) (l' := [_, _, _, _, _, _]) rfl (by decide) ?_
  refine st_nil ?_
  refine st_then ?_
  refine st_seq ?_
  refine st_seq ?_
  refine st_region ?_
  refine st_v (rv_move rfl) (by decide) ?_
  refine st_v (rv_move rfl) (by decide) ?_
  refine st_nil ?_
  refine st_then ?_
  refine st_block ?_
  refine st_loopA (σ := Nat) [(6, kst _), (41, kst _), (42, fun i => vI i)] [kst _, fun i => blk b2 (c8 (xorTo (over (List.replicate 128 0#8) 0 ((q).take (min q.length 128))) 54#8 i)) 5, fun i => blk b3 (c8 (xorTo (over (List.replicate 128 0#8) 0 ((q).take (min q.length 128))) 92#8 i)) 5, kst _, kst _, kst _] (fun i => i ≤ 128) (fun i => 128 - i) 0 (by omega) (.cons rfl (.cons rfl (.cons rfl (.nil _)))) (fun _ hM => hM) ?_
  intro i hI
  try dsimp only at hI
  dsimp only [List.map, kst]
  refine st_seq ?_
  refine st_region ?_
  refine st_v (rv_lssZ rfl rfl) (by decide) ?_
  refine st_nil ?_
  refine st_then ?_
  refine st_seq ?_
  refine st_cond rfl (fun hc43 => ?_) (fun hc43 => ?_)
  · -- t43 True
    try simp only [z1, z2, z3, z4, z5, z6, z7, z8, z9, z10, z11, z12, z13, z14] at hc43
    refine st_skip ?_
    refine st_then ?_
    refine st_seq ?_
    refine st_block ?_
    refine st_seq ?_
    refine st_region ?_
    refine st_v (rv_move rfl) (by decide) ?_
    refine st_v (rv_assign rfl) (by decide) ?_
    refine st_nil ?_
    refine st_then ?_
    refine st_seq ?_
    refine st_region ?_
    refine st_v (rv_move rfl) (by decide) ?_
    refine st_v (rv_nilCheck rfl) (by decide) ?_
    refine st_v (rv_fieldAddr Tryd.underlying173 (fs := _) rfl sz22 rfl rfl) (by decide) ?_
    refine st_v (rv_load_blk tyS22 rfl (i := 0) rfl rfl) (by decide) ?_
    refine st_v (rv_move rfl) (by decide) ?_
    refine st_v (rv_indexS Tryd.underlying22 sz5 rfl rfl rfl (by first | omega | (simp [length_xorTo, over] <;> omega)) (by first | exact (Nat.zero_add _).trans (Nat.mul_one _) | exact congrArg _ (Nat.mul_one _) | rfl)) (by decide) ?_
    refine st_v (rv_load_blk tyS5 rfl (i := 1) rfl (cell8 (by first | omega | (simp [length_xorTo, over] <;> omega)))) (by decide) ?_
    refine st_v (rv_xor8 (b := 54#8) rfl rfl) (by decide) ?_
    refine st_v (rv_indexS Tryd.underlying22 sz5 rfl rfl rfl (by first | omega | (simp [length_xorTo, over] <;> omega)) (by first | exact (Nat.zero_add _).trans (Nat.mul_one _) | exact congrArg _ (Nat.mul_one _) | rfl)) (by decide) ?_
    refine st_store8 rfl rfl (i := 1) rfl sz5 (by first | omega | (simp [length_xorTo, over] <;> omega)) (l' := [_, _, _, _, _, _]) rfl ?_
    refine st_nil ?_
    refine st_then ?_
    refine st_region ?_
    refine st_v (rv_move rfl) (by decide) ?_
    refine st_v (rv_nilCheck rfl) (by decide) ?_
    refine st_v (rv_fieldAddr Tryd.underlying173 (fs := _) rfl sz22 rfl rfl) (by decide) ?_
    refine st_v (rv_load_blk tyS22 rfl (i := 0) rfl rfl) (by decide) ?_
    refine st_v (rv_move rfl) (by decide) ?_
    refine st_v (rv_indexS Tryd.underlying22 sz5 rfl rfl rfl (by first | omega | (simp [length_xorTo, over] <;> omega)) (by first | exact (Nat.zero_add _).trans (Nat.mul_one _) | exact congrArg _ (Nat.mul_one _) | rfl)) (by decide) ?_
    refine st_v (rv_load_blk tyS5 rfl (i := 2) rfl (cell8 (by first | omega | (simp [length_xorTo, over] <;> omega)))) (by decide) ?_
    refine st_v (rv_xor8 (b := 92#8) rfl rfl) (by decide) ?_
    refine st_v (rv_indexS Tryd.underlying22 sz5 rfl rfl rfl (by first | omega | (simp [length_xorTo, over] <;> omega)) (by first | exact (Nat.zero_add _).trans (Nat.mul_one _) | exact congrArg _ (Nat.mul_one _) | rfl)) (by decide) ?_
    refine st_store8 rfl rfl (i := 2) rfl sz5 (by first | omega | (simp [length_xorTo, over] <;> omega)) (l' := [_, _, _, _, _, _]) rfl ?_
    refine st_nil ?_
    refine st_in_normal ?_
    refine st_then ?_
    refine st_region ?_
    first | refine st_v (rv_addN (b := 1) rfl rfl (by first | omega | (simp; done) | (simp; omega))) (by decide) ?_ | refine st_v (rv_addZ rfl rfl (by first | omega | (simp; done) | (simp; omega))) (by decide) ?_
    refine st_v (rv_move rfl) (by decide) ?_
    refine st_nil ?_
    refine st_then ?_
    exact st_again (i + 1) (by omega) (by omega) (.cons rfl (.cons rfl (.cons rfl (.nil _)))) (fun _ hM => hM)
  · -- t43 False
    try simp only [z1, z2, z3, z4, z5, z6, z7, z8, z9, z10, z11, z12, z13, z14] at hc43
    obtain rfl : i = 128 := by omega
    refine st_exit ?_
    refine st_then_exit ?_
    refine st_then_exit ?_
    refine st_in_exit ?_
    refine st_then ?_
    refine st_seq ?_
    refine st_region ?_
    refine st_v (rv_move rfl) (by decide) ?_
    refine st_v (rv_assign rfl) (by decide) ?_
    refine st_nil ?_
    refine st_then ?_
    refine st_ret ?_
    exact st_done rfl rfl (fun w hM => ⟨(b4, sl b2 0 128 128, sl b3 0 128 128), rfl, by
    have hM := hM.c8Own (i := 1) (n := 128) rfl (by simp [length_xorTo, over] <;> omega)
    have hM := hM.c8Own (i := 2) (n := 128) rfl (by simp [length_xorTo, over] <;> omega)
    have hM := (Mem.front (Mem.front (Mem.front hM (i := 2) rfl) (i := 2) rfl) (i := 2) rfl)
    have hM := hM.sublist (List.cons_sublist_cons.2 (List.cons_sublist_cons.2 (List.cons_sublist_cons.2 (List.nil_sublist _))))
    rw [← (kpadS (k := 1) hk _), ← (kpadS (k := 1) hk _)]
    exact hM⟩)
set_option maxRecDepth 20000 in
set_option maxHeartbeats 1000000 in
theorem newKeyed2L_calls (v : Value) (q : List (BitVec 8)) (hq : q.length ≤ 900000) (hk : hbs 2 < q.length) (w : World) (hL : LaidH w) (hR : Rd w v q.length 1 (q.map U8)) : Calls Tryd.prog 86 #[vI (2 : Nat), v] w (fun e w' => ∃ r : Nat × Value × Value, e = .returned (pt r.1 0) ∧ Mem (All w) w w' [blk r.1 #[vI (2 : Nat), r.2.1, r.2.2] 173, own r.2.1 5 1 (hbs 2) ((kpad 2 q 54#8).map U8), own r.2.2 5 1 (hbs 2) ((kpad 2 q 92#8).map U8)]) := by
  refine calls_of_st (n := 65) (args := [vI (2 : Nat), v]) Tryd.func86 rfl Tryd.ntmps86 (Nat.le_of_ble_eq_true rfl) (Mem.all w) ?_
  refine st_seq ?_
  refine st_region ?_
  refine st_v (rv_assign rfl) (by decide) ?_
  refine st_nil ?_
  refine st_then ?_
  refine st_seq ?_
  refine st_region ?_
  refine st_v (rv_move rfl) (by decide) ?_
  refine st_call1 (ρ := HP) (fun r => pt r.hb 0) (fun _ => True) (fun r => [hashM 2 r.hb r.sb r.fp r.vb [], famM 2 r.fp r.kv]) cal82 rfl (fun w hM => ((begin2_calls w (hL.at hM))).mono fun e w' ⟨r, h1, h2⟩ => ⟨r, h1, trivial, h2⟩) (by decide) (fun r1 _ => ?_)
  refine St.mem ?_ (fun w hM => Mem.unpack (lm := hashL U64 160 165 117 F512 128 h512 2 r1.hb r1.sb r1.fp r1.vb []) (lf := [_]) hM)
  refine st_v (rv_nilCheck rfl) (by decide) ?_
  refine st_v (rv_fieldAddr Tryd.underlying117 (fs := _) rfl sz115 rfl rfl) (by decide) ?_
  refine st_v (rv_load_blk tyS115 rfl (i := 0) rfl rfl) (by decide) ?_
  refine st_inv1 (ρ := Unit) (fun _ => vI (128 : Nat)) (fun _ => True) (fun _ => []) metsize64 cal174 rfl rfl (fun w hM => (size64_calls _ w).mono fun e w' ⟨h1, h2⟩ => ⟨(), h1, trivial, h2⟩) (by decide) (fun _ _ => ?_)
  refine st_v (rv_assign rfl) (by decide) ?_
  refine st_nil ?_
  refine st_then ?_
  refine st_seq ?_
  refine st_seq ?_
  refine st_region ?_
  refine st_v (rv_move rfl) (by decide) ?_
  refine st_v (rv_lenR (rd_old hR hR.all) Tryd.underlying22 rfl) (by decide) ?_
  refine st_v (rv_move rfl) (by decide) ?_
  refine st_v (rv_to (u := .bool true) (rv_gtrZ rfl rfl) (by simp [hbs] at hk ⊢; omega)) (by decide) ?_
  refine st_nil ?_
  refine st_then ?_
  refine st_true rfl ?_
  refine st_region ?_
  refine st_v (rv_move rfl) (by decide) ?_
  refine st_v (rv_move rfl) (by decide) ?_
  refine st_buildO1 Tryd.underlying166 tyZ22 rfl rfl (fun w hM => cells_rd ((rd_old hR hR.all) w hM)) (by decide) (fun v2 => ?_)
  refine st_callV cal83 rfl (fun w hM => (of1_calls 2 (by decide) _ v q hq w (hL.at hM) ((rd_own (i := 0) rfl) w hM) (rd_old hR hR.all w hM))) (by decide) (fun v3 => ?_)
  refine st_v (rv_assign rfl) (by decide) ?_
  refine st_nil ?_
  refine st_then ?_
  refine st_seq ?_
  refine st_drawStart mixed ?_
  refine st_drawSeg1 (E0 := [(0, _), (1, _), (5, _)]) [kpeq _, kpeq _, (fun _ v => slV (c8 (List.replicate (128) 0#8)) 5 (128) v), kpeq _, (fun _ v => slV (c8 (List.replicate (128) 0#8)) 5 (128) v)] 0 5 [0, 0, 2, 0, 8, 31, 63, 127] [0, 1, 5] (by kernel_rfl) (by decide) (by kernel_rfl) (.cons rfl (.cons rfl (.cons rfl (.nil _)))) rfl rfl (hall_cons (hop_mv rfl (by decide) rfl rfl) (hall_cons (hop_mv rfl (by decide) rfl rfl) (hall_cons (hop_val [(1, 23, _)] [] rfl rfl rfl (by decide) rfl (jcons rfl rfl rfl rfl rfl (jnil)) (xnil) (fun _ _ _ _ => @does_make8 _ _ _ _ _ _ _ _ _ _ _ _ _ _ _ _ (128) Tryd.underlying22 tyZ5 rfl rfl (by first | omega | (simp [length_xorTo, over] <;> omega)) (by first | omega | (simp [length_xorTo, over] <;> omega)))) (hall_cons (hop_mv rfl (by decide) rfl rfl) (hall_cons (hop_val [(3, 25, _)] [] rfl rfl rfl (by decide) rfl (jcons rfl rfl rfl rfl rfl (jnil)) (xnil) (fun _ _ _ _ => @does_make8 _ _ _ _ _ _ _ _ _ _ _ _ _ _ _ _ (128) Tryd.underlying22 tyZ5 rfl rfl (by first | omega | (simp [length_xorTo, over] <;> omega)) (by first | omega | (simp [length_xorTo, over] <;> omega)))) (hall_nil)))))) (draw_end [(0, 22, _)] [(2, 24, (fun _ v => slV (c8 (List.replicate (128) 0#8)) 5 (128) v)), (4, 26, (fun _ v => slV (c8 (List.replicate (128) 0#8)) 5 (128) v))] rfl (jcons rfl rfl rfl rfl rfl (jnil)) (xcons rfl rfl rfl rfl rfl rfl (xcons rfl rfl rfl rfl rfl rfl (xnil))) (fun vals => ?_))
  dsimp only [xenv, xmem]
  refine st_openS (i := 0) rfl (fun b4 hb4 => ?_)
  rw [hb4]
  refine st_openS (i := 1) rfl (fun b5 hb5 => ?_)
  rw [hb5]
  refine st_drawTail (N := 5) [0, 0, 2, 0, 8, 31, 63, 127] (by kernel_rfl) (by kernel_rfl) ?_
  refine st_v (rv_buildStruct_of Tryd.underlying173 tyZ173 (places := [(0, 1), (1, 1), (2, 1)]) (by kernel_rfl) rfl (cs := #[_, _, _]) (by rfl)) (by decide) ?_
  refine st_box rfl (by decide) rfl (fun b6 hb6 => ?_)
  refine st_v (rv_assign rfl) (by decide) ?_
  refine st_nil ?_
  refine st_then ?_
  refine st_seq ?_
  refine st_region ?_
  refine st_v (rv_move rfl) (by decide) ?_
  refine st_v (rv_nilCheck rfl) (by decide) ?_
  refine st_v (rv_fieldAddr Tryd.underlying173 (fs := _) rfl sz22 rfl rfl) (by decide) ?_
  refine st_v (rv_load_blk tyS22 rfl (i := 0) rfl rfl) (by decide) ?_
  refine st_v (rv_move rfl) (by decide) ?_
  refine st_copy8 Tryd.underlying22 sz5 rfl rfl (i := 1) rfl (by first | omega | (simp [length_xorTo, over]; done) | (simp [length_xorTo, over] <;> omega)) (fun w hM => src_rd ((rd_own (i := 3) rfl) w hM) (one8 _)) (l' := [_, _, _, _, _, _, _, _]) rfl (by decide) ?_
  refine st_nil ?_
  refine st_then ?_
  refine st_seq ?_
  refine st_region ?_
  refine st_v (rv_move rfl) (by decide) ?_
  refine st_v (rv_nilCheck rfl) (by decide) ?_
  refine st_v (rv_fieldAddr Tryd.underlying173 (fs := _) rfl sz22 rfl rfl) (by decide) ?_
  refine st_v (rv_load_blk tyS22 rfl (i := 0) rfl rfl) (by decide) ?_
  refine st_v (rv_move rfl) (by decide) ?_
  refine st_copy8 Tryd.underlying22 sz5 rfl rfl (i := 2) rfl (by first | omega | (simp [length_xorTo, over]; done) | (simp [length_xorTo, over] <;> omega)) (fun w hM => src_rd ((rd_own (i := 3) rfl) w hM) (one8 _)) (l' := [_, _, _, _, _, _, _, _]) rfl (by decide) ?_
  refine st_nil ?_
  refine st_then ?_
  refine st_seq ?_
  refine st_seq ?_
  refine st_region ?_
  refine st_v (rv_move rfl) (by decide) ?_
  refine st_v (rv_move rfl) (by decide) ?_
  refine st_nil ?_
  refine st_then ?_
  refine st_block ?_
  refine st_loopA (σ := Nat) [(6, kst _), (41, kst _), (42, fun i => vI i)] [kst _, fun i => blk b4 (c8 (xorTo (over (List.replicate 128 0#8) 0 ((hsum 2 q).take (min (hsize 2) 128))) 54#8 i)) 5, fun i => blk b5 (c8 (xorTo (over (List.replicate 128 0#8) 0 ((hsum 2 q).take (min (hsize 2) 128))) 92#8 i)) 5, kst _, kst _, kst _, kst _, kst _] (fun i => i ≤ 128) (fun i => 128 - i) 0 (by omega) (.cons rfl (.cons rfl (.cons rfl (.nil _)))) (fun _ hM => hM) ?_
  intro i hI
  try dsimp only at hI
  dsimp only [List.map, kst]
  refine st_seq ?_
  refine st_region ?_
  refine st_v (rv_lssZ rfl rfl) (by decide) ?_
  refine st_nil ?_
  refine st_then ?_
  refine st_seq ?_
  refine st_cond rfl (fun hc43 => ?_) (fun hc43 => ?_)
  · -- t43 True
    try simp only [z1, z2, z3, z4, z5, z6, z7, z8, z9, z10, z11, z12, z13, z14] at hc43
    refine st_skip ?_
    refine st_then ?_
    refine st_seq ?_
    refine st_block ?_
    refine st_seq ?_
    refine st_region ?_
    refine st_v (rv_move rfl) (by decide) ?_
    refine st_v (rv_assign rfl) (by decide) ?_
    refine st_nil ?_
    refine st_then ?_
    refine st_seq ?_
    refine st_region ?_
    refine st_v (rv_move rfl) (by decide) ?_
    refine st_v (rv_nilCheck rfl) (by decide) ?_
    refine st_v (rv_fieldAddr Tryd.underlying173 (fs := _) rfl sz22 rfl rfl) (by decide) ?_
    refine st_v (rv_load_blk tyS22 rfl (i := 0) rfl rfl) (by decide) ?_
    refine st_v (rv_move rfl) (by decide) ?_
    refine st_v (rv_indexS Tryd.underlying22 sz5 rfl rfl rfl (by first | omega | (simp [length_xorTo, over] <;> omega)) (by first | exact (Nat.zero_add _).trans (Nat.mul_one _) | exact congrArg _ (Nat.mul_one _) | rfl)) (by decide) ?_
    refine st_v (rv_load_blk tyS5 rfl (i := 1) rfl (cell8 (by first | omega | (simp [length_xorTo, over] <;> omega)))) (by decide) ?_
    refine st_v (rv_xor8 (b := 54#8) rfl rfl) (by decide) ?_
    refine st_v (rv_indexS Tryd.underlying22 sz5 rfl rfl rfl (by first | omega | (simp [length_xorTo, over] <;> omega)) (by first | exact (Nat.zero_add _).trans (Nat.mul_one _) | exact congrArg _ (Nat.mul_one _) | rfl)) (by decide) ?_
    refine st_store8 rfl rfl (i := 1) rfl sz5 (by first | omega | (simp [length_xorTo, over] <;> omega)) (l' := [_, _, _, _, _, _, _, _]) rfl ?_
    refine st_nil ?_
    refine st_then ?_
    refine st_region ?_
    refine st_v (rv_move rfl) (by decide) ?_
    refine st_v (rv_nilCheck rfl) (by decide) ?_
    refine st_v (rv_fieldAddr Tryd.underlying173 (fs := _) rfl sz22 rfl rfl) (by decide) ?_
    refine st_v (rv_load_blk tyS22 rfl (i := 0) rfl rfl) (by decide) ?_
    refine st_v (rv_move rfl) (by decide) ?_
    refine st_v (rv_indexS Tryd.underlying22 sz5 rfl rfl rfl (by first | omega | (simp [length_xorTo, over] <;> omega)) (by first | exact (Nat.zero_add _).trans (Nat.mul_one _) | exact congrArg _ (Nat.mul_one _) | rfl)) (by decide) ?_
    refine st_v (rv_load_blk tyS5 rfl (i := 2) rfl (cell8 (by first | omega | (simp [length_xorTo, over] <;> omega)))) (by decide) ?_
    refine st_v (rv_xor8 (b := 92#8) rfl rfl) (by decide) ?_
    refine st_v (rv_indexS Tryd.underlying22 sz5 rfl rfl rfl (by first | omega | (simp [length_xorTo, over] <;> omega)) (by first | exact (Nat.zero_add _).trans (Nat.mul_one _) | exact congrArg _ (Nat.mul_one _) | rfl)) (by decide) ?_
    refine st_store8 rfl rfl (i := 2) rfl sz5 (by first | omega | (simp [length_xorTo, over] <;> omega)) (l' := [_, _, _, _, _, _, _, _]) rfl ?_
    refine st_nil ?_
    refine st_in_normal ?_
    refine st_then ?_
    refine st_region ?_
    first | refine st_v (rv_addN (b := 1) rfl rfl (by first | omega | (simp; done) | (simp; omega))) (by decide) ?_ | refine st_v (rv_addZ rfl rfl (by first | omega | (simp; done) | (simp; omega))) (by decide) ?_
    refine st_v (rv_move rfl) (by decide) ?_
    refine st_nil ?_
    refine st_then ?_
    exact st_again (i + 1) (by omega) (by omega) (.cons rfl (.cons rfl (.cons rfl (.nil _)))) (fun _ hM => hM)
  · -- t43 False
    try simp only [z1, z2, z3, z4, z5, z6, z7, z8, z9, z10, z11, z12, z13, z14] at hc43
    obtain rfl : i = 128 := by omega
    refine st_exit ?_
    refine st_then_exit ?_
    refine st_then_exit ?_
    refine st_in_exit ?_
    refine st_then ?_
    refine st_seq ?_
    refine st_region ?_
    refine st_v (rv_move rfl) (by decide) ?_
    refine st_v (rv_assign rfl) (by decide) ?_
    refine st_nil ?_
    refine st_then ?_
    refine st_ret ?_
    exact st_done rfl rfl (fun w hM => ⟨(b6, sl b4 0 128 128, sl b5 0 128 128), rfl, by
    have hM := hM.c8Own (i := 1) (n := 128) rfl (by simp [length_xorTo, over] <;> omega)
    have hM := hM.c8Own (i := 2) (n := 128) rfl (by simp [length_xorTo, over] <;> omega)
    have hM := (Mem.front (Mem.front (Mem.front hM (i := 2) rfl) (i := 2) rfl) (i := 2) rfl)
    have hM := hM.sublist (List.cons_sublist_cons.2 (List.cons_sublist_cons.2 (List.cons_sublist_cons.2 (List.nil_sublist _))))
    rw [← (kpadL (k := 2) (by decide) hk _), ← (kpadL (k := 2) (by decide) hk _)]
    exact hM⟩)
set_option maxRecDepth 20000 in
set_option maxHeartbeats 1000000 in
theorem newKeyed2S_calls (v : Value) (q : List (BitVec 8)) (hq : q.length ≤ 900000) (hk : q.length ≤ hbs 2) (w : World) (hL : LaidH w) (hR : Rd w v q.length 1 (q.map U8)) : Calls Tryd.prog 86 #[vI (2 : Nat), v] w (fun e w' => ∃ r : Nat × Value × Value, e = .returned (pt r.1 0) ∧ Mem (All w) w w' [blk r.1 #[vI (2 : Nat), r.2.1, r.2.2] 173, own r.2.1 5 1 (hbs 2) ((kpad 2 q 54#8).map U8), own r.2.2 5 1 (hbs 2) ((kpad 2 q 92#8).map U8)]) := by
  refine calls_of_st (n := 65) (args := [vI (2 : Nat), v]) Tryd.func86 rfl Tryd.ntmps86 (Nat.le_of_ble_eq_true rfl) (Mem.all w) ?_
  refine st_seq ?_
  refine st_region ?_
  refine st_v (rv_assign rfl) (by decide) ?_
  refine st_nil ?_
  refine st_then ?_
  refine st_seq ?_
  refine st_region ?_
  refine st_v (rv_move rfl) (by decide) ?_
  refine st_call1 (ρ := HP) (fun r => pt r.hb 0) (fun _ => True) (fun r => [hashM 2 r.hb r.sb r.fp r.vb [], famM 2 r.fp r.kv]) cal82 rfl (fun w hM => ((begin2_calls w (hL.at hM))).mono fun e w' ⟨r, h1, h2⟩ => ⟨r, h1, trivial, h2⟩) (by decide) (fun r1 _ => ?_)
  refine St.mem ?_ (fun w hM => Mem.unpack (lm := hashL U64 160 165 117 F512 128 h512 2 r1.hb r1.sb r1.fp r1.vb []) (lf := [_]) hM)
  refine st_v (rv_nilCheck rfl) (by decide) ?_
  refine st_v (rv_fieldAddr Tryd.underlying117 (fs := _) rfl sz115 rfl rfl) (by decide) ?_
  refine st_v (rv_load_blk tyS115 rfl (i := 0) rfl rfl) (by decide) ?_
  refine st_inv1 (ρ := Unit) (fun _ => vI (128 : Nat)) (fun _ => True) (fun _ => []) metsize64 cal174 rfl rfl (fun w hM => (size64_calls _ w).mono fun e w' ⟨h1, h2⟩ => ⟨(), h1, trivial, h2⟩) (by decide) (fun _ _ => ?_)
  refine st_v (rv_assign rfl) (by decide) ?_
  refine st_nil ?_
  refine st_then ?_
  refine st_seq ?_
  refine st_seq ?_
  refine st_region ?_
  refine st_v (rv_move rfl) (by decide) ?_
  refine st_v (rv_lenR (rd_old hR hR.all) Tryd.underlying22 rfl) (by decide) ?_
  refine st_v (rv_move rfl) (by decide) ?_
  refine st_v (rv_to (u := .bool false) (rv_gtrZ rfl rfl) (by simp [hbs] at hk ⊢; omega)) (by decide) ?_
  refine st_nil ?_
  refine st_then ?_
  refine st_false rfl ?_
  refine st_skip ?_
  refine st_then ?_
  refine st_seq ?_
  refine st_drawStart mixed ?_
  refine st_drawSeg1 (E0 := [(0, _), (1, _), (5, _)]) [kpeq _, kpeq _, (fun _ v => slV (c8 (List.replicate (128) 0#8)) 5 (128) v), kpeq _, (fun _ v => slV (c8 (List.replicate (128) 0#8)) 5 (128) v)] 0 5 [0, 0, 2, 0, 8, 31, 63, 127] [0, 1, 5] (by kernel_rfl) (by decide) (by kernel_rfl) (.cons rfl (.cons rfl (.cons rfl (.nil _)))) rfl rfl (hall_cons (hop_mv rfl (by decide) rfl rfl) (hall_cons (hop_mv rfl (by decide) rfl rfl) (hall_cons (hop_val [(1, 23, _)] [] rfl rfl rfl (by decide) rfl (jcons rfl rfl rfl rfl rfl (jnil)) (xnil) (fun _ _ _ _ => @does_make8 _ _ _ _ _ _ _ _ _ _ _ _ _ _ _ _ (128) Tryd.underlying22 tyZ5 rfl rfl (by first | omega | (simp [length_xorTo, over] <;> omega)) (by first | omega | (simp [length_xorTo, over] <;> omega)))) (hall_cons (hop_mv rfl (by decide) rfl rfl) (hall_cons (hop_val [(3, 25, _)] [] rfl rfl rfl (by decide) rfl (jcons rfl rfl rfl rfl rfl (jnil)) (xnil) (fun _ _ _ _ => @does_make8 _ _ _ _ _ _ _ _ _ _ _ _ _ _ _ _ (128) Tryd.underlying22 tyZ5 rfl rfl (by first | omega | (simp [length_xorTo, over] <;> omega)) (by first | omega | (simp [length_xorTo, over] <;> omega)))) (hall_nil)))))) (draw_end [(0, 22, _)] [(2, 24, (fun _ v => slV (c8 (List.replicate (128) 0#8)) 5 (128) v)), (4, 26, (fun _ v => slV (c8 (List.replicate (128) 0#8)) 5 (128) v))] rfl (jcons rfl rfl rfl rfl rfl (jnil)) (xcons rfl rfl rfl rfl rfl rfl (xcons rfl rfl rfl rfl rfl rfl (xnil))) (fun vals => ?_))
  dsimp only [xenv, xmem]
  refine st_openS (i := 0) rfl (fun b2 hb2 => ?_)
  rw [hb2]
  refine st_openS (i := 1) rfl (fun b3 hb3 => ?_)
  rw [hb3]
  refine st_drawTail (N := 5) [0, 0, 2, 0, 8, 31, 63, 127] (by kernel_rfl) (by kernel_rfl) ?_
  refine st_v (rv_buildStruct_of Tryd.underlying173 tyZ173 (places := [(0, 1), (1, 1), (2, 1)]) (by kernel_rfl) rfl (cs := #[_, _, _]) (by rfl)) (by decide) ?_
  refine st_box rfl (by decide) rfl (fun b4 hb4 => ?_)
  refine st_v (rv_assign rfl) (by decide) ?_
  refine st_nil ?_
  refine st_then ?_
  refine st_seq ?_
  refine st_region ?_
  refine st_v (rv_move rfl) (by decide) ?_
  refine st_v (rv_nilCheck rfl) (by decide) ?_
  refine st_v (rv_fieldAddr Tryd.underlying173 (fs := _) rfl sz22 rfl rfl) (by decide) ?_
  refine st_v (rv_load_blk tyS22 rfl (i := 0) rfl rfl) (by decide) ?_
  refine st_v (rv_move rfl) (by decide) ?_
  refine st_copy8 Tryd.underlying22 sz5 rfl rfl (i := 1) rfl (by first | omega | (simp [length_xorTo, over]; done) | (simp [length_xorTo, over] <;> omega)) (fun w hM => src_rd ((rd_old hR hR.all) w hM) (one8 _)) (l' := [_, _, _, _, _, _]) rfl (by decide) ?_
  refine st_nil ?_
  refine st_then ?_
  refine st_seq ?_
  refine st_region ?_
  refine st_v (rv_move rfl) (by decide) ?_
  refine st_v (rv_nilCheck rfl) (by decide) ?_
  refine st_v (rv_fieldAddr Tryd.underlying173 (fs := _) rfl sz22 rfl rfl) (by decide) ?_
  refine st_v (rv_load_blk tyS22 rfl (i := 0) rfl rfl) (by decide) ?_
  refine st_v (rv_move rfl) (by decide) ?_
  refine st_copy8 Tryd.underlying22 sz5 rfl rfl (i := 2) rfl (by first | omega | (simp [length_xorTo, over]; done) | (simp [length_xorTo, over] <;> omega)) (fun w hM => src_rd ((rd_old hR hR.all) w hM) (one8 _)) (l' := [_, _, _, _, _, _]) rfl (by decide) ?_
  refine st_nil ?_
  refine st_then ?_
  refine st_seq ?_
  refine st_seq ?_
  refine st_region ?_
  refine st_v (rv_move rfl) (by decide) ?_
  refine st_v (rv_move rfl) (by decide) ?_
  refine st_nil ?_
  refine st_then ?_
  refine st_block ?_
  refine st_loopA (σ := Nat) [(6, kst _), (41, kst _), (42, fun i => vI i)] [kst _, fun i => blk b2 (c8 (xorTo (over (List.replicate 128 0#8) 0 ((q).take (min q.length 128))) 54#8 i)) 5, fun i => blk b3 (c8 (xorTo (over (List.replicate 128 0#8) 0 ((q).take (min q.length 128))) 92#8 i)) 5, kst _, kst _, kst _] (fun i => i ≤ 128) (fun i => 128 - i) 0 (by omega) (.cons rfl (.cons rfl (.cons rfl (.nil _)))) (fun _ hM => hM) ?_
  intro i hI
  try dsimp only at hI
  dsimp only [List.map, kst]
  refine st_seq ?_
  refine st_region ?_
  refine st_v (rv_lssZ rfl rfl) (by decide) ?_
  refine st_nil ?_
  refine st_then ?_
  refine st_seq ?_
  refine st_cond rfl (fun hc43 => ?_) (fun hc43 => ?_)
  · -- t43 True
    try simp only [z1, z2, z3, z4, z5, z6, z7, z8, z9, z10, z11, z12, z13, z14] at hc43
    refine st_skip ?_
    refine st_then ?_
    refine st_seq ?_
    refine st_block ?_
    refine st_seq ?_
    refine st_region ?_
    refine st_v (rv_move rfl) (by decide) ?_
    refine st_v (rv_assign rfl) (by decide) ?_
    refine st_nil ?_
    refine st_then ?_
    refine st_seq ?_
    refine st_region ?_
    refine st_v (rv_move rfl) (by decide) ?_
    refine st_v (rv_nilCheck rfl) (by decide) ?_
    refine st_v (rv_fieldAddr Tryd.underlying173 (fs := _) rfl sz22 rfl rfl) (by decide) ?_
    refine st_v (rv_load_blk tyS22 rfl (i := 0) rfl rfl) (by decide) ?_
    refine st_v (rv_move rfl) (by decide) ?_
    refine st_v (rv_indexS Tryd.underlying22 sz5 rfl rfl rfl (by first | omega | (simp [length_xorTo, over] <;> omega)) (by first | exact (Nat.zero_add _).trans (Nat.mul_one _) | exact congrArg _ (Nat.mul_one _) | rfl)) (by decide) ?_
    refine st_v (rv_load_blk tyS5 rfl (i := 1) rfl (cell8 (by first | omega | (simp [length_xorTo, over] <;> omega)))) (by decide) ?_
    refine st_v (rv_xor8 (b := 54#8) rfl rfl) (by decide) ?_
    refine st_v (rv_indexS Tryd.underlying22 sz5 rfl rfl rfl (by first | omega | (simp [length_xorTo, over] <;> omega)) (by first | exact (Nat.zero_add _).trans (Nat.mul_one _) | exact congrArg _ (Nat.mul_one _) | rfl)) (by decide) ?_
    refine st_store8 rfl rfl (i := 1) rfl sz5 (by first | omega | (simp [length_xorTo, over] <;> omega)) (l' := [_, _, _, _, _, _]) rfl ?_
    refine st_nil ?_
    refine st_then ?_
    refine st_region ?_
    refine st_v (rv_move rfl) (by decide) ?_
    refine st_v (rv_nilCheck rfl) (by decide) ?_
    refine st_v (rv_fieldAddr Tryd.underlying173 (fs := _) rfl sz22 rfl rfl) (by decide) ?_
    refine st_v (rv_load_blk tyS22 rfl (i := 0) rfl rfl) (by decide) ?_
    refine st_v (rv_move rfl) (by decide) ?_
    refine st_v (rv_indexS Tryd.underlying22 sz5 rfl rfl rfl (by first | omega | (simp [length_xorTo, over] <;> omega)) (by first | exact (Nat.zero_add _).trans (Nat.mul_one _) | exact congrArg _ (Nat.mul_one _) | rfl)) (by decide) ?_
    refine st_v (rv_load_blk tyS5 rfl (i := 2) rfl (cell8 (by first | omega | (simp [length_xorTo, over] <;> omega)))) (by decide) ?_
    refine st_v (rv_xor8 (b := 92#8) rfl rfl) (by decide) ?_
    refine st_v (rv_indexS Tryd.underlying22 sz5 rfl rfl rfl (by first | omega | (simp [length_xorTo, over] <;> omega)) (by first | exact (Nat.zero_add _).trans (Nat.mul_one _) | exact congrArg _ (Nat.mul_one _) | rfl)) (by decide) ?_
    refine st_store8 rfl rfl (i := 2) rfl sz5 (by first | omega | (simp [length_xorTo, over] <;> omega)) (l' := [_, _, _, _, _, _]) rfl ?_
    refine st_nil ?_
    refine st_in_normal ?_
    refine st_then ?_
    refine st_region ?_
    first | refine st_v (rv_addN (b := 1) rfl rfl (by first | omega | (simp; done) | (simp; omega))) (by decide) ?_ | refine st_v (rv_addZ rfl rfl (by first | omega | (simp; done) | (simp; omega))) (by decide) ?_
    refine st_v (rv_move rfl) (by decide) ?_
    refine st_nil ?_
    refine st_then ?_
    exact st_again (i + 1) (by omega) (by omega) (.cons rfl (.cons rfl (.cons rfl (.nil _)))) (fun _ hM => hM)
  · -- t43 False
    try simp only [z1, z2, z3, z4, z5, z6, z7, z8, z9, z10, z11, z12, z13, z14] at hc43
    obtain rfl : i = 128 := by omega
    refine st_exit ?_
    refine st_then_exit ?_
    refine st_then_exit ?_
    refine st_in_exit ?_
    refine st_then ?_
    refine st_seq ?_
    refine st_region ?_
    refine st_v (rv_move rfl) (by decide) ?_
    refine st_v (rv_assign rfl) (by decide) ?_
    refine st_nil ?_
    refine st_then ?_
    refine st_ret ?_
    exact st_done rfl rfl (fun w hM => ⟨(b4, sl b2 0 128 128, sl b3 0 128 128), rfl, by
    have hM := hM.c8Own (i := 1) (n := 128) rfl (by simp [length_xorTo, over] <;> omega)
    have hM := hM.c8Own (i := 2) (n := 128) rfl (by simp [length_xorTo, over] <;> omega)
    have hM := (Mem.front (Mem.front (Mem.front hM (i := 2) rfl) (i := 2) rfl) (i := 2) rfl)
    have hM := hM.sublist (List.cons_sublist_cons.2 (List.cons_sublist_cons.2 (List.cons_sublist_cons.2 (List.nil_sublist _))))
    rw [← (kpadS (k := 2) hk _), ← (kpadS (k := 2) hk _)]
    exact hM⟩)
theorem hbs_le (k : Nat) : hbs k ≤ 128 := by
  unfold hbs; split <;> omega
theorem hsize_le (k : Nat) : hsize k ≤ 64 := by
  unfold hsize; split <;> omega
theorem length_key0 (k : Nat) (key : List (BitVec 8)) : (key0 k key).length = hbs k := by
  simp only [key0, over, List.length_append, List.length_take, List.length_drop, List.length_replicate, Nat.zero_add]; omega
theorem length_kpad (k : Nat) (key : List (BitVec 8)) (b : BitVec 8) : (kpad k key b).length = hbs k := by rw [kpad, length_xorTo, length_key0]
/-- what keys a hash, for reading -/
def keyedA (k kb : Nat) (vi vo : Value) (key : List (BitVec 8)) : Asn where
  holds w := (∃ fr : Nat × Nat, w.heap[kb]? = some (.cells #[vI (k : Nat), vi, vo] 173 fr)) ∧ Rd w vi (kpad k key 54#8).length 1 ((kpad k key 54#8).map U8) ∧ Rd w vo (kpad k key 92#8).length 1 ((kpad k key 92#8).map U8)
  foot b := b = kb ∨ vfoot vi b ∨ vfoot vo b
  turn _ := False
  keep w w' h hr := ⟨by obtain ⟨fr, h1⟩ := hr.1; exact ⟨fr, (h kb (.inl rfl)).trans h1⟩, hr.2.1.same fun b hb => h b (.inr (.inl hb)), hr.2.2.same fun b hb => h b (.inr (.inr hb))⟩
  live w hr b hb := by
    rcases hb with rfl | hb | hb
    · obtain ⟨fr, h1⟩ := hr.1
      exact (Array.getElem?_eq_some_iff.1 h1).1
    · exact hr.2.1.live b hb
    · exact hr.2.2.live b hb
  sub _ h := h.elim
theorem Mem.toKeyed {k kb : Nat} {vi vo : Value} {key : List (BitVec 8)} {S : Nat → Prop} {w0 w : World} (M : Mem S w0 w [blk kb #[vI (k : Nat), vi, vo] 173, own vi 5 1 (hbs k) ((kpad k key 54#8).map U8), own vo 5 1 (hbs k) ((kpad k key 92#8).map U8)]) : Mem S w0 w [keyedA k kb vi vo key] := by
  have M1 := Mem.pack (lm := [blk kb #[vI (k : Nat), vi, vo] 173, own vi 5 1 (hbs k) ((kpad k key 54#8).map U8), own vo 5 1 (hbs k) ((kpad k key 92#8).map U8)]) (lf := []) M
  obtain ⟨fr, hb, _⟩ := M.holds _ List.mem_cons_self
  have h1 : (own vi 5 1 (hbs k) ((kpad k key 54#8).map U8)).holds w := M.holds _ (List.mem_cons_of_mem _ List.mem_cons_self)
  have h2 : (own vo 5 1 (hbs k) ((kpad k key 92#8).map U8)).holds w := M.holds _ (List.mem_cons_of_mem _ (List.mem_cons_of_mem _ List.mem_cons_self))
  refine M1.replace (i := 0) rfl rfl rfl rfl (Nat.le_refl _) (fun _ _ _ => rfl) ⟨⟨fr, hb⟩, Rd.n_eq (own_rd h1) (length_kpad _ _ _).symm, Rd.n_eq (own_rd h2) (length_kpad _ _ _).symm⟩ (fun b hb => .inl ?_)
  rcases hb with rfl | hb | hb
  · exact ⟨_, List.mem_cons_self, rfl⟩
  · exact ⟨_, List.mem_cons_of_mem _ List.mem_cons_self, hb⟩
  · exact ⟨_, List.mem_cons_of_mem _ (List.mem_cons_of_mem _ List.mem_cons_self), hb⟩
theorem newKeyed_calls (k : Nat) (hk : k ≤ 2) (v : Value) (q : List (BitVec 8)) (hq : q.length ≤ 900000) (w : World) (hL : LaidH w) (hR : Rd w v q.length 1 (q.map U8)) :
    Calls Tryd.prog 86 #[vI (k : Nat), v] w (fun e w' => ∃ r : Nat × Value × Value, e = .returned (pt r.1 0) ∧ Mem (All w) w w' [keyedA k r.1 r.2.1 r.2.2 q]) := by
  have fin : ∀ {k : Nat} {e : Ending} {w' : World}, (∃ r : Nat × Value × Value, e = .returned (pt r.1 0) ∧ Mem (All w) w w' [blk r.1 #[vI (k : Nat), r.2.1, r.2.2] 173, own r.2.1 5 1 (hbs k) ((kpad k q 54#8).map U8), own r.2.2 5 1 (hbs k) ((kpad k q 92#8).map U8)]) → ∃ r : Nat × Value × Value, e = .returned (pt r.1 0) ∧ Mem (All w) w w' [keyedA k r.1 r.2.1 r.2.2 q] :=
    fun ⟨r, h1, h2⟩ => ⟨r, h1, h2.toKeyed⟩
  match k, hk with
  | 0, _ =>
    by_cases h : hbs 0 < q.length
    · exact (newKeyed0L_calls v q hq h w hL hR).mono fun e w' h => fin (k := 0) h
    · exact (newKeyed0S_calls v q hq (Nat.le_of_not_lt h) w hL hR).mono fun e w' h => fin (k := 0) h
  | 1, _ =>
    by_cases h : hbs 1 < q.length
    · exact (newKeyed1L_calls v q hq h w hL hR).mono fun e w' h => fin (k := 1) h
    · exact (newKeyed1S_calls v q hq (Nat.le_of_not_lt h) w hL hR).mono fun e w' h => fin (k := 1) h
  | 2, _ =>
    by_cases h : hbs 2 < q.length
    · exact (newKeyed2L_calls v q hq h w hL hR).mono fun e w' h => fin (k := 2) h
    · exact (newKeyed2S_calls v q hq (Nat.le_of_not_lt h) w hL hR).mono fun e w' h => fin (k := 2) h
/-- the keyed hash -/
def hmacW (k : Nat) (key x : List (BitVec 8)) : List (BitVec 8) := hsum k (kpad k key 92#8 ++ hsum k (kpad k key 54#8 ++ x))
set_option maxRecDepth 20000 in
set_option maxHeartbeats 1000000 in
theorem ksum_calls (k : Nat) (hk : k ≤ 2) (kb : Nat) (vi vo : Value) (key : List (BitVec 8)) (v : Value) (vs : List Value) (ls : List (List (BitVec 8))) (ht : ls.flatten.length ≤ 800000) (hvs : vs.length ≤ 1000000) (w : World) (hL : LaidH w) (hK : (keyedA k kb vi vo key).holds w) (hV : Rd w v vs.length 1 vs) (hR : (rdAll vs ls).holds w) : Calls Tryd.prog 87 #[pt kb 0, v] w (fun e w' => ∃ r, e = .returned r ∧ Mem (All w) w w' [own r 5 1 (hsize k) ((hmacW k key ls.flatten).map U8)]) := by
  have hlen : vs.length = ls.length := hR.1
  obtain ⟨⟨fr, hrow⟩, hI, hO⟩ := hK
  have hSk : All w kb := ⟨(Array.getElem?_eq_some_iff.1 hrow).1, fun h => h⟩
  have h128 := hbs_le k
  have h64 := hsize_le k
  have hli := length_kpad k key 54#8
  have hlo := length_kpad k key 92#8
  refine calls_of_st (n := 41) (args := [pt kb 0, v]) Tryd.func87 rfl Tryd.ntmps87 (Nat.le_of_ble_eq_true rfl) (Mem.all w) ?_
  refine st_seq ?_
  refine st_region ?_
  refine st_v (rv_assign rfl) (by decide) ?_
  refine st_nil ?_
  refine st_then ?_
  refine st_seq ?_
  refine st_region ?_
  refine st_v (rv_move rfl) (by decide) ?_
  refine st_v (rv_nilCheck rfl) (by decide) ?_
  refine st_v (rv_fieldAddr Tryd.underlying173 (fs := _) rfl sz48 rfl rfl) (by decide) ?_
  refine st_v (rv_load_old tyS48 rfl hrow hSk rfl) (by decide) ?_
  refine st_call1 (ρ := HP) (fun r => pt r.hb 0) (fun _ => True) (fun r => [hashM k r.hb r.sb r.fp r.vb [], famM k r.fp r.kv]) cal82 rfl (fun w hM => ((begin_calls _ hk w (hL.at hM))).mono fun e w' ⟨r, h1, h2⟩ => ⟨r, h1, trivial, h2⟩) (by decide) (fun r1 _ => ?_)
  refine st_v (rv_assign rfl) (by decide) ?_
  refine st_nil ?_
  refine st_then ?_
  refine st_seq ?_
  refine st_region ?_
  refine st_v (rv_move rfl) (by decide) ?_
  refine st_v (rv_move rfl) (by decide) ?_
  refine st_v (rv_nilCheck rfl) (by decide) ?_
  refine st_v (rv_fieldAddr Tryd.underlying173 (fs := _) rfl sz22 rfl rfl) (by decide) ?_
  refine st_v (rv_load_old tyS22 rfl hrow hSk rfl) (by decide) ?_
  refine st_callE (ρ := Value) (fun _ => .tuple #[]) (fun _ => True) (fun u => hashM _ _ _ _ u (_ ++ _)) (fun _ => []) (i := 0) cal29 rfl rfl (fun w hM => (Write_calls _ hk _ _ _ _ _ _ _ _ (by simp only [List.length_nil]; omega) w (hM.at (i := 0) rfl) (hM.at (i := 1) rfl) (hM.offOf (i := 0) (j := 1) rfl rfl (by decide)) ((rd_old hI hI.all) w hM) (fun b hb => hM.offS (i := 0) rfl b (hI.all b hb))).mono fun e w' ⟨u, h1, h2⟩ => ⟨u, h1, trivial, h2⟩) (by decide) (fun u2 _ => ?_)
  rw [List.nil_append, ← List.append_nil (kpad k key 54#8)]
  refine st_nil ?_
  refine st_then ?_
  refine st_seq ?_
  refine st_seq ?_
  refine st_region ?_
  refine st_v (rv_move rfl) (by decide) ?_
  refine st_v (rv_lenR (rd_old hV hV.all) Tryd.underlying166 rfl) (by decide) ?_
  refine st_v (rv_move rfl) (by decide) ?_
  refine st_nil ?_
  refine st_then ?_
  refine st_block ?_
  refine st_loopA (σ := Nat × Value) [(0, kst _), (5, kst _), (19, kst _), (20, kst _), (21, fun (i, u) => vI i)] [fun (i, u) => hashM k r1.hb r1.sb r1.fp u (kpad k key 54#8 ++ (ls.take i).flatten), kst _] (fun (i, u) => i ≤ vs.length) (fun (i, u) => vs.length - i) (0, _) (by omega) (.cons rfl (.cons rfl (.cons rfl (.cons rfl (.cons rfl (.nil _)))))) (fun _ hM => hM) ?_
  intro ⟨i, u⟩ hI
  try dsimp only at hI
  dsimp only [List.map, kst]
  refine st_seq ?_
  refine st_region ?_
  refine st_v (rv_lssZ rfl rfl) (by decide) ?_
  refine st_nil ?_
  refine st_then ?_
  refine st_seq ?_
  refine st_cond rfl (fun hc22 => ?_) (fun hc22 => ?_)
  · -- t22 True
    try simp only [z1, z2, z3, z4, z5, z6, z7, z8, z9, z10, z11, z12, z13, z14] at hc22
    refine st_skip ?_
    refine st_then ?_
    refine st_seq ?_
    refine st_block ?_
    refine st_seq ?_
    refine st_region ?_
    refine st_v (rv_indexR1 (rd_old hV hV.all) Tryd.underlying166 sz22 rfl rfl rfl (by first | omega | (simp <;> omega))) (by decide) ?_
    refine st_v (rv_load_rd (rd_old hV hV.all) tyS22 rfl (getD_at (by omega))) (by decide) ?_
    refine st_v (rv_assign rfl) (by decide) ?_
    refine st_nil ?_
    refine st_then ?_
    refine st_region ?_
    refine st_v (rv_move rfl) (by decide) ?_
    refine st_v (rv_move rfl) (by decide) ?_
    refine st_callE (ρ := Value) (fun _ => .tuple #[]) (fun _ => True) (fun u => hashM _ _ _ _ u (_ ++ _)) (fun _ => []) (i := 0) cal29 rfl rfl (fun w hM => (Write_calls _ hk _ _ _ _ _ _ _ _ (by have := flat_le ls i (by omega); simp only [List.length_append]; omega) w (hM.at (i := 0) rfl) (hM.at (i := 1) rfl) (hM.offOf (i := 0) (j := 1) rfl rfl (by decide)) ((rd_part hR (by omega)) w hM) (fun b hb => hM.offS (i := 0) rfl b ((rd_partS hR (by omega)) b hb))).mono fun e w' ⟨u, h1, h2⟩ => ⟨u, h1, trivial, h2⟩) (by decide) (fun u3 _ => ?_)
    rw [List.append_assoc, flat_succ ls i (by omega)]
    refine st_nil ?_
    refine st_in_normal ?_
    refine st_then ?_
    refine st_region ?_
    first | refine st_v (rv_addN (b := 1) rfl rfl (by first | omega | (simp; done) | (simp; omega))) (by decide) ?_ | refine st_v (rv_addZ rfl rfl (by first | omega | (simp; done) | (simp; omega))) (by decide) ?_
    refine st_v (rv_move rfl) (by decide) ?_
    refine st_nil ?_
    refine st_then ?_
    exact st_again (i + 1, _) (by omega) (by omega) (.cons rfl (.cons rfl (.cons rfl (.cons rfl (.cons rfl (.nil _)))))) (fun _ hM => hM)
  · -- t22 False
    try simp only [z1, z2, z3, z4, z5, z6, z7, z8, z9, z10, z11, z12, z13, z14] at hc22
    obtain rfl : i = vs.length := by omega
    rw [show ls.take vs.length = ls from List.take_of_length_le (by omega)]
    refine st_exit ?_
    refine st_then_exit ?_
    refine st_then_exit ?_
    refine st_in_exit ?_
    refine st_then ?_
    refine st_seq ?_
    refine st_heldStart 13 [false, false, false, false, false, false, false, false, false, false, false, false, false] mixed rfl rfl ?_
    refine st_heldTake 0 rfl rfl (by kernel_rfl) rfl (fun _ _ _ h => h) rfl (by decide) (rv_move rfl) ?_
    refine st_heldTake 1 rfl rfl (by kernel_rfl) rfl (fun _ _ _ h => h) rfl (by decide) (rv_nilCheck rfl) ?_
    refine st_heldTake 2 rfl rfl (by kernel_rfl) rfl (fun _ _ _ h => h) rfl (by decide) (rv_fieldAddr Tryd.underlying173 (fs := _) rfl sz48 rfl rfl) ?_
    refine st_heldTake 3 rfl rfl (by kernel_rfl) rfl (fun _ _ _ h => h) rfl (by decide) (rv_load_old tyS48 rfl hrow hSk rfl) ?_
    refine st_heldTake 4 rfl rfl (by kernel_rfl) rfl (fun _ _ _ h => h) rfl (by decide) (rv_move rfl) ?_
    refine st_heldTake 5 rfl rfl (by kernel_rfl) rfl (fun _ _ _ h => h) rfl (by decide) (rv_nilCheck rfl) ?_
    refine st_heldTake 6 rfl rfl (by kernel_rfl) rfl (fun _ _ _ h => h) rfl (by decide) (rv_fieldAddr Tryd.underlying173 (fs := _) rfl sz22 rfl rfl) ?_
    refine st_heldTake 7 rfl rfl (by kernel_rfl) rfl (fun _ _ _ h => h) rfl (by decide) (rv_load_old tyS22 rfl hrow hSk rfl) ?_
    refine st_heldOp 8 rfl (by kernel_rfl) rfl ?_
    refine st_v (rv_move rfl) (by decide) ?_
    refine st_nil ?_
    refine st_thenH ?_
    refine st_heldOp 9 rfl (by kernel_rfl) rfl ?_
    refine st_callV cal31 rfl (fun w hM => (HSum_calls _ hk _ _ _ _ _ _ (by simp only [List.length_append]; omega) w (hL.at hM) (hM.at (i := 0) rfl) (hM.at (i := 1) rfl))) (by decide) (fun v4 => ?_)
    refine st_nil ?_
    refine st_thenH ?_
    refine st_heldOp 10 rfl (by kernel_rfl) rfl ?_
    have hcl110 := cells_rd hO
    refine St.know (fun w hM => cells_rd ((rd_own (i := 0) rfl) w hM)) (fun hcl111 => ?_)
    refine st_buildO Tryd.underlying166 tyZ22 rfl rfl (by decide) (cs := #[_, _]) (fill2 hcl110 hcl111) rfl (by decide) (fun v5 => ?_)
    refine st_nil ?_
    refine st_thenH ?_
    refine st_heldOp 11 rfl (by kernel_rfl) rfl ?_
    refine st_callV cal83 rfl (fun w hM => (of2_calls k hk _ _ _ (kpad k key 92#8) (hsum k (kpad k key 54#8 ++ ls.flatten)) (by rw [length_kpad, length_hsum hk]; omega) w (hL.at hM) ((rd_own (i := 0) rfl) w hM) (rd_old hO hO.all w hM) (Rd.n_eq (rd_own (i := 1) rfl w hM) (length_hsum hk _).symm))) (by decide) (fun v6 => ?_)
    refine st_nil ?_
    refine st_thenH ?_
    refine st_heldOp 12 rfl (by kernel_rfl) rfl ?_
    refine st_v (rv_assign rfl) (by decide) ?_
    refine st_nil ?_
    refine st_thenH ?_
    refine st_heldDone (by kernel_rfl) ?_
    refine st_then ?_
    refine st_ret ?_
    exact st_done rfl rfl (fun w hM => ⟨_, rfl, hM.sublist (List.cons_sublist_cons.2 (List.nil_sublist _))⟩)
set_option maxRecDepth 20000 in
theorem HMAC_bad (z : Int) (hz : knownZ z = false) (v u : Value) (w : World) : Calls Tryd.prog 38 #[vI z, v, u] w (fun r w' => r = .returned (.tuple #[nilS, vI 2]) ∧ Mem (All w) w w' []) := by
  refine calls_of_st (n := 17) (args := [vI z, v, u]) Tryd.func38 rfl Tryd.ntmps38 (Nat.le_of_ble_eq_true rfl) (Mem.all w) ?_
  refine st_seq ?_
  refine st_region ?_
  refine st_v (rv_assign rfl) (by decide) ?_
  refine st_v (rv_assign rfl) (by decide) ?_
  refine st_nil ?_
  refine st_then ?_
  refine st_seq ?_
  refine st_seq ?_
  refine st_region ?_
  refine st_v (rv_move rfl) (by decide) ?_
  refine st_call0 cal81 rfl (fun w hM => (known_bad hz w)) (by decide) ?_
  refine st_v (rv_not rfl) (by decide) ?_
  refine st_nil ?_
  refine st_then ?_
  refine st_true rfl ?_
  refine st_seq ?_
  refine st_region ?_
  refine st_v (rv_assign rfl) (by decide) ?_
  refine st_v (rv_assign rfl) (by decide) ?_
  refine st_nil ?_
  refine st_then ?_
  refine st_ret ?_
  refine st_then_ret ?_
  exact st_done2 rfl rfl rfl (fun w hM => ⟨rfl, hM.sublist (List.nil_sublist _)⟩)
set_option maxRecDepth 20000 in
theorem HMAC_ok (k : Nat) (hk : k ≤ 2) (vk v : Value) (key q : List (BitVec 8)) (hkey : key.length ≤ 800000) (hq : q.length ≤ 800000) (w : World) (hL : LaidH w) (hKR : Rd w vk key.length 1 (key.map U8)) (hR : Rd w v q.length 1 (q.map U8)) : Calls Tryd.prog 38 #[vI (k : Nat), vk, v] w (fun e w' => ∃ r, e = .returned (.tuple #[r, vI 0]) ∧ Mem (All w) w w' [own r 5 1 (hsize k) ((hmacW k key q).map U8)]) := by
  refine calls_of_st (n := 17) (args := [vI (k : Nat), vk, v]) Tryd.func38 rfl Tryd.ntmps38 (Nat.le_of_ble_eq_true rfl) (Mem.all w) ?_
  refine st_seq ?_
  refine st_region ?_
  refine st_v (rv_assign rfl) (by decide) ?_
  refine st_v (rv_assign rfl) (by decide) ?_
  refine st_nil ?_
  refine st_then ?_
  refine st_seq ?_
  refine st_seq ?_
  refine st_region ?_
  refine st_v (rv_move rfl) (by decide) ?_
  refine st_call0 cal81 rfl (fun w hM => (known_ok hk w)) (by decide) ?_
  refine st_v (rv_not rfl) (by decide) ?_
  refine st_nil ?_
  refine st_then ?_
  refine st_false rfl ?_
  refine st_skip ?_
  refine st_then ?_
  refine st_seq ?_
  refine st_region ?_
  refine st_v (rv_move rfl) (by decide) ?_
  refine st_v (rv_move rfl) (by decide) ?_
  refine st_call1 (ρ := Nat × Value × Value) (fun r => pt r.1 0) (fun _ => True) (fun r => [keyedA k r.1 r.2.1 r.2.2 key]) cal86 rfl (fun w hM => ((newKeyed_calls k hk _ key (by omega) w (hL.at hM) ((rd_old hKR hKR.all) w hM))).mono fun e w' ⟨r, h1, h2⟩ => ⟨r, h1, trivial, h2⟩) (by decide) (fun r1 _ => ?_)
  refine st_v (rv_move rfl) (by decide) ?_
  refine st_buildO1 Tryd.underlying166 tyZ22 rfl rfl (fun w hM => cells_rd ((rd_old hR hR.all) w hM)) (by decide) (fun v2 => ?_)
  refine st_callV cal87 rfl (fun w hM => (ksum_calls k hk _ _ _ key _ [_] [q] (by simp; omega) (by simp) w (hL.at hM) (hM.at (i := 1) rfl) ((rd_own (i := 0) rfl) w hM) (rdAll_cons (rd_old hR hR.all w hM) (rdAll_nil w)))) (by decide) (fun v3 => ?_)
  refine st_v (rv_assign rfl) (by decide) ?_
  refine st_v (rv_assign rfl) (by decide) ?_
  refine st_nil ?_
  refine st_then ?_
  refine st_ret ?_
  exact st_done2 rfl rfl rfl (fun w hM => ⟨_, rfl, by
    have hM := hM.sublist (List.cons_sublist_cons.2 (List.nil_sublist _))
    simpa using hM⟩)
set_option maxRecDepth 20000 in
theorem Extract_bad (z : Int) (hz : knownZ z = false) (v u : Value) (w : World) : Calls Tryd.prog 39 #[vI z, v, u] w (fun r w' => r = .returned (.tuple #[nilS, vI 2]) ∧ Mem (All w) w w' []) := by
  refine calls_of_st (n := 14) (args := [vI z, v, u]) Tryd.func39 rfl Tryd.ntmps39 (Nat.le_of_ble_eq_true rfl) (Mem.all w) ?_
  refine st_seq ?_
  refine st_region ?_
  refine st_v (rv_assign rfl) (by decide) ?_
  refine st_v (rv_assign rfl) (by decide) ?_
  refine st_nil ?_
  refine st_then ?_
  refine st_seq ?_
  refine st_region ?_
  refine st_v (rv_move rfl) (by decide) ?_
  refine st_v (rv_move rfl) (by decide) ?_
  refine st_v (rv_move rfl) (by decide) ?_
  refine st_call0 cal38 rfl (fun w hM => (HMAC_bad z hz _ _ w)) (by decide) ?_
  refine st_v (rv_extract rfl rfl) (by decide) ?_
  refine st_v (rv_extract rfl rfl) (by decide) ?_
  refine st_v (rv_assign rfl) (by decide) ?_
  refine st_v (rv_assign rfl) (by decide) ?_
  refine st_nil ?_
  refine st_then ?_
  refine st_ret ?_
  exact st_done2 rfl rfl rfl (fun w hM => ⟨rfl, hM.sublist (List.nil_sublist _)⟩)
set_option maxRecDepth 20000 in
theorem Extract_ok (k : Nat) (hk : k ≤ 2) (vk v : Value) (key q : List (BitVec 8)) (hkey : key.length ≤ 800000) (hq : q.length ≤ 800000) (w : World) (hL : LaidH w) (hKR : Rd w vk key.length 1 (key.map U8)) (hR : Rd w v q.length 1 (q.map U8)) : Calls Tryd.prog 39 #[vI (k : Nat), vk, v] w (fun e w' => ∃ r, e = .returned (.tuple #[r, vI 0]) ∧ Mem (All w) w w' [own r 5 1 (hsize k) ((hmacW k key q).map U8)]) := by
  refine calls_of_st (n := 14) (args := [vI (k : Nat), vk, v]) Tryd.func39 rfl Tryd.ntmps39 (Nat.le_of_ble_eq_true rfl) (Mem.all w) ?_
  refine st_seq ?_
  refine st_region ?_
  refine st_v (rv_assign rfl) (by decide) ?_
  refine st_v (rv_assign rfl) (by decide) ?_
  refine st_nil ?_
  refine st_then ?_
  refine st_seq ?_
  refine st_region ?_
  refine st_v (rv_move rfl) (by decide) ?_
  refine st_v (rv_move rfl) (by decide) ?_
  refine st_v (rv_move rfl) (by decide) ?_
  refine st_call1 (ρ := Value) (fun r => .tuple #[r, vI 0]) (fun _ => True) (fun r => [own r 5 1 (hsize k) ((hmacW k key q).map U8)]) cal38 rfl (fun w hM => ((HMAC_ok k hk _ _ key q hkey hq w (hL.at hM) ((rd_old hKR hKR.all) w hM) ((rd_old hR hR.all) w hM))).mono fun e w' ⟨r, h1, h2⟩ => ⟨r, h1, trivial, h2⟩) (by decide) (fun r1 _ => ?_)
  refine st_v (rv_extract rfl rfl) (by decide) ?_
  refine st_v (rv_extract rfl rfl) (by decide) ?_
  refine st_v (rv_assign rfl) (by decide) ?_
  refine st_v (rv_assign rfl) (by decide) ?_
  refine st_nil ?_
  refine st_then ?_
  refine st_ret ?_
  exact st_done2 rfl rfl rfl (fun w hM => ⟨_, rfl, hM⟩)
/-- what Expand writes, piece by piece -/
def tW (k : Nat) (key info : List (BitVec 8)) : Nat → List (BitVec 8)
  | 0 => []
  | j + 1 => hmacW k key [tW k key info j, info, [BitVec.ofNat 8 (1 + j)]].flatten
def outW (k : Nat) (key info : List (BitVec 8)) : Nat → List (BitVec 8)
  | 0 => []
  | j + 1 => outW k key info j ++ tW k key info (j + 1)
theorem length_tW {k : Nat} (hk : k ≤ 2) (key info : List (BitVec 8)) (j : Nat) : (tW k key info j).length ≤ 64 := by
  cases j with
  | zero => simp [tW]
  | succ j => rw [tW, hmacW, length_hsum hk]; exact hsize_le k
theorem length_tW1 {k : Nat} (hk : k ≤ 2) (key info : List (BitVec 8)) (j : Nat) : (tW k key info (j + 1)).length = hsize k := by
  rw [tW, hmacW, length_hsum hk]
theorem hsize_ge (k : Nat) : 32 ≤ hsize k := by
  unfold hsize; split <;> omega
theorem outW_pre (k : Nat) (key info : List (BitVec 8)) (i j : Nat) : (outW k key info i) <+: (outW k key info (i + j)) := by
  induction j with
  | zero => exact List.prefix_rfl
  | succ j ih => exact ih.trans (List.prefix_append _ _)
theorem length_outW {k : Nat} (hk : k ≤ 2) (key info : List (BitVec 8)) (j : Nat) : (outW k key info j).length = j * hsize k := by
  induction j with
  | zero => simp [outW]
  | succ j ih => rw [outW, List.length_append, length_tW1 hk, ih, Nat.succ_mul]
/-- what Expand gives -/
def okmW (k : Nat) (key info : List (BitVec 8)) (n : Nat) : List (BitVec 8) := (outW k key info n).take n
theorem outW_take {k : Nat} (hk : k ≤ 2) (key info : List (BitVec 8)) (j n : Nat) (h : n ≤ (outW k key info j).length) : (outW k key info j).take n = okmW k key info n := by
  have h32 := hsize_ge k
  have hn : n ≤ (outW k key info n).length := by
    rw [length_outW hk]
    exact Nat.le_mul_of_pos_right n (by omega)
  have key' : ∀ i d, n ≤ (outW k key info i).length → (outW k key info (i + d)).take n = (outW k key info i).take n := fun i d hi => by
    obtain ⟨t, ht⟩ := outW_pre k key info i d
    rw [← ht, List.take_append_of_le_length hi]
  unfold okmW
  rcases Nat.le_total j n with hjn | hjn
  · obtain ⟨d, rfl⟩ := Nat.exists_eq_add_of_le hjn
    exact (key' j d h).symm
  · obtain ⟨d, rfl⟩ := Nat.exists_eq_add_of_le hjn
    exact key' n d hn
theorem length_okmW {k : Nat} (hk : k ≤ 2) (key info : List (BitVec 8)) (n : Nat) : (okmW k key info n).length = n := by
  have h32 := hsize_ge k
  rw [okmW, List.length_take, length_outW hk]
  exact Nat.min_eq_left (Nat.le_mul_of_pos_right n (by omega))
theorem kstep_calls (k : Nat) (hk : k ≤ 2) (kb : Nat) (vi vo : Value) (key info : List (BitVec 8)) (j : Nat) (v v1 v2 v3 : Value) (hi : info.length ≤ 700000) (w : World) (hL : LaidH w) (hK : (keyedA k kb vi vo key).holds w) (hV : Rd w v 3 1 [v1, v2, v3])
    (h1 : Rd w v1 (tW k key info j).length 1 ((tW k key info j).map U8)) (h2 : Rd w v2 info.length 1 (info.map U8)) (h3 : Rd w v3 1 1 ([BitVec.ofNat 8 (1 + j)].map U8)) :
    Calls Tryd.prog 87 #[pt kb 0, v] w (fun e w' => ∃ r, e = .returned r ∧ Mem (All w) w w' [own r 5 1 (tW k key info (j + 1)).length ((tW k key info (j + 1)).map U8)]) := by
  have hl := length_tW hk key info j
  have := ksum_calls k hk kb vi vo key v [v1, v2, v3] [tW k key info j, info, [BitVec.ofNat 8 (1 + j)]] (by simp; omega) (by simp) w hL hK hV (rdAll_cons h1 (rdAll_cons h2 (rdAll_cons h3 (rdAll_nil w))))
  rw [length_tW1 hk]
  exact this
theorem ofNat_step (j : Nat) : BitVec.ofNat 8 (1 + (j + 1)) = BitVec.ofNat 8 (1 + j) + 1#8 := by
  apply BitVec.eq_of_toNat_eq
  simp
  omega
def longZ (k : Nat) (n : Int) : Bool := decide (n < 0) || decide ((255 * hsize k : Nat) < n)
set_option maxRecDepth 20000 in
theorem Expand_bad (z : Int) (hz : knownZ z = false) (v u : Value) (n : Int) (w : World) : Calls Tryd.prog 42 #[vI z, v, u, vI n] w (fun r w' => r = .returned (.tuple #[nilS, vI 2]) ∧ Mem (All w) w w' []) := by
  refine calls_of_st (n := 52) (args := [vI z, v, u, vI n]) Tryd.func42 rfl Tryd.ntmps42 (Nat.le_of_ble_eq_true rfl) (Mem.all w) ?_
  refine st_seq ?_
  refine st_region ?_
  refine st_v (rv_assign rfl) (by decide) ?_
  refine st_v (rv_assign rfl) (by decide) ?_
  refine st_nil ?_
  refine st_then ?_
  refine st_seq ?_
  refine st_block ?_
  refine st_seq ?_
  refine st_region ?_
  refine st_v (rv_move rfl) (by decide) ?_
  refine st_call0 cal81 rfl (fun w hM => (known_bad hz w)) (by decide) ?_
  refine st_v (rv_not rfl) (by decide) ?_
  refine st_v (rv_assign rfl) (by decide) ?_
  refine st_nil ?_
  refine st_then ?_
  refine st_true rfl ?_
  refine st_seq ?_
  refine st_region ?_
  refine st_v (rv_assign rfl) (by decide) ?_
  refine st_v (rv_assign rfl) (by decide) ?_
  refine st_nil ?_
  refine st_then ?_
  refine st_ret ?_
  refine st_in_ret ?_
  refine st_then_ret ?_
  exact st_done2 rfl rfl rfl (fun w hM => ⟨rfl, hM.sublist (List.nil_sublist _)⟩)
set_option maxRecDepth 20000 in
set_option maxHeartbeats 1000000 in
theorem Expand_calls (k : Nat) (hk : k ≤ 2) (vk v : Value) (key q : List (BitVec 8)) (n : Int) (hkey : key.length ≤ 700000) (hq : q.length ≤ 700000) (w : World) (hL : LaidH w) (hKR : Rd w vk key.length 1 (key.map U8)) (hR : Rd w v q.length 1 (q.map U8)) : Calls Tryd.prog 42 #[vI (k : Nat), vk, v, vI n] w (fun e w' => (longZ k n = true ∧ e = .returned (.tuple #[nilS, vI 1]) ∧ Mem (All w) w w' []) ∨ ∃ N : Nat, n = N ∧ longZ k n = false ∧ ∃ r, e = .returned (.tuple #[r, vI 0]) ∧ Mem (All w) w w' [own r 5 1 N ((okmW k key q N).map U8)]) := by
  have hS0 : All w 0 := ⟨hL.g0.lt, id⟩
  have h64 := hsize_le k
  have h32 := hsize_ge k
  refine calls_of_st (n := 52) (args := [vI (k : Nat), vk, v, vI n]) Tryd.func42 rfl Tryd.ntmps42 (Nat.le_of_ble_eq_true rfl) (Mem.all w) ?_
  refine st_seq ?_
  refine st_region ?_
  refine st_v (rv_assign rfl) (by decide) ?_
  refine st_v (rv_assign rfl) (by decide) ?_
  refine st_nil ?_
  refine st_then ?_
  refine st_seq ?_
  refine st_block ?_
  refine st_seq ?_
  refine st_region ?_
  refine st_v (rv_move rfl) (by decide) ?_
  refine st_call0 cal81 rfl (fun w hM => (known_ok hk w)) (by decide) ?_
  refine st_v (rv_not rfl) (by decide) ?_
  refine st_v (rv_assign rfl) (by decide) ?_
  refine st_nil ?_
  refine st_then ?_
  refine st_false rfl ?_
  refine st_seq ?_
  refine st_region ?_
  refine st_v (rv_move rfl) (by decide) ?_
  refine st_v (rv_lssZ rfl rfl) (by decide) ?_
  refine st_v (rv_move rfl) (by decide) ?_
  refine' st_or 7 (L := _) (s := 21) (d := 28) [0, 1, 2, 3] rfl (fun hg3 => ?_) (fun _ => ?_) ?_; rotate_left
  · -- true
    refine st_gskip rfl rfl rfl (by decide) ?_
    refine st_gskip rfl rfl rfl (by decide) ?_
    refine st_gskip rfl rfl rfl (by decide) ?_
    refine st_gskip rfl rfl rfl (by decide) ?_
    refine st_gskip rfl rfl rfl (by decide) ?_
    refine st_gskip rfl rfl rfl (by decide) ?_
    first | refine st_v (rv_pick_true rfl rfl) (by decide) ?_ | refine st_v (rv_pick_false rfl rfl) (by decide) ?_ | refine st_v (rv_pick rfl rfl rfl) (by decide) ?_
    refine st_nil ?_
    exact st_meet_b (.cons rfl (.cons rfl (.cons rfl (.cons rfl (.cons rfl (.nil _))))))
  · -- false
    refine st_gon rfl rfl ?_
    refine st_v (rv_move rfl) (by decide) ?_
    refine st_gon rfl rfl ?_
    refine st_v (rv_move rfl) (by decide) ?_
    refine st_gon rfl rfl ?_
    refine st_v (rv_indexA Tryd.underlying119 sz3 rfl rfl rfl (by first | omega | (simp <;> omega)) (by first | exact (Nat.zero_add _).trans (Nat.mul_one _) | exact congrArg _ (Nat.mul_one _) | exact Nat.zero_add _ | rfl)) (by decide) ?_
    refine st_gon rfl rfl ?_
    refine st_v (rv_load_cell tyS3 rfl (hL.g0.cell (sizes_at hk)) hS0) (by decide) ?_
    refine st_gon rfl rfl ?_
    first | refine st_v (rv_mulN (a := 255) rfl rfl (by first | omega | (simp; done) | (simp; omega))) (by decide) ?_ | refine st_v (rv_mulZ rfl rfl (by first | omega | (simp; done) | (simp; omega))) (by decide) ?_
    refine st_gon rfl rfl ?_
    refine st_v (rv_gtrZ rfl rfl) (by decide) ?_
    first | refine st_v (rv_pick_true rfl rfl) (by decide) ?_ | refine st_v (rv_pick_false rfl rfl) (by decide) ?_ | refine st_v (rv_pick rfl rfl rfl) (by decide) ?_
    refine st_nil ?_
    exact st_meet_b (.cons rfl (.cons rfl (.cons rfl (.cons rfl (.cons rfl (.nil _))))))
  refine st_v (rv_assign rfl) (by decide) ?_
  refine st_nil ?_
  refine st_then ?_
  refine st_cond rfl (fun hc18 => ?_) (fun hc18 => ?_)
  · -- t18 True
    try simp only [z1, z2, z3, z4, z5, z6, z7, z8, z9, z10, z11, z12, z13, z14] at hc18
    have hlong : longZ k n = true := by simp only [longZ, Bool.or_eq_true, decide_eq_true_eq]; exact hc18
    refine st_seq ?_
    refine st_region ?_
    refine st_v (rv_assign rfl) (by decide) ?_
    refine st_v (rv_assign rfl) (by decide) ?_
    refine st_nil ?_
    refine st_then ?_
    refine st_ret ?_
    refine st_in_ret ?_
    refine st_then_ret ?_
    exact st_done2 rfl rfl rfl (fun w hM => by first | exact .inl ⟨hlong, rfl, hM.sublist (List.nil_sublist _)⟩ | exact .inr ⟨N, rfl, hlong, _, rfl, (Mem.front hM (i := 1) rfl).sublist (List.cons_sublist_cons.2 (List.nil_sublist _))⟩)
  · -- t18 False
    try simp only [z1, z2, z3, z4, z5, z6, z7, z8, z9, z10, z11, z12, z13, z14] at hc18
    have hlong : longZ k n = false := by simp only [longZ, Bool.or_eq_false_iff, decide_eq_false_iff_not]; omega
    obtain ⟨N, rfl⟩ : ∃ N : Nat, n = N := ⟨n.toNat, by omega⟩
    have hN : N ≤ 255 * hsize k := by omega
    refine st_skip ?_
    refine st_in_normal ?_
    refine st_then ?_
    refine st_seq ?_
    refine st_region ?_
    refine st_v (rv_move rfl) (by decide) ?_
    refine st_v (rv_move rfl) (by decide) ?_
    refine st_call1 (ρ := Nat × Value × Value) (fun r => pt r.1 0) (fun _ => True) (fun r => [keyedA k r.1 r.2.1 r.2.2 key]) cal86 rfl (fun w hM => ((newKeyed_calls k hk _ key (by omega) w (hL.at hM) ((rd_old hKR hKR.all) w hM))).mono fun e w' ⟨r, h1, h2⟩ => ⟨r, h1, trivial, h2⟩) (by decide) (fun r1 _ => ?_)
    refine st_v (rv_assign rfl) (by decide) ?_
    refine st_nil ?_
    refine st_then ?_
    refine st_seq ?_
    refine st_region ?_
    refine st_v (rv_assign rfl) (by decide) ?_
    refine st_v (rv_assign rfl) (by decide) ?_
    refine st_nil ?_
    refine st_then ?_
    refine st_seq ?_
    refine st_seq ?_
    refine st_region ?_
    refine st_v (rv_assign rfl) (by decide) ?_
    refine st_nil ?_
    refine st_then ?_
    refine st_block ?_
    refine st_ownNil8 5 1 ?_
    refine st_ownNil8 5 1 ?_
    refine st_loopA (σ := Nat × Value × Value) [(2, kst _), (3, kst _), (10, kst _), (11, fun (j, u, y) => u), (12, fun (j, u, y) => y), (13, fun (j, u, y) => U8 (BitVec.ofNat 8 (1 + j)))] [fun (j, u, y) => own y 5 1 (tW k key q j).length ((tW k key q j).map U8), fun (j, u, y) => own u 5 1 (outW k key q j).length ((outW k key q j).map U8), kst _] (fun (j, u, y) => True) (fun (j, u, y) => N - (outW k key q j).length) (0, nilS, nilS) (by omega) (.cons rfl (.cons rfl (.cons rfl (.cons rfl (.cons rfl (.cons rfl (.nil _))))))) (fun _ hM => hM) ?_
    intro ⟨j, u, y⟩ hI
    try dsimp only at hI
    dsimp only [List.map, kst]
    refine st_seq ?_
    refine st_seq ?_
    refine st_region ?_
    refine st_v (rv_move rfl) (by decide) ?_
    refine st_v (rv_lenR (rd_own (i := 1) rfl) Tryd.underlying22 rfl) (by decide) ?_
    refine st_v (rv_move rfl) (by decide) ?_
    refine st_v (rv_lssZ rfl rfl) (by decide) ?_
    refine st_nil ?_
    refine st_then ?_
    refine st_cond rfl (fun hc35 => ?_) (fun hc35 => ?_)
    · -- t35 True
      try simp only [z1, z2, z3, z4, z5, z6, z7, z8, z9, z10, z11, z12, z13, z14] at hc35
      refine st_skip ?_
      refine st_then ?_
      refine st_seq ?_
      refine st_block ?_
      refine st_seq ?_
      refine st_region ?_
      refine st_v (rv_move rfl) (by decide) ?_
      refine st_v (rv_move rfl) (by decide) ?_
      refine st_v (rv_move rfl) (by decide) ?_
      refine st_v (rv_move rfl) (by decide) ?_
      refine st_buildSlice Tryd.underlying22 tyZ5 rfl rfl (by decide) (cs := #[_]) rfl (by decide) (fun b2 hb2 => ?_)
      refine St.know (fun w hM => cells_rd ((rd_own (i := 1) rfl) w hM)) (fun hcl129 => ?_)
      have hcl130 := cells_rd hR
      refine st_buildO Tryd.underlying166 tyZ22 rfl rfl (by decide) (cs := #[_, _, _]) (fill3 hcl129 hcl130 rfl) rfl (by decide) (fun v3 => ?_)
      refine st_callV cal87 rfl (fun w hM => (kstep_calls k hk _ _ _ key q j _ _ _ _ (by omega) w (hL.at hM) (hM.at (i := 4) rfl) ((rd_own (i := 0) rfl) w hM) ((rd_own (i := 2) rfl) w hM) ((rd_old hR hR.all) w hM) ((rd_l8 (q := [_]) (len := 1) (i := 1) rfl rfl rfl (by omega)) w hM))) (by decide) (fun v4 => ?_)
      refine st_v (rv_assign rfl) (by decide) ?_
      have htl := length_tW1 hk key q j
      have hol : (outW k key q (j + 1)).length = (outW k key q j).length + hsize k := by rw [outW, List.length_append, htl]
      refine st_nil ?_
      refine st_then ?_
      refine st_region ?_
      refine st_v (rv_move rfl) (by decide) ?_
      refine st_v (rv_move rfl) (by decide) ?_
      refine st_append8 Tryd.underlying22 Tryd.underlying22 (.inr ⟨_, rfl⟩) tyZ5 rfl rfl rfl (i := 4) rfl (fun w hM => src_rd ((rd_own (i := 0) rfl) w hM) (one8 _)) (by first | omega | (simp <;> omega)) (by first | omega | (simp <;> omega)) (by decide) (fun vo => ?_)
      refine st_v (rv_assign rfl) (by decide) ?_
      refine st_nil ?_
      refine st_in_normal ?_
      refine st_then ?_
      refine st_region ?_
      refine st_v (rv_move rfl) (by decide) ?_
      refine st_v (rv_add8 (b := 1#8) rfl rfl) (by decide) ?_
      refine st_v (rv_assign rfl) (by decide) ?_
      refine st_nil ?_
      refine st_then ?_
      exact st_again (j + 1, _, _) (by omega) (by (show N - (outW k key q (j + 1)).length < N - (outW k key q j).length); omega) (.cons rfl (.cons rfl (.cons rfl (.cons rfl (.cons rfl (SubE.cons (congrArg some (congrArg U8 (ofNat_step j).symm)) (.nil _))))))) (by intro w hM; have hM := hM.sublist (List.Sublist.cons_cons _ (List.Sublist.cons _ (List.Sublist.cons _ (List.Sublist.cons _ (List.Sublist.cons_cons _ (List.Sublist.cons_cons _ (List.Sublist.slnil))))))); (rw [← List.length_append] at hM); exact hM)
    · -- t35 False
      try simp only [z1, z2, z3, z4, z5, z6, z7, z8, z9, z10, z11, z12, z13, z14] at hc35
      refine st_exit ?_
      refine st_then_exit ?_
      refine st_then_exit ?_
      refine st_in_exit ?_
      refine st_then ?_
      refine st_seq ?_
      refine st_region ?_
      refine st_v (rv_move rfl) (by decide) ?_
      refine st_v (rv_move rfl) (by decide) ?_
      refine st_v (rv_move rfl) (by decide) ?_
      refine st_cut3 (i := 1) (k := N) rfl Tryd.underlying22 sz5 rfl rfl rfl (by omega) (by decide) ?_
      rw [← List.map_take, outW_take hk key q j N (by omega)]
      refine st_v (rv_assign rfl) (by decide) ?_
      refine st_v (rv_assign rfl) (by decide) ?_
      refine st_nil ?_
      refine st_then ?_
      refine st_ret ?_
      exact st_done2 rfl rfl rfl (fun w hM => by first | exact .inl ⟨hlong, rfl, hM.sublist (List.nil_sublist _)⟩ | exact .inr ⟨N, rfl, hlong, _, rfl, (Mem.front hM (i := 1) rfl).sublist (List.cons_sublist_cons.2 (List.nil_sublist _))⟩)
def elongZ (n : Int) (label ctx : List (BitVec 8)) : Bool := ((decide (n < 0) || decide ((65535 : Int) < n)) || decide ((249 : Int) < label.length)) || decide ((255 : Int) < ctx.length)
def pre13 : List (BitVec 8) := [116#8, 108#8, 115#8, 49#8, 51#8, 32#8]
def infoW (label ctx : List (BitVec 8)) (N : Nat) : List (BitVec 8) :=
  (([BitVec.ofNat 8 (N / 2 ^ 8), BitVec.ofNat 8 N, BitVec.ofNat 8 (6 + label.length)] ++ (pre13 ++ label)) ++ [BitVec.ofNat 8 ctx.length]) ++ ctx
theorem elongZ_false {n : Int} {label ctx : List (BitVec 8)} (h : elongZ n label ctx = false) : 0 ≤ n ∧ n ≤ 65535 ∧ label.length ≤ 249 ∧ ctx.length ≤ 255 := by
  simp only [elongZ, Bool.or_eq_false_iff, decide_eq_false_iff_not] at h
  omega
theorem Expand_long (k : Nat) (hk : k ≤ 2) (vk v : Value) (key q : List (BitVec 8)) (n : Int) (hl : longZ k n = true) (hkey : key.length ≤ 700000) (hq : q.length ≤ 700000) (w : World) (hL : LaidH w) (hKR : Rd w vk key.length 1 (key.map U8)) (hR : Rd w v q.length 1 (q.map U8)) :
    Calls Tryd.prog 42 #[vI (k : Nat), vk, v, vI n] w (fun e w' => e = .returned (.tuple #[nilS, vI 1]) ∧ Mem (All w) w w' []) :=
  (Expand_calls k hk vk v key q n hkey hq w hL hKR hR).mono fun e w' h => by
    rcases h with ⟨_, h1, h2⟩ | ⟨N, h1, h2, _⟩
    · exact ⟨h1, h2⟩
    · rw [hl] at h2; cases h2
theorem Expand_ok (k : Nat) (hk : k ≤ 2) (vk v : Value) (key q : List (BitVec 8)) (N : Nat) (hl : longZ k N = false) (hkey : key.length ≤ 700000) (hq : q.length ≤ 700000) (w : World) (hL : LaidH w) (hKR : Rd w vk key.length 1 (key.map U8)) (hR : Rd w v q.length 1 (q.map U8)) :
    Calls Tryd.prog 42 #[vI (k : Nat), vk, v, vI (N : Nat)] w (fun e w' => ∃ r, e = .returned (.tuple #[r, vI 0]) ∧ Mem (All w) w w' [own r 5 1 N ((okmW k key q N).map U8)]) :=
  (Expand_calls k hk vk v key q N hkey hq w hL hKR hR).mono fun e w' h => by
    rcases h with ⟨h1, _⟩ | ⟨M, h1, h2, h3⟩
    · rw [hl] at h1; cases h1
    · have : N = M := by omega
      subst this
      exact h3
set_option maxRecDepth 20000 in
theorem ELabel_bad (z : Int) (hz : knownZ z = false) (v u : Value) (s : List (BitVec 8)) (n : Int) (w : World) : Calls Tryd.prog 43 #[vI z, v, vS s, u, vI n] w (fun r w' => r = .returned (.tuple #[nilS, vI 2]) ∧ Mem (All w) w w' []) := by
  refine calls_of_st (n := 64) (args := [vI z, v, vS s, u, vI n]) Tryd.func43 rfl Tryd.ntmps43 (Nat.le_of_ble_eq_true rfl) (Mem.all w) ?_
  refine st_seq ?_
  refine st_region ?_
  refine st_v (rv_assign rfl) (by decide) ?_
  refine st_v (rv_assign rfl) (by decide) ?_
  refine st_nil ?_
  refine st_then ?_
  refine st_seq ?_
  refine st_block ?_
  refine st_seq ?_
  refine st_region ?_
  refine st_v (rv_move rfl) (by decide) ?_
  refine st_call0 cal81 rfl (fun w hM => (known_bad hz w)) (by decide) ?_
  refine st_v (rv_not rfl) (by decide) ?_
  refine st_v (rv_assign rfl) (by decide) ?_
  refine st_nil ?_
  refine st_then ?_
  refine st_true rfl ?_
  refine st_seq ?_
  refine st_region ?_
  refine st_v (rv_assign rfl) (by decide) ?_
  refine st_v (rv_assign rfl) (by decide) ?_
  refine st_nil ?_
  refine st_then ?_
  refine st_ret ?_
  refine st_in_ret ?_
  refine st_then_ret ?_
  exact st_done2 rfl rfl rfl (fun w hM => ⟨rfl, hM.sublist (List.nil_sublist _)⟩)
set_option maxRecDepth 20000 in
theorem ELabel_long1 (k : Nat) (hk : k ≤ 2) (vk v : Value) (key label q : List (BitVec 8)) (n : Int) (he : elongZ n label q = true) (hkey : key.length ≤ 700000) (hq : q.length ≤ 700000) (w : World) (hL : LaidH w) (hKR : Rd w vk key.length 1 (key.map U8)) (hR : Rd w v q.length 1 (q.map U8)) : Calls Tryd.prog 43 #[vI (k : Nat), vk, vS label, v, vI n] w (fun r w' => r = .returned (.tuple #[nilS, vI 1]) ∧ Mem (All w) w w' []) := by
  refine calls_of_st (n := 64) (args := [vI (k : Nat), vk, vS label, v, vI n]) Tryd.func43 rfl Tryd.ntmps43 (Nat.le_of_ble_eq_true rfl) (Mem.all w) ?_
  refine st_seq ?_
  refine st_region ?_
  refine st_v (rv_assign rfl) (by decide) ?_
  refine st_v (rv_assign rfl) (by decide) ?_
  refine st_nil ?_
  refine st_then ?_
  refine st_seq ?_
  refine st_block ?_
  refine st_seq ?_
  refine st_region ?_
  refine st_v (rv_move rfl) (by decide) ?_
  refine st_call0 cal81 rfl (fun w hM => (known_ok hk w)) (by decide) ?_
  refine st_v (rv_not rfl) (by decide) ?_
  refine st_v (rv_assign rfl) (by decide) ?_
  refine st_nil ?_
  refine st_then ?_
  refine st_false rfl ?_
  refine st_seq ?_
  refine st_region ?_
  refine st_v (rv_move rfl) (by decide) ?_
  refine st_v (rv_lssZ rfl rfl) (by decide) ?_
  refine st_v (rv_move rfl) (by decide) ?_
  refine' st_or 3 (L := _) (s := 20) (d := 23) [0, 1, 2, 3, 4] rfl (fun hg3 => ?_) (fun _ => ?_) ?_; rotate_left
  · -- true
    refine st_gskip rfl rfl rfl (by decide) ?_
    refine st_gskip rfl rfl rfl (by decide) ?_
    first | refine st_v (rv_pick_true rfl rfl) (by decide) ?_ | refine st_v (rv_pick_false rfl rfl) (by decide) ?_ | refine st_v (rv_pick rfl rfl rfl) (by decide) ?_
    refine st_nil ?_
    exact st_meet_b (.cons rfl (.cons rfl (.cons rfl (.cons rfl (.cons rfl (.cons rfl (.nil _)))))))
  · -- false
    refine st_gon rfl rfl ?_
    refine st_v (rv_move rfl) (by decide) ?_
    refine st_gon rfl rfl ?_
    refine st_v (rv_gtrZ rfl rfl) (by decide) ?_
    first | refine st_v (rv_pick_true rfl rfl) (by decide) ?_ | refine st_v (rv_pick_false rfl rfl) (by decide) ?_ | refine st_v (rv_pick rfl rfl rfl) (by decide) ?_
    refine st_nil ?_
    exact st_meet_b (.cons rfl (.cons rfl (.cons rfl (.cons rfl (.cons rfl (.cons rfl (.nil _)))))))
  refine st_v (rv_move rfl) (by decide) ?_
  refine' st_or 4 (L := _) (s := 24) (d := 28) [0, 1, 2, 3, 4] rfl (fun hg7 => ?_) (fun _ => ?_) ?_; rotate_left
  · -- true
    refine st_gskip rfl rfl rfl (by decide) ?_
    refine st_gskip rfl rfl rfl (by decide) ?_
    refine st_gskip rfl rfl rfl (by decide) ?_
    first | refine st_v (rv_pick_true rfl rfl) (by decide) ?_ | refine st_v (rv_pick_false rfl rfl) (by decide) ?_ | refine st_v (rv_pick rfl rfl rfl) (by decide) ?_
    refine st_nil ?_
    exact st_meet_b (.cons rfl (.cons rfl (.cons rfl (.cons rfl (.cons rfl (.cons rfl (.nil _)))))))
  · -- false
    refine st_gon rfl rfl ?_
    refine st_v (rv_move rfl) (by decide) ?_
    refine st_gon rfl rfl ?_
    refine st_v (rv_lenB Tryd.underlying9 rfl) (by decide) ?_
    refine st_gon rfl rfl ?_
    refine st_v (rv_gtrZ rfl rfl) (by decide) ?_
    first | refine st_v (rv_pick_true rfl rfl) (by decide) ?_ | refine st_v (rv_pick_false rfl rfl) (by decide) ?_ | refine st_v (rv_pick rfl rfl rfl) (by decide) ?_
    refine st_nil ?_
    exact st_meet_b (.cons rfl (.cons rfl (.cons rfl (.cons rfl (.cons rfl (.cons rfl (.nil _)))))))
  refine st_v (rv_move rfl) (by decide) ?_
  refine' st_or 4 (L := _) (s := 29) (d := 33) [0, 1, 2, 3, 4] rfl (fun hg12 => ?_) (fun _ => ?_) ?_; rotate_left
  · -- true
    refine st_gskip rfl rfl rfl (by decide) ?_
    refine st_gskip rfl rfl rfl (by decide) ?_
    refine st_gskip rfl rfl rfl (by decide) ?_
    first | refine st_v (rv_pick_true rfl rfl) (by decide) ?_ | refine st_v (rv_pick_false rfl rfl) (by decide) ?_ | refine st_v (rv_pick rfl rfl rfl) (by decide) ?_
    refine st_nil ?_
    exact st_meet_b (.cons rfl (.cons rfl (.cons rfl (.cons rfl (.cons rfl (.cons rfl (.nil _)))))))
  · -- false
    refine st_gon rfl rfl ?_
    refine st_v (rv_move rfl) (by decide) ?_
    refine st_gon rfl rfl ?_
    refine st_v (rv_lenR (rd_old hR hR.all) Tryd.underlying22 rfl) (by decide) ?_
    refine st_gon rfl rfl ?_
    refine st_v (rv_gtrZ rfl rfl) (by decide) ?_
    first | refine st_v (rv_pick_true rfl rfl) (by decide) ?_ | refine st_v (rv_pick_false rfl rfl) (by decide) ?_ | refine st_v (rv_pick rfl rfl rfl) (by decide) ?_
    refine st_nil ?_
    exact st_meet_b (.cons rfl (.cons rfl (.cons rfl (.cons rfl (.cons rfl (.cons rfl (.nil _)))))))
  refine st_v (rv_to (u := .bool true) (rv_assign rfl) (congrArg Value.bool he)) (by decide) ?_
  refine st_nil ?_
  refine st_then ?_
  refine st_true rfl ?_
  refine st_seq ?_
  refine st_region ?_
  refine st_v (rv_assign rfl) (by decide) ?_
  refine st_v (rv_assign rfl) (by decide) ?_
  refine st_nil ?_
  refine st_then ?_
  refine st_ret ?_
  refine st_in_ret ?_
  refine st_then_ret ?_
  exact st_done2 rfl rfl rfl (fun w hM => ⟨rfl, hM.sublist (List.nil_sublist _)⟩)
set_option maxRecDepth 20000 in
set_option maxHeartbeats 1000000 in
theorem ELabel_long2 (k : Nat) (hk : k ≤ 2) (vk v : Value) (key label q : List (BitVec 8)) (N : Nat) (he : elongZ (N : Int) label q = false) (hl : longZ k N = true) (hkey : key.length ≤ 700000) (hq : q.length ≤ 700000) (w : World) (hL : LaidH w) (hKR : Rd w vk key.length 1 (key.map U8)) (hR : Rd w v q.length 1 (q.map U8)) : Calls Tryd.prog 43 #[vI (k : Nat), vk, vS label, v, vI (N : Nat)] w (fun r w' => r = .returned (.tuple #[nilS, vI 1]) ∧ Mem (All w) w w' []) := by
  obtain ⟨hn0, hn1, hlb, hcx⟩ := elongZ_false he
  have hil : (infoW label q N).length = label.length + q.length + 10 := by simp [infoW, pre13]; omega
  refine calls_of_st (n := 64) (args := [vI (k : Nat), vk, vS label, v, vI (N : Nat)]) Tryd.func43 rfl Tryd.ntmps43 (Nat.le_of_ble_eq_true rfl) (Mem.all w) ?_
  refine st_seq ?_
  refine st_region ?_
  refine st_v (rv_assign rfl) (by decide) ?_
  refine st_v (rv_assign rfl) (by decide) ?_
  refine st_nil ?_
  refine st_then ?_
  refine st_seq ?_
  refine st_block ?_
  refine st_seq ?_
  refine st_region ?_
  refine st_v (rv_move rfl) (by decide) ?_
  refine st_call0 cal81 rfl (fun w hM => (known_ok hk w)) (by decide) ?_
  refine st_v (rv_not rfl) (by decide) ?_
  refine st_v (rv_assign rfl) (by decide) ?_
  refine st_nil ?_
  refine st_then ?_
  refine st_false rfl ?_
  refine st_seq ?_
  refine st_region ?_
  refine st_v (rv_move rfl) (by decide) ?_
  refine st_v (rv_lssZ rfl rfl) (by decide) ?_
  refine st_v (rv_move rfl) (by decide) ?_
  refine' st_or 3 (L := _) (s := 20) (d := 23) [0, 1, 2, 3, 4] rfl (fun hg3 => ?_) (fun _ => ?_) ?_; rotate_left
  · -- true
    refine st_gskip rfl rfl rfl (by decide) ?_
    refine st_gskip rfl rfl rfl (by decide) ?_
    first | refine st_v (rv_pick_true rfl rfl) (by decide) ?_ | refine st_v (rv_pick_false rfl rfl) (by decide) ?_ | refine st_v (rv_pick rfl rfl rfl) (by decide) ?_
    refine st_nil ?_
    exact st_meet_b (.cons rfl (.cons rfl (.cons rfl (.cons rfl (.cons rfl (.cons rfl (.nil _)))))))
  · -- false
    refine st_gon rfl rfl ?_
    refine st_v (rv_move rfl) (by decide) ?_
    refine st_gon rfl rfl ?_
    refine st_v (rv_gtrZ rfl rfl) (by decide) ?_
    first | refine st_v (rv_pick_true rfl rfl) (by decide) ?_ | refine st_v (rv_pick_false rfl rfl) (by decide) ?_ | refine st_v (rv_pick rfl rfl rfl) (by decide) ?_
    refine st_nil ?_
    exact st_meet_b (.cons rfl (.cons rfl (.cons rfl (.cons rfl (.cons rfl (.cons rfl (.nil _)))))))
  refine st_v (rv_move rfl) (by decide) ?_
  refine' st_or 4 (L := _) (s := 24) (d := 28) [0, 1, 2, 3, 4] rfl (fun hg7 => ?_) (fun _ => ?_) ?_; rotate_left
  · -- true
    refine st_gskip rfl rfl rfl (by decide) ?_
    refine st_gskip rfl rfl rfl (by decide) ?_
    refine st_gskip rfl rfl rfl (by decide) ?_
    first | refine st_v (rv_pick_true rfl rfl) (by decide) ?_ | refine st_v (rv_pick_false rfl rfl) (by decide) ?_ | refine st_v (rv_pick rfl rfl rfl) (by decide) ?_
    refine st_nil ?_
    exact st_meet_b (.cons rfl (.cons rfl (.cons rfl (.cons rfl (.cons rfl (.cons rfl (.nil _)))))))
  · -- false
    refine st_gon rfl rfl ?_
    refine st_v (rv_move rfl) (by decide) ?_
    refine st_gon rfl rfl ?_
    refine st_v (rv_lenB Tryd.underlying9 rfl) (by decide) ?_
    refine st_gon rfl rfl ?_
    refine st_v (rv_gtrZ rfl rfl) (by decide) ?_
    first | refine st_v (rv_pick_true rfl rfl) (by decide) ?_ | refine st_v (rv_pick_false rfl rfl) (by decide) ?_ | refine st_v (rv_pick rfl rfl rfl) (by decide) ?_
    refine st_nil ?_
    exact st_meet_b (.cons rfl (.cons rfl (.cons rfl (.cons rfl (.cons rfl (.cons rfl (.nil _)))))))
  refine st_v (rv_move rfl) (by decide) ?_
  refine' st_or 4 (L := _) (s := 29) (d := 33) [0, 1, 2, 3, 4] rfl (fun hg12 => ?_) (fun _ => ?_) ?_; rotate_left
  · -- true
    refine st_gskip rfl rfl rfl (by decide) ?_
    refine st_gskip rfl rfl rfl (by decide) ?_
    refine st_gskip rfl rfl rfl (by decide) ?_
    first | refine st_v (rv_pick_true rfl rfl) (by decide) ?_ | refine st_v (rv_pick_false rfl rfl) (by decide) ?_ | refine st_v (rv_pick rfl rfl rfl) (by decide) ?_
    refine st_nil ?_
    exact st_meet_b (.cons rfl (.cons rfl (.cons rfl (.cons rfl (.cons rfl (.cons rfl (.nil _)))))))
  · -- false
    refine st_gon rfl rfl ?_
    refine st_v (rv_move rfl) (by decide) ?_
    refine st_gon rfl rfl ?_
    refine st_v (rv_lenR (rd_old hR hR.all) Tryd.underlying22 rfl) (by decide) ?_
    refine st_gon rfl rfl ?_
    refine st_v (rv_gtrZ rfl rfl) (by decide) ?_
    first | refine st_v (rv_pick_true rfl rfl) (by decide) ?_ | refine st_v (rv_pick_false rfl rfl) (by decide) ?_ | refine st_v (rv_pick rfl rfl rfl) (by decide) ?_
    refine st_nil ?_
    exact st_meet_b (.cons rfl (.cons rfl (.cons rfl (.cons rfl (.cons rfl (.cons rfl (.nil _)))))))
  refine st_v (rv_to (u := .bool false) (rv_assign rfl) (congrArg Value.bool he)) (by decide) ?_
  refine st_nil ?_
  refine st_then ?_
  refine st_false rfl ?_
  refine st_skip ?_
  refine st_in_normal ?_
  refine st_then ?_
  refine st_seq ?_
  refine st_region ?_
  refine st_v (rv_move rfl) (by decide) ?_
  refine st_v (rv_shrN (s := 8) rfl rfl rfl (by decide)) (by decide) ?_
  refine st_v (rv_convIto8 Tryd.underlying3 Tryd.underlying5 rfl) (by decide) ?_
  refine st_v (rv_move rfl) (by decide) ?_
  refine st_v (rv_convIto8 Tryd.underlying3 Tryd.underlying5 rfl) (by decide) ?_
  refine st_v (rv_move rfl) (by decide) ?_
  refine st_v (rv_lenB Tryd.underlying9 rfl) (by decide) ?_
  first | refine st_v (rv_addN (a := 6) rfl rfl (by first | omega | (simp; done) | (simp; omega))) (by decide) ?_ | refine st_v (rv_addZ rfl rfl (by first | omega | (simp; done) | (simp; omega))) (by decide) ?_
  refine st_v (rv_convIto8 Tryd.underlying3 Tryd.underlying5 rfl) (by decide) ?_
  refine st_buildO Tryd.underlying22 tyZ5 rfl rfl (by decide) (cs := ([BitVec.ofNat 8 (N / 2 ^ 8), BitVec.ofNat 8 N, BitVec.ofNat 8 (6 + label.length)].map U8).toArray) rfl rfl (by decide) (fun v1 => ?_)
  refine st_v (rv_assign rfl) (by decide) ?_
  refine st_nil ?_
  refine st_then ?_
  refine st_seq ?_
  refine st_region ?_
  refine st_v (rv_move rfl) (by decide) ?_
  refine st_v (rv_move rfl) (by decide) ?_
  refine st_v (rv_concat (a := [116#8, 108#8, 115#8, 49#8, 51#8, 32#8]) rfl rfl (by first | omega | (simp <;> omega))) (by decide) ?_
  refine st_append8 Tryd.underlying22 Tryd.underlying9 (.inl rfl) tyZ5 rfl rfl rfl (i := 0) rfl (fun w _ => src_str _) (by first | omega | (simp <;> omega)) (by first | omega | (simp <;> omega)) (by decide) (fun v1 => ?_)
  refine st_v (rv_assign rfl) (by decide) ?_
  refine st_nil ?_
  refine st_then ?_
  refine st_seq ?_
  refine st_region ?_
  refine st_v (rv_move rfl) (by decide) ?_
  refine st_v (rv_move rfl) (by decide) ?_
  refine st_v (rv_lenR (rd_old hR hR.all) Tryd.underlying22 rfl) (by decide) ?_
  refine st_v (rv_convIto8 Tryd.underlying3 Tryd.underlying5 rfl) (by decide) ?_
  refine st_buildSlice Tryd.underlying22 tyZ5 rfl rfl (by decide) (cs := #[_]) rfl (by decide) (fun b2 hb2 => ?_)
  refine st_append8 Tryd.underlying22 Tryd.underlying22 (.inr ⟨_, rfl⟩) tyZ5 rfl rfl rfl (i := 1) rfl (fun w hM => src_rd ((rd_l8 (q := [_]) (len := 1) (i := 0) rfl rfl rfl (by omega)) w hM) (one8 _)) (by first | omega | (simp <;> omega)) (by first | omega | (simp <;> omega)) (by decide) (fun v1 => ?_)
  refine st_v (rv_assign rfl) (by decide) ?_
  refine st_nil ?_
  refine st_then ?_
  refine st_seq ?_
  refine st_region ?_
  refine st_v (rv_move rfl) (by decide) ?_
  refine st_v (rv_move rfl) (by decide) ?_
  refine st_append8 Tryd.underlying22 Tryd.underlying22 (.inr ⟨_, rfl⟩) tyZ5 rfl rfl rfl (i := 1) rfl (fun w hM => src_rd ((rd_old hR hR.all) w hM) (one8 _)) (by first | omega | (simp <;> omega)) (by first | omega | (simp <;> omega)) (by decide) (fun v1 => ?_)
  refine st_v (rv_assign rfl) (by decide) ?_
  refine st_nil ?_
  refine st_then ?_
  refine st_seq ?_
  refine st_region ?_
  refine st_v (rv_move rfl) (by decide) ?_
  refine st_v (rv_move rfl) (by decide) ?_
  refine st_v (rv_move rfl) (by decide) ?_
  refine st_v (rv_move rfl) (by decide) ?_
  refine st_call0 cal42 rfl (fun w hM => (Expand_long k hk _ _ key (infoW label q N) N hl hkey (by omega) w (hL.at hM) ((rd_old hKR hKR.all) w hM) (Rd.n_eq ((rd_own (i := 1) rfl) w hM) (by first | (simp [infoW, pre13]; done) | (simp [infoW, pre13]; omega))))) (by decide) ?_
  refine st_v (rv_extract rfl rfl) (by decide) ?_
  refine st_v (rv_extract rfl rfl) (by decide) ?_
  refine st_v (rv_assign rfl) (by decide) ?_
  refine st_v (rv_assign rfl) (by decide) ?_
  refine st_nil ?_
  refine st_then ?_
  refine st_ret ?_
  exact st_done2 rfl rfl rfl (fun w hM => ⟨rfl, hM.sublist (List.nil_sublist _)⟩)
set_option maxRecDepth 20000 in
set_option maxHeartbeats 1000000 in
theorem ELabel_ok (k : Nat) (hk : k ≤ 2) (vk v : Value) (key label q : List (BitVec 8)) (N : Nat) (he : elongZ (N : Int) label q = false) (hl : longZ k N = false) (hkey : key.length ≤ 700000) (hq : q.length ≤ 700000) (w : World) (hL : LaidH w) (hKR : Rd w vk key.length 1 (key.map U8)) (hR : Rd w v q.length 1 (q.map U8)) : Calls Tryd.prog 43 #[vI (k : Nat), vk, vS label, v, vI (N : Nat)] w (fun e w' => ∃ r, e = .returned (.tuple #[r, vI 0]) ∧ Mem (All w) w w' [own r 5 1 N ((okmW k key (infoW label q N) N).map U8)]) := by
  obtain ⟨hn0, hn1, hlb, hcx⟩ := elongZ_false he
  have hil : (infoW label q N).length = label.length + q.length + 10 := by simp [infoW, pre13]; omega
  refine calls_of_st (n := 64) (args := [vI (k : Nat), vk, vS label, v, vI (N : Nat)]) Tryd.func43 rfl Tryd.ntmps43 (Nat.le_of_ble_eq_true rfl) (Mem.all w) ?_
  refine st_seq ?_
  refine st_region ?_
  refine st_v (rv_assign rfl) (by decide) ?_
  refine st_v (rv_assign rfl) (by decide) ?_
  refine st_nil ?_
  refine st_then ?_
  refine st_seq ?_
  refine st_block ?_
  refine st_seq ?_
  refine st_region ?_
  refine st_v (rv_move rfl) (by decide) ?_
  refine st_call0 cal81 rfl (fun w hM => (known_ok hk w)) (by decide) ?_
  refine st_v (rv_not rfl) (by decide) ?_
  refine st_v (rv_assign rfl) (by decide) ?_
  refine st_nil ?_
  refine st_then ?_
  refine st_false rfl ?_
  refine st_seq ?_
  refine st_region ?_
  refine st_v (rv_move rfl) (by decide) ?_
  refine st_v (rv_lssZ rfl rfl) (by decide) ?_
  refine st_v (rv_move rfl) (by decide) ?_
  refine' st_or 3 (L := _) (s := 20) (d := 23) [0, 1, 2, 3, 4] rfl (fun hg3 => ?_) (fun _ => ?_) ?_; rotate_left
  · -- true
    refine st_gskip rfl rfl rfl (by decide) ?_
    refine st_gskip rfl rfl rfl (by decide) ?_
    first | refine st_v (rv_pick_true rfl rfl) (by decide) ?_ | refine st_v (rv_pick_false rfl rfl) (by decide) ?_ | refine st_v (rv_pick rfl rfl rfl) (by decide) ?_
    refine st_nil ?_
    exact st_meet_b (.cons rfl (.cons rfl (.cons rfl (.cons rfl (.cons rfl (.cons rfl (.nil _)))))))
  · -- false
    refine st_gon rfl rfl ?_
    refine st_v (rv_move rfl) (by decide) ?_
    refine st_gon rfl rfl ?_
    refine st_v (rv_gtrZ rfl rfl) (by decide) ?_
    first | refine st_v (rv_pick_true rfl rfl) (by decide) ?_ | refine st_v (rv_pick_false rfl rfl) (by decide) ?_ | refine st_v (rv_pick rfl rfl rfl) (by decide) ?_
    refine st_nil ?_
    exact st_meet_b (.cons rfl (.cons rfl (.cons rfl (.cons rfl (.cons rfl (.cons rfl (.nil _)))))))
  refine st_v (rv_move rfl) (by decide) ?_
  refine' st_or 4 (L := _) (s := 24) (d := 28) [0, 1, 2, 3, 4] rfl (fun hg7 => ?_) (fun _ => ?_) ?_; rotate_left
  · -- true
    refine st_gskip rfl rfl rfl (by decide) ?_
    refine st_gskip rfl rfl rfl (by decide) ?_
    refine st_gskip rfl rfl rfl (by decide) ?_
    first | refine st_v (rv_pick_true rfl rfl) (by decide) ?_ | refine st_v (rv_pick_false rfl rfl) (by decide) ?_ | refine st_v (rv_pick rfl rfl rfl) (by decide) ?_
    refine st_nil ?_
    exact st_meet_b (.cons rfl (.cons rfl (.cons rfl (.cons rfl (.cons rfl (.cons rfl (.nil _)))))))
  · -- false
    refine st_gon rfl rfl ?_
    refine st_v (rv_move rfl) (by decide) ?_
    refine st_gon rfl rfl ?_
    refine st_v (rv_lenB Tryd.underlying9 rfl) (by decide) ?_
    refine st_gon rfl rfl ?_
    refine st_v (rv_gtrZ rfl rfl) (by decide) ?_
    first | refine st_v (rv_pick_true rfl rfl) (by decide) ?_ | refine st_v (rv_pick_false rfl rfl) (by decide) ?_ | refine st_v (rv_pick rfl rfl rfl) (by decide) ?_
    refine st_nil ?_
    exact st_meet_b (.cons rfl (.cons rfl (.cons rfl (.cons rfl (.cons rfl (.cons rfl (.nil _)))))))
  refine st_v (rv_move rfl) (by decide) ?_
  refine' st_or 4 (L := _) (s := 29) (d := 33) [0, 1, 2, 3, 4] rfl (fun hg12 => ?_) (fun _ => ?_) ?_; rotate_left
  · -- true
    refine st_gskip rfl rfl rfl (by decide) ?_
    refine st_gskip rfl rfl rfl (by decide) ?_
    refine st_gskip rfl rfl rfl (by decide) ?_
    first | refine st_v (rv_pick_true rfl rfl) (by decide) ?_ | refine st_v (rv_pick_false rfl rfl) (by decide) ?_ | refine st_v (rv_pick rfl rfl rfl) (by decide) ?_
    refine st_nil ?_
    exact st_meet_b (.cons rfl (.cons rfl (.cons rfl (.cons rfl (.cons rfl (.cons rfl (.nil _)))))))
  · -- false
    refine st_gon rfl rfl ?_
    refine st_v (rv_move rfl) (by decide) ?_
    refine st_gon rfl rfl ?_
    refine st_v (rv_lenR (rd_old hR hR.all) Tryd.underlying22 rfl) (by decide) ?_
    refine st_gon rfl rfl ?_
    refine st_v (rv_gtrZ rfl rfl) (by decide) ?_
    first | refine st_v (rv_pick_true rfl rfl) (by decide) ?_ | refine st_v (rv_pick_false rfl rfl) (by decide) ?_ | refine st_v (rv_pick rfl rfl rfl) (by decide) ?_
    refine st_nil ?_
    exact st_meet_b (.cons rfl (.cons rfl (.cons rfl (.cons rfl (.cons rfl (.cons rfl (.nil _)))))))
  refine st_v (rv_to (u := .bool false) (rv_assign rfl) (congrArg Value.bool he)) (by decide) ?_
  refine st_nil ?_
  refine st_then ?_
  refine st_false rfl ?_
  refine st_skip ?_
  refine st_in_normal ?_
  refine st_then ?_
  refine st_seq ?_
  refine st_region ?_
  refine st_v (rv_move rfl) (by decide) ?_
  refine st_v (rv_shrN (s := 8) rfl rfl rfl (by decide)) (by decide) ?_
  refine st_v (rv_convIto8 Tryd.underlying3 Tryd.underlying5 rfl) (by decide) ?_
  refine st_v (rv_move rfl) (by decide) ?_
  refine st_v (rv_convIto8 Tryd.underlying3 Tryd.underlying5 rfl) (by decide) ?_
  refine st_v (rv_move rfl) (by decide) ?_
  refine st_v (rv_lenB Tryd.underlying9 rfl) (by decide) ?_
  first | refine st_v (rv_addN (a := 6) rfl rfl (by first | omega | (simp; done) | (simp; omega))) (by decide) ?_ | refine st_v (rv_addZ rfl rfl (by first | omega | (simp; done) | (simp; omega))) (by decide) ?_
  refine st_v (rv_convIto8 Tryd.underlying3 Tryd.underlying5 rfl) (by decide) ?_
  refine st_buildO Tryd.underlying22 tyZ5 rfl rfl (by decide) (cs := ([BitVec.ofNat 8 (N / 2 ^ 8), BitVec.ofNat 8 N, BitVec.ofNat 8 (6 + label.length)].map U8).toArray) rfl rfl (by decide) (fun v1 => ?_)
  refine st_v (rv_assign rfl) (by decide) ?_
  refine st_nil ?_
  refine st_then ?_
  refine st_seq ?_
  refine st_region ?_
  refine st_v (rv_move rfl) (by decide) ?_
  refine st_v (rv_move rfl) (by decide) ?_
  refine st_v (rv_concat (a := [116#8, 108#8, 115#8, 49#8, 51#8, 32#8]) rfl rfl (by first | omega | (simp <;> omega))) (by decide) ?_
  refine st_append8 Tryd.underlying22 Tryd.underlying9 (.inl rfl) tyZ5 rfl rfl rfl (i := 0) rfl (fun w _ => src_str _) (by first | omega | (simp <;> omega)) (by first | omega | (simp <;> omega)) (by decide) (fun v1 => ?_)
  refine st_v (rv_assign rfl) (by decide) ?_
  refine st_nil ?_
  refine st_then ?_
  refine st_seq ?_
  refine st_region ?_
  refine st_v (rv_move rfl) (by decide) ?_
  refine st_v (rv_move rfl) (by decide) ?_
  refine st_v (rv_lenR (rd_old hR hR.all) Tryd.underlying22 rfl) (by decide) ?_
  refine st_v (rv_convIto8 Tryd.underlying3 Tryd.underlying5 rfl) (by decide) ?_
  refine st_buildSlice Tryd.underlying22 tyZ5 rfl rfl (by decide) (cs := #[_]) rfl (by decide) (fun b2 hb2 => ?_)
  refine st_append8 Tryd.underlying22 Tryd.underlying22 (.inr ⟨_, rfl⟩) tyZ5 rfl rfl rfl (i := 1) rfl (fun w hM => src_rd ((rd_l8 (q := [_]) (len := 1) (i := 0) rfl rfl rfl (by omega)) w hM) (one8 _)) (by first | omega | (simp <;> omega)) (by first | omega | (simp <;> omega)) (by decide) (fun v1 => ?_)
  refine st_v (rv_assign rfl) (by decide) ?_
  refine st_nil ?_
  refine st_then ?_
  refine st_seq ?_
  refine st_region ?_
  refine st_v (rv_move rfl) (by decide) ?_
  refine st_v (rv_move rfl) (by decide) ?_
  refine st_append8 Tryd.underlying22 Tryd.underlying22 (.inr ⟨_, rfl⟩) tyZ5 rfl rfl rfl (i := 1) rfl (fun w hM => src_rd ((rd_old hR hR.all) w hM) (one8 _)) (by first | omega | (simp <;> omega)) (by first | omega | (simp <;> omega)) (by decide) (fun v1 => ?_)
  refine st_v (rv_assign rfl) (by decide) ?_
  refine st_nil ?_
  refine st_then ?_
  refine st_seq ?_
  refine st_region ?_
  refine st_v (rv_move rfl) (by decide) ?_
  refine st_v (rv_move rfl) (by decide) ?_
  refine st_v (rv_move rfl) (by decide) ?_
  refine st_v (rv_move rfl) (by decide) ?_
  refine st_call1 (ρ := Value) (fun r => .tuple #[r, vI 0]) (fun _ => True) (fun r => [own r 5 1 N ((okmW k key (infoW label q N) N).map U8)]) cal42 rfl (fun w hM => ((Expand_ok k hk _ _ key (infoW label q N) N hl hkey (by omega) w (hL.at hM) ((rd_old hKR hKR.all) w hM) (Rd.n_eq ((rd_own (i := 1) rfl) w hM) (by first | (simp [infoW, pre13]; done) | (simp [infoW, pre13]; omega))))).mono fun e w' ⟨r, h1, h2⟩ => ⟨r, h1, trivial, h2⟩) (by decide) (fun r3 _ => ?_)
  refine st_v (rv_extract rfl rfl) (by decide) ?_
  refine st_v (rv_extract rfl rfl) (by decide) ?_
  refine st_v (rv_assign rfl) (by decide) ?_
  refine st_v (rv_assign rfl) (by decide) ?_
  refine st_nil ?_
  refine st_then ?_
  refine st_ret ?_
  exact st_done2 rfl rfl rfl (fun w hM => ⟨_, rfl, hM.sublist (List.cons_sublist_cons.2 (List.nil_sublist _))⟩)
end Go.Proofs.YtjhjjhpfjadjpaaDoor
