/- Walks: what functions of the given program do, operation by operation. Written by wip/gen. -/
import Derived.Test.YtjhjjhpfjadjpaaDoorCA
import Derived.Test.YtjhjjhpfjadjpaaDoorMV
namespace Go.Proofs.YtjhjjhpfjadjpaaDoor
set_option linter.all false
open Go
/-- a modulus in memory, for reading -/
def ModAt (w : World) (mb m : Nat) : Prop := ∃ fr : Nat × Nat, w.heap[mb]? = some (.cells (c64 (modW m)) 142 fr)
theorem ModAt.S {w : World} {mb m : Nat} (h : ModAt w mb m) : All w mb := by
  obtain ⟨fr, h⟩ := h
  exact ⟨(Array.getElem?_eq_some_iff.1 h).1, fun h => h⟩
theorem ModAt.at {w0 w : World} {l : List Asn} {mb m : Nat} (h : ModAt w0 mb m) (hM : Mem (All w0) w0 w l) : ModAt w mb m := by
  have hS := h.S
  obtain ⟨fr, h⟩ := h
  exact ⟨fr, (hM.old mb hS).trans h⟩
theorem ModAt.blk {S : Nat → Prop} {w0 w : World} {l : List Asn} {i mb m : Nat} (hM : Mem S w0 w l) (hl : l[i]? = some (Go.Proofs.YtjhjjhpfjadjpaaDoor.blk mb (c64 (modW m)) 142)) : ModAt w mb m := by
  obtain ⟨fr, h, _⟩ := hM.blkAt hl
  exact ⟨fr, h⟩
/-- the table of moduli: the first two -/
def modsW : List (BitVec 64) := modW pP ++ (modW pL ++ [18446744073709551615#64, 4294967295#64, 0#64, 18446744069414584321#64, 1#64, 1#64, 18446744069414584320#64, 18446744073709551615#64, 4294967294#64, 3#64, 18446744056529682431#64, 18446744073709551614#64, 21474836477#64, 17562291160714782033#64, 13611842547513532036#64, 18446744073709551615#64, 18446744069414584320#64, 14758798090332847183#64, 884452912994769583#64, 4834901526196019579#64, 0#64, 4294967295#64, 9449762124159643298#64, 5087230966250696614#64, 2901921493521525849#64, 7413256579398063648#64])
def LaidM (w : World) : Prop := ∃ (T : TypeId) (fr : Nat × Nat), w.heap[4]? = some (.cells (c64 modsW) T fr)
theorem LaidM.S {w : World} (h : LaidM w) : All w 4 := by
  obtain ⟨T, fr, h⟩ := h
  exact ⟨(Array.getElem?_eq_some_iff.1 h).1, fun h => h⟩
theorem LaidM.at {w0 w : World} {l : List Asn} (h : LaidM w0) (hM : Mem (All w0) w0 w l) : LaidM w := by
  have hS := h.S
  obtain ⟨T, fr, h⟩ := h
  exact ⟨T, fr, (hM.old _ hS).trans h⟩
theorem length_modsW : modsW.length = 52 := by simp [modsW]
theorem mods0 : (modsW.drop 0).take 13 = modW pP := by
  rw [modsW, List.drop_zero, List.take_append_of_le_length (by simp), List.take_of_length_le (by simp)]
theorem mods1 : (modsW.drop 13).take 13 = modW pL := by
  rw [modsW, List.drop_append_of_le_length (by simp), List.drop_of_length_le (by simp), List.nil_append, List.take_append_of_le_length (by simp), List.take_of_length_le (by simp)]
set_option maxRecDepth 20000 in
set_option maxHeartbeats 2000000 in
theorem MulW_calls {m : Nat} [NeZero m] (mb : Nat) (a b : List (BitVec 64)) (ha : a.length = 4) (hb : b.length = 4) (w : World) (hm : ModAt w mb m) : Calls Tryd.prog 94 #[pt mb 0, .agg (c64 (a)), .agg (c64 (b))] w (fun r w' => r = .returned (.agg (c64 (mulW (w64 4 m) (negM m) a b))) ∧ Mem (All w) w w' []) := by
  have hm0 := hm
  obtain ⟨fr, hrow⟩ := hm0
  have hS : All w mb := hm.S
  refine calls_of_st (n := 72) (args := [pt mb 0, .agg (c64 (a)), .agg (c64 (b))]) Tryd.func94 rfl Tryd.ntmps94 (Nat.le_of_ble_eq_true rfl) (Mem.all w) ?_
  refine st_seq ?_
  refine st_region ?_
  refine st_box rfl (by decide) (cs := c64 (a)) rfl (fun b1 hb1 => ?_)
  refine st_box rfl (by decide) (cs := c64 (b)) rfl (fun b2 hb2 => ?_)
  refine st_alloc tyZ81 (by decide) (cs := c64 (List.replicate 4 0#64)) (rfl) (fun b3 hb3 => ?_)
  refine st_nil ?_
  refine st_then ?_
  refine st_seq ?_
  refine st_region ?_
  refine st_alloc tyZ175 (by decide) (cs := c64 (List.replicate 6 0#64)) (rfl) (fun b4 hb4 => ?_)
  refine st_nil ?_
  refine st_then ?_
  refine st_seq ?_
  refine st_seq ?_
  refine st_region ?_
  refine st_v (rv_loadW_blk tyA81 rfl (i := 3) rfl (by first | omega | (simp [ha, hb, length_mulT, over]; done) | (simp [ha, hb, length_mulT, over] <;> omega))) (by decide) ?_
  refine st_v (rv_move rfl) (by decide) ?_
  refine st_nil ?_
  refine st_then ?_
  refine st_block ?_
  refine st_loopA (σ := Nat) [(0, kst _), (5, kst _), (6, kst _), (7, kst _), (14, kst _), (15, fun i => vI i)] [fun i => blk b4 (c64 (mulT (w64 4 m) (negM m) a b i)) 175, kst _, kst _, kst _] (fun i => i ≤ 4) (fun i => 4 - i) 0 (by omega) (.cons rfl (.cons rfl (.cons rfl (.cons rfl (.cons rfl (.cons rfl (.nil _))))))) (fun _ hM => hM) ?_
  intro i hI
  try dsimp only at hI
  dsimp only [List.map, kst]
  refine st_seq ?_
  refine st_region ?_
  refine st_v (rv_lssZ rfl rfl) (by decide) ?_
  refine st_nil ?_
  refine st_then ?_
  refine st_seq ?_
  refine st_cond rfl (fun hc16 => ?_) (fun hc16 => ?_)
  · -- t16 True
    try simp only [z1, z2, z3, z4, z5, z6, z7, z8, z9, z10, z11, z12, z13, z14] at hc16
    refine st_skip ?_
    refine st_then ?_
    refine st_seq ?_
    refine st_block ?_
    refine st_seq ?_
    refine st_region ?_
    refine st_v (rv_indexV Tryd.underlying81 tyS77 rfl rfl rfl (by first | omega | (simp [ha, hb, length_mulT, over] <;> omega)) (cell64 (by first | omega | (simp [ha, hb, length_mulT, over] <;> omega)))) (by decide) ?_
    refine st_v (rv_assign rfl) (by decide) ?_
    refine st_nil ?_
    refine st_then ?_
    refine st_seq ?_
    refine st_region ?_
    refine st_v (rv_move rfl) (by decide) ?_
    refine st_v (rv_loadW_blk tyA81 rfl (i := 2) rfl (by first | omega | (simp [ha, hb, length_mulT, over]; done) | (simp [ha, hb, length_mulT, over] <;> omega))) (by decide) ?_
    refine st_v (rv_indexA (k := 4) Tryd.underlying175 sz77 rfl rfl (j := 4) rfl (by decide) rfl) (by decide) ?_
    refine st_v (rv_load_blk tyS77 rfl (i := 0) rfl (cell64 (by first | omega | (simp [ha, hb, length_mulT, over] <;> omega)))) (by decide) ?_
    refine st_callB (v := .tuple #[U64 _, U64 _]) cal126 rfl (i := 0) rfl (fun w hM => line_calls _ _ _ _ _ (by simp [length_mulT]) hb w (hM.holdsAt (i := 0) rfl)) (by decide) (l' := [_, _, _, _]) rfl ?_
    refine st_v (rv_move rfl) (by decide) ?_
    refine st_v (rv_extract rfl rfl) (by decide) ?_
    refine st_v (rv_extract rfl rfl) (by decide) ?_
    refine st_v (rv_indexA (k := 4) Tryd.underlying175 sz77 rfl rfl (j := 4) rfl (by decide) rfl) (by decide) ?_
    refine st_store64 rfl rfl (i := 0) rfl sz77 (by first | omega | (simp [ha, hb, length_mulT, over] <;> omega)) (l' := [_, _, _, _]) rfl ?_
    refine st_v (rv_indexA (k := 5) Tryd.underlying175 sz77 rfl rfl (j := 5) rfl (by decide) rfl) (by decide) ?_
    refine st_store64 rfl rfl (i := 0) rfl sz77 (by first | omega | (simp [ha, hb, length_mulT, over] <;> omega)) (l' := [_, _, _, _]) rfl ?_
    rw [mulA_fold]
    refine st_nil ?_
    refine st_then ?_
    refine st_seq ?_
    refine st_drawStart mixed ?_
    refine st_drawSeg1 (E0 := [(0, _), (5, _), (6, _), (7, _), (14, _), (15, _)]) [kpeq _, kpeq _, kpeq _, kpeq _, kpeq _, kpeq _] 0 6 [0, 1, 0, 4, 12, 28, 63, 127] [0, 5, 6, 7, 14, 15] (by kernel_rfl) (by decide) (by kernel_rfl) (.cons rfl (.cons rfl (.cons rfl (.cons rfl (.cons rfl (.cons rfl (.nil _))))))) rfl rfl (hall_cons (hop_val [] [] rfl rfl rfl (by decide) rfl (jnil) (xnil) (fun _ _ _ _ => does_v (rv_indexA (k := 0) Tryd.underlying175 sz77 rfl rfl (j := 0) rfl (by decide) rfl))) (hall_cons (hop_val [(0, 28, _)] [] rfl rfl rfl (by decide) rfl (jcons rfl rfl rfl rfl rfl (jnil)) (xnil) (fun _ _ _ _ => does_v (rv_load_blk tyS77 rfl (i := 0) rfl (cell64 (by first | omega | (simp [ha, hb, length_mulT, over] <;> omega)))))) (hall_cons (hop_mv rfl (by decide) rfl rfl) (hall_cons (hop_val [(2, 30, _)] [] rfl rfl rfl (by decide) rfl (jcons rfl rfl rfl rfl rfl (jnil)) (xnil) (fun _ _ _ _ => does_v (rv_nilCheck rfl))) (hall_cons (hop_val [(3, 31, _)] [] rfl rfl rfl (by decide) rfl (jcons rfl rfl rfl rfl rfl (jnil)) (xnil) (fun _ _ _ _ => does_v (rv_fieldAddr (k := 4) Tryd.underlying142 (fs := _) rfl sz77 rfl rfl))) (hall_cons (hop_val [(4, 32, _)] [] rfl rfl rfl (by decide) rfl (jcons rfl rfl rfl rfl rfl (jnil)) (xnil) (fun _ _ _ _ => does_v (rv_load_old tyS77 rfl hrow hS (cell64 (by first | omega | (simp [ha, hb, length_mulT, over] <;> omega)))))) (hall_nil))))))) (draw_end1 [(1, 29, _), (5, 33, _)] (jcons rfl rfl rfl rfl rfl (jcons rfl rfl rfl rfl rfl (jnil))) ?_)
    refine st_drawTail (N := 6) [0, 1, 0, 4, 12, 28, 63, 127] (by kernel_rfl) (by kernel_rfl) ?_
    refine st_v (rv_mul64 rfl rfl) (by decide) ?_
    refine st_v (rv_assign rfl) (by decide) ?_
    refine st_nil ?_
    refine st_then ?_
    refine st_seq ?_
    refine st_region ?_
    refine st_v (rv_move rfl) (by decide) ?_
    rw [modW_neg]
    refine st_v (rv_move rfl) (by decide) ?_
    refine st_v (rv_nilCheck rfl) (by decide) ?_
    refine st_v (rv_fieldAddr (k := 0) Tryd.underlying142 (fs := _) rfl sz79 rfl rfl) (by decide) ?_
    refine st_v (rv_loadA_old tyA79 rfl hrow hS (by first | omega | (simp [ha, hb, length_mulT, over]; done) | (simp [ha, hb, length_mulT, over] <;> omega)) (ext64 _ _ _)) (by decide) ?_
    rw [modW_m]
    refine st_callB (v := .tuple #[U64 _, U64 _]) cal127 rfl (i := 0) rfl (fun w hM => lineTop_calls _ _ _ _ (by simp [length_mulT]) (length_w64 4 m) w (hM.holdsAt (i := 0) rfl)) (by decide) (l' := [_, _, _, _]) rfl ?_
    refine st_v (rv_move rfl) (by decide) ?_
    refine st_v (rv_extract rfl rfl) (by decide) ?_
    refine st_v (rv_extract rfl rfl) (by decide) ?_
    refine st_v (rv_indexA (k := 4) Tryd.underlying175 sz77 rfl rfl (j := 4) rfl (by decide) rfl) (by decide) ?_
    refine st_store64 rfl rfl (i := 0) rfl sz77 (by first | omega | (simp [ha, hb, length_mulT, over] <;> omega)) (l' := [_, _, _, _]) rfl ?_
    refine st_v (rv_indexA (k := 5) Tryd.underlying175 sz77 rfl rfl (j := 5) rfl (by decide) rfl) (by decide) ?_
    refine st_store64 rfl rfl (i := 0) rfl sz77 (by first | omega | (simp [ha, hb, length_mulT, over] <;> omega)) (l' := [_, _, _, _]) rfl ?_
    rw [mulB_fold]
    refine st_nil ?_
    refine st_then ?_
    refine st_seq ?_
    refine st_drawStart mixed ?_
    refine st_drawSeg1 (E0 := [(0, _), (5, _), (6, _), (7, _), (14, _), (15, _)]) [kpeq _, kpeq _] 0 2 [0, 0, 3] [0, 5, 6, 7, 14, 15] (by kernel_rfl) (by decide) (by kernel_rfl) (.cons rfl (.cons rfl (.cons rfl (.cons rfl (.cons rfl (.cons rfl (.nil _))))))) rfl rfl (hall_cons (hop_val [] [] rfl rfl rfl (by decide) rfl (jnil) (xnil) (fun _ _ _ _ => does_v (rv_sliceA Tryd.underlying175 sz77 rfl evB_none (evB_some (k := 5) rfl rfl) (by omega) (by omega) (by decide) rfl))) (hall_cons (hop_val [] [] rfl rfl rfl (by decide) rfl (jnil) (xnil) (fun _ _ _ _ => does_v (rv_sliceA Tryd.underlying175 sz77 rfl (evB_some (k := 1) rfl rfl) evB_none (by omega) (by omega) (by decide) rfl))) (hall_nil))) (draw_end1 [(0, 46, _), (1, 47, _)] (jcons rfl rfl rfl rfl rfl (jcons rfl rfl rfl rfl rfl (jnil))) ?_)
    refine st_drawTail (N := 2) [0, 0, 3] (by kernel_rfl) (by kernel_rfl) ?_
    refine st_copy64 Tryd.underlying121 sz77 rfl rfl (i := 0) rfl (by first | omega | (simp [ha, hb, length_mulT, over]; done) | (simp [ha, hb, length_mulT, over] <;> omega)) (fun w hM => src_rd ((rd_p64 (i := 0) rfl (by first | omega | (simp [ha, hb, length_mulT, over]; done) | (simp [ha, hb, length_mulT, over] <;> omega)) (by omega)) w hM) (one64 _)) (l' := [_, _, _, _]) rfl (by decide) ?_
    refine st_nil ?_
    refine st_then ?_
    refine st_region ?_
    refine st_v (rv_indexA (k := 5) Tryd.underlying175 sz77 rfl rfl (j := 5) rfl (by decide) rfl) (by decide) ?_
    refine st_store64 (a := 0#64) rfl rfl (i := 0) rfl sz77 (by first | omega | (simp [ha, hb, length_mulT, over] <;> omega)) (l' := [_, _, _, _]) rfl ?_
    rw [mulD_fold, mulT_fold]
    refine st_nil ?_
    refine st_in_normal ?_
    refine st_then ?_
    refine st_region ?_
    first | refine st_v (rv_addN (b := 1) rfl rfl (by first | omega | (simp; done) | (simp; omega))) (by decide) ?_ | refine st_v (rv_addZ rfl rfl (by first | omega | (simp; done) | (simp; omega))) (by decide) ?_
    refine st_v (rv_move rfl) (by decide) ?_
    refine st_nil ?_
    refine st_then ?_
    exact st_again (i + 1) (by omega) (by omega) (.cons rfl (.cons rfl (.cons rfl (.cons rfl (.cons rfl (.cons rfl (.nil _))))))) (fun _ hM => hM)
  · -- t16 False
    try simp only [z1, z2, z3, z4, z5, z6, z7, z8, z9, z10, z11, z12, z13, z14] at hc16
    obtain rfl : i = 4 := by omega
    refine st_exit ?_
    refine st_then_exit ?_
    refine st_then_exit ?_
    refine st_in_exit ?_
    refine st_then ?_
    refine st_seq ?_
    refine st_region ?_
    refine st_v (rv_sliceA Tryd.underlying175 sz77 rfl evB_none (evB_some (k := 4) rfl rfl) (by omega) (by omega) (by decide) rfl) (by decide) ?_
    refine st_v (rv_to (u := pt b4 0) (rv_arrayAt (rd_p64 (i := 0) rfl (by first | omega | (simp [ha, hb, length_mulT, over]; done) | (simp [ha, hb, length_mulT, over] <;> omega)) (by omega)) Tryd.underlying79 rfl (by first | omega | (simp [ha, hb, length_mulT, over] <;> omega)) (by first | omega | (simp [ha, hb, length_mulT, over] <;> omega))) rfl) (by decide) ?_
    refine st_v (rv_loadA_blk tyA79 rfl (i := 0) rfl (by first | omega | (simp [ha, hb, length_mulT, over]; done) | (simp [ha, hb, length_mulT, over] <;> omega)) (ext64 _ _ _)) (by decide) ?_
    refine st_alloc tyZ79 (by decide) (cs := c64 (List.replicate 4 0#64)) (rfl) (fun b5 hb5 => ?_)
    refine st_storeW64 rfl rfl (i := 0) rfl sz79 (by first | omega | (simp [ha, hb, length_mulT, over]; done) | (simp [ha, hb, length_mulT, over] <;> omega)) (by first | omega | (simp [ha, hb, length_mulT, over]; done) | (simp [ha, hb, length_mulT, over] <;> omega)) (l' := [_, _, _, _, _]) rfl ?_
    refine st_nil ?_
    refine st_then ?_
    refine st_seq ?_
    refine st_drawStart mixed ?_
    refine st_drawSeg (E0 := [(0, _), (6, _), (7, _), (11, _)]) [10] [kpeq _, kpeq _, kpeq _, kpeq _, kpeq _, kpeq _, kpeq _, kpeq _, kpeq _, kAl 0 (c64 (List.replicate 4 0#64)) _ 79, kany] (phs [10] [[kst _, kst _, kst _, kst _, kst _], [kst _, kst _, kst _, kst _, kst _]]) 0 11 [0, 0, 2, 6, 14, 31, 63, 127, 127, 0, 767, 2047] [0, 6, 7, 11] (by kernel_rfl) (by decide) (by decide) (by kernel_rfl) rfl rfl (phs_skip _) (.cons rfl (.cons rfl (.cons rfl (.cons rfl (.nil _))))) (fun _ h => h) (hall_cons (hop_valY [] [] [] rfl rfl rfl (by decide) rfl (jnil) (xnil) (ynil) (fun p h1 h2 vals => by obtain rfl : p = 0 := Nat.le_antisymm h2 h1; exact does_v (rv_loadW_blk tyA79 rfl (i := 0) rfl (by first | omega | (simp [ha, hb, length_mulT, over]; done) | (simp [ha, hb, length_mulT, over] <;> omega))))) (hall_cons (hop_valY [] [] [] rfl rfl rfl (by decide) rfl (jnil) (xnil) (ynil) (fun p h1 h2 vals => by obtain rfl : p = 0 := Nat.le_antisymm h2 h1; exact does_v (rv_move rfl))) (hall_cons (hop_valY [(1, 56, _)] [] [] rfl rfl rfl (by decide) rfl (jcons rfl rfl rfl rfl rfl (jnil)) (xnil) (ynil) (fun p h1 h2 vals => by obtain rfl : p = 0 := Nat.le_antisymm h2 h1; exact does_v (rv_nilCheck rfl))) (hall_cons (hop_valY [(2, 57, _)] [] [] rfl rfl rfl (by decide) rfl (jcons rfl rfl rfl rfl rfl (jnil)) (xnil) (ynil) (fun p h1 h2 vals => by obtain rfl : p = 0 := Nat.le_antisymm h2 h1; exact does_v (rv_fieldAddr (k := 0) Tryd.underlying142 (fs := _) rfl sz79 rfl rfl))) (hall_cons (hop_valY [(3, 58, _)] [] [] rfl rfl rfl (by decide) rfl (jcons rfl rfl rfl rfl rfl (jnil)) (xnil) (ynil) (fun p h1 h2 vals => by obtain rfl : p = 0 := Nat.le_antisymm h2 h1; exact does_v (rv_loadA_old tyA79 rfl hrow hS (by first | omega | (simp [ha, hb, length_mulT, over]; done) | (simp [ha, hb, length_mulT, over] <;> omega)) (ext64 _ _ _)))) (hall_cons (hop_valY [(0, 55, _), (4, 59, _)] [] [] rfl rfl rfl (by decide) rfl (jcons rfl rfl rfl rfl rfl (jcons rfl rfl rfl rfl rfl (jnil))) (xnil) (ynil) (fun p h1 h2 vals => by obtain rfl : p = 0 := Nat.le_antisymm h2 h1; exact does_call0 cal128 rfl (fun w hM => (minus_calls _ _ (by simp [length_mulT]) (by simp) w)))) (hall_cons (hop_valY [(5, 60, _)] [] [] rfl rfl rfl (by decide) rfl (jcons rfl rfl rfl rfl rfl (jnil)) (xnil) (ynil) (fun p h1 h2 vals => by obtain rfl : p = 0 := Nat.le_antisymm h2 h1; exact does_v (rv_move rfl))) (hall_cons (hop_valY [(6, 54, _)] [] [] rfl rfl rfl (by decide) rfl (jcons rfl rfl rfl rfl rfl (jnil)) (xnil) (ynil) (fun p h1 h2 vals => by obtain rfl : p = 0 := Nat.le_antisymm h2 h1; exact does_v (rv_extract rfl rfl))) (hall_cons (hop_valY [(6, 54, _)] [] [] rfl rfl rfl (by decide) rfl (jcons rfl rfl rfl rfl rfl (jnil)) (xnil) (ynil) (fun p h1 h2 vals => by
    have h1 : 0 ≤ p := h1
    have h2 : p ≤ 1 := h2
    obtain rfl | rfl : p = 0 ∨ p = 1 := by omega
    all_goals exact does_v (rv_extract rfl rfl))) (hall_cons (hop_valY [] [] [] rfl rfl rfl (by decide) rfl (jnil) (xnil) (ynil) (fun p h1 h2 vals => by obtain rfl : p = 0 := Nat.le_antisymm h2 h1; exact does_alloc tyZ79 (rfl))) (hall_cons (hop_memC 9 12 _ [(7, 61, _)] [] rfl rfl rfl (fun d h => by cases h) rfl rfl rfl (⟨.inr fun _ => rfl, ⟨.inr fun _ => rfl, ⟨.inr fun _ => rfl, ⟨.inr fun _ => rfl, ⟨.inr fun _ => rfl, ⟨.inr fun _ => rfl, ⟨.inr fun _ => rfl, ⟨.inr fun _ => rfl, ⟨.inr fun _ => rfl, ⟨.inl rfl, ⟨.inr fun _ => rfl, trivial⟩⟩⟩⟩⟩⟩⟩⟩⟩⟩⟩) (jcons rfl rfl rfl rfl rfl (jnil)) (ynil) (fun vals => dm_storeV64 rfl rfl (i := 0) rfl sz79 (by first | omega | (simp [ha, hb, length_mulT, over] <;> omega)) (by first | omega | (simp [ha, hb, length_mulT, over] <;> omega)) (fun v u => rfl))) (hall_nil)))))))))))) (draw_endY [(8, 62, _)] [(9, 12, kAl 0 (c64 (List.replicate 4 0#64)) _ 79)] [] rfl (jcons rfl rfl rfl rfl rfl (jnil)) (xcons rfl rfl rfl rfl rfl rfl (xnil)) (ynil) (fun vals => ?_))
    refine St.conv (E' := [(12, vals 9), (62, _), (0, _), (6, _), (7, _), (11, _)]) (l1 := [blkV (c64 _) 79 (vals 9), _, _, _, _, _]) rfl rfl ?_
    try dsimp only [kst]
    refine st_openV (i := 0) rfl (fun b7 hb7 => ?_)
    rw [hb7]
    refine st_drawTail (N := 11) [0, 0, 2, 6, 14, 31, 63, 127, 127, 0, 767, 2047] (by kernel_rfl) (by kernel_rfl) ?_
    refine st_v (rv_assign rfl) (by decide) ?_
    refine st_nil ?_
    refine st_then ?_
    refine st_seq ?_
    refine st_seq ?_
    refine st_region ?_
    refine st_v (rv_indexA (k := 4) Tryd.underlying175 sz77 rfl rfl (j := 4) rfl (by decide) rfl) (by decide) ?_
    rw [modW_m]
    refine st_v (rv_load_blk tyS77 rfl (i := 2) rfl (cell64 (by first | omega | (simp [ha, hb, length_mulT, over] <;> omega)))) (by decide) ?_
    refine st_v (rv_eql64 (b := 0#64) rfl rfl) (by decide) ?_
    refine st_v (rv_move rfl) (by decide) ?_
    refine' st_and 3 (L := _) (s := 66) (d := 69) [6, 11, 12] rfl (fun hg4 => ?_) (fun _ => ?_) ?_; rotate_left
    · -- true
      try simp only [decide_eq_true_eq, decide_eq_false_iff_not, Bool.and_eq_true, Bool.not_eq_true] at hg4
      refine st_gon rfl rfl ?_
      refine st_v (rv_move rfl) (by decide) ?_
      refine st_gon rfl rfl ?_
      refine st_v (rv_eql64 (b := 1#64) rfl rfl) (by decide) ?_
      first | refine st_v (rv_pick_true rfl rfl) (by decide) ?_ | refine st_v (rv_pick_false rfl rfl) (by decide) ?_ | refine st_v (rv_pick rfl rfl rfl) (by decide) ?_
      refine st_nil ?_
      exact st_meet_b (.cons rfl (.cons rfl (.cons rfl (.cons rfl (.nil _)))))
    · -- false
      refine st_gskip rfl rfl rfl (by decide) ?_
      refine st_gskip rfl rfl rfl (by decide) ?_
      first | refine st_v (rv_pick_true rfl rfl) (by decide) ?_ | refine st_v (rv_pick_false rfl rfl) (by decide) ?_ | refine st_v (rv_pick rfl rfl rfl) (by decide) ?_
      refine st_nil ?_
      exact st_meet_b (.cons rfl (.cons rfl (.cons rfl (.cons rfl (.nil _)))))
    refine st_nil ?_
    refine st_then ?_
    refine st_cond rfl (fun hc69 => ?_) (fun hc69 => ?_)
    · -- t69 True
      try simp only [z1, z2, z3, z4, z5, z6, z7, z8, z9, z10, z11, z12, z13, z14] at hc69
      have hW : mulW (w64 4 m) (negM m) a b = (mulT (w64 4 m) (negM m) a b 4).take 4 := if_pos hc69
      refine st_seq ?_
      refine st_region ?_
      refine st_v (rv_loadW_blk tyA79 rfl (i := 1) rfl (by first | omega | (simp [ha, hb, length_mulT, over]; done) | (simp [ha, hb, length_mulT, over] <;> omega))) (by decide) ?_
      refine st_storeW64 rfl rfl (i := 3) rfl sz81 (by first | omega | (simp [ha, hb, length_mulT, over]; done) | (simp [ha, hb, length_mulT, over] <;> omega)) (by first | omega | (simp [ha, hb, length_mulT, over]; done) | (simp [ha, hb, length_mulT, over] <;> omega)) (l' := [_, _, _, _, _, _]) rfl ?_
      refine st_nil ?_
      refine st_then ?_
      refine st_ret ?_
      refine st_then_ret ?_
      exact st_doneC tyA81 rfl rfl (i := 3) rfl (by first | omega | (simp [ha, hb, length_mulT, over] <;> omega)) (fun w hM => ⟨by rw [hW]; try rfl, hM.sublist (List.nil_sublist _)⟩)
    · -- t69 False
      try simp only [z1, z2, z3, z4, z5, z6, z7, z8, z9, z10, z11, z12, z13, z14] at hc69
      have hW : mulW (w64 4 m) (negM m) a b = minS ((mulT (w64 4 m) (negM m) a b 4).take 4) (w64 4 m) 4 := if_neg (fun h => hc69.elim (fun k => k h.1) (fun k => k h.2))
      refine st_skip ?_
      refine st_then ?_
      refine st_seq ?_
      refine st_region ?_
      refine st_v (rv_loadW_blk tyA79 rfl (i := 0) rfl (by first | omega | (simp [ha, hb, length_mulT, over]; done) | (simp [ha, hb, length_mulT, over] <;> omega))) (by decide) ?_
      refine st_storeW64 rfl rfl (i := 3) rfl sz81 (by first | omega | (simp [ha, hb, length_mulT, over]; done) | (simp [ha, hb, length_mulT, over] <;> omega)) (by first | omega | (simp [ha, hb, length_mulT, over]; done) | (simp [ha, hb, length_mulT, over] <;> omega)) (l' := [_, _, _, _, _, _]) rfl ?_
      refine st_nil ?_
      refine st_then ?_
      refine st_ret ?_
      exact st_doneC tyA81 rfl rfl (i := 3) rfl (by first | omega | (simp [ha, hb, length_mulT, over] <;> omega)) (fun w hM => ⟨by rw [hW]; try rfl, hM.sublist (List.nil_sublist _)⟩)
theorem Mul_calls {m : Nat} [NeZero m] (hg : Good m) (mb : Nat) (x y : Fin m) (w : World) (hm : ModAt w mb m) : Calls Tryd.prog 94 #[pt mb 0, .agg (c64 (El (x))), .agg (c64 (El (y)))] w (fun r w' => r = .returned (.agg (c64 (El (x * y)))) ∧ Mem (All w) w w' []) := by
  have := MulW_calls mb (El x) (El y) (length_El x) (length_El y) w hm
  rwa [mulW_El hg] at this
set_option maxRecDepth 20000 in
theorem One_calls {m : Nat} [NeZero m] (hg : Good m) (mb : Nat) (w : World) (hm : ModAt w mb m) : Calls Tryd.prog 96 #[pt mb 0] w (fun r w' => r = .returned (.agg (c64 (El ((1 : Fin m))))) ∧ Mem (All w) w w' []) := by
  have hm0 := hm
  obtain ⟨fr, hrow⟩ := hm0
  have hS : All w mb := hm.S
  refine calls_of_st (n := 7) (args := [pt mb 0]) Tryd.func96 rfl Tryd.ntmps96 (Nat.le_of_ble_eq_true rfl) (Mem.all w) ?_
  refine st_seq ?_
  refine st_region ?_
  refine st_alloc tyZ81 (by decide) (cs := c64 (List.replicate 4 0#64)) (rfl) (fun b1 hb1 => ?_)
  refine st_nil ?_
  refine st_then ?_
  refine st_seq ?_
  refine st_region ?_
  refine st_v (rv_move rfl) (by decide) ?_
  refine st_v (rv_nilCheck rfl) (by decide) ?_
  refine st_v (rv_fieldAddr (k := 5) Tryd.underlying142 (fs := _) rfl sz79 rfl rfl) (by decide) ?_
  refine st_v (rv_loadA_old tyA79 rfl hrow hS (by first | omega | (simp; done) | (simp <;> omega)) (ext64 _ _ _)) (by decide) ?_
  rw [modW_one, El_one hg]
  refine st_storeW64 rfl rfl (i := 0) rfl sz81 (by first | omega | (simp; done) | (simp <;> omega)) (by first | omega | (simp; done) | (simp <;> omega)) (l' := [_]) rfl ?_
  refine st_nil ?_
  refine st_then ?_
  refine st_ret ?_
  exact st_doneC tyA81 rfl rfl (i := 0) rfl (by first | omega | (simp <;> omega)) (fun w hM => ⟨rfl, hM.sublist (List.nil_sublist _)⟩)
set_option maxRecDepth 20000 in
theorem To_calls {m : Nat} [NeZero m] (hg : Good m) (mb : Nat) (n : Nat) (hn : n < m) (w : World) (hm : ModAt w mb m) : Calls Tryd.prog 56 #[pt mb 0, .agg (c64 (w64 4 (n)))] w (fun r w' => r = .returned (.agg (c64 (El (Fin.ofNat m n)))) ∧ Mem (All w) w w' []) := by
  have hm0 := hm
  obtain ⟨fr, hrow⟩ := hm0
  have hS : All w mb := hm.S
  refine calls_of_st (n := 12) (args := [pt mb 0, .agg (c64 (w64 4 (n)))]) Tryd.func56 rfl Tryd.ntmps56 (Nat.le_of_ble_eq_true rfl) (Mem.all w) ?_
  refine st_seq ?_
  refine st_region ?_
  refine st_box rfl (by decide) (cs := c64 (w64 4 n)) rfl (fun b1 hb1 => ?_)
  refine st_alloc tyZ81 (by decide) (cs := c64 (List.replicate 4 0#64)) (rfl) (fun b2 hb2 => ?_)
  refine st_nil ?_
  refine st_then ?_
  refine st_seq ?_
  refine st_drawStart mixed ?_
  refine st_drawSeg1 (E0 := [(0, _), (3, _), (4, _)]) [kpeq _, kpeq _, kpeq _, kpeq _, kpeq _, kpeq _] 0 6 [0, 0, 0, 4, 12, 28, 63, 127] [0, 3, 4] (by kernel_rfl) (by decide) (by kernel_rfl) (.cons rfl (.cons rfl (.cons rfl (.nil _)))) rfl rfl (hall_cons (hop_mv rfl (by decide) rfl rfl) (hall_cons (hop_val [] [] rfl rfl rfl (by decide) rfl (jnil) (xnil) (fun _ _ _ _ => does_v (rv_loadW_blk tyA79 rfl (i := 1) rfl (by first | omega | (simp [length_mulW]; done) | (simp [length_mulW] <;> omega))))) (hall_cons (hop_mv rfl (by decide) rfl rfl) (hall_cons (hop_val [(2, 7, _)] [] rfl rfl rfl (by decide) rfl (jcons rfl rfl rfl rfl rfl (jnil)) (xnil) (fun _ _ _ _ => does_v (rv_nilCheck rfl))) (hall_cons (hop_val [(3, 8, _)] [] rfl rfl rfl (by decide) rfl (jcons rfl rfl rfl rfl rfl (jnil)) (xnil) (fun _ _ _ _ => does_v (rv_fieldAddr (k := 9) Tryd.underlying142 (fs := _) rfl sz79 rfl rfl))) (hall_cons (hop_val [(4, 9, _)] [] rfl rfl rfl (by decide) rfl (jcons rfl rfl rfl rfl rfl (jnil)) (xnil) (fun _ _ _ _ => does_v (rv_loadA_old tyA79 rfl hrow hS (by first | omega | (simp [length_mulW]; done) | (simp [length_mulW] <;> omega)) (ext64 _ _ _)))) (hall_nil))))))) (draw_end1 [(0, 5, _), (1, 6, _), (5, 10, _)] (jcons rfl rfl rfl rfl rfl (jcons rfl rfl rfl rfl rfl (jcons rfl rfl rfl rfl rfl (jnil)))) ?_)
  refine st_drawTail (N := 6) [0, 0, 0, 4, 12, 28, 63, 127] (by kernel_rfl) (by kernel_rfl) ?_
  refine st_call0 cal94 rfl (fun w hM => (MulW_calls mb _ _ (by simp) (by simp) w (hm.at hM))) (by decide) ?_
  refine st_storeW64 rfl rfl (i := 0) rfl sz81 (by first | omega | (simp [length_mulW]; done) | (simp [length_mulW] <;> omega)) (by first | omega | (simp [length_mulW]; done) | (simp [length_mulW] <;> omega)) (l' := [_, _]) rfl ?_
  refine st_nil ?_
  refine st_then ?_
  refine st_ret ?_
  exact st_doneC tyA81 rfl rfl (i := 0) rfl (by first | omega | (simp [length_mulW] <;> omega)) (fun w hM => ⟨by rw [modW_sq, mulW_to hg hn], hM.sublist (List.nil_sublist _)⟩)
set_option maxRecDepth 20000 in
theorem int_calls (a : List (BitVec 64)) (ha : a.length = 4) (w : World) : Calls Tryd.prog 95 #[.agg (c64 (a))] w (fun r w' => r = .returned (.agg (c64 (a))) ∧ Mem (All w) w w' []) := by
  refine calls_of_st (n := 4) (args := [.agg (c64 (a))]) Tryd.func95 rfl Tryd.ntmps95 (Nat.le_of_ble_eq_true rfl) (Mem.all w) ?_
  refine st_seq ?_
  refine st_region ?_
  refine st_box rfl (by decide) (cs := c64 (a)) rfl (fun b1 hb1 => ?_)
  refine st_alloc tyZ79 (by decide) (cs := c64 (List.replicate 4 0#64)) (rfl) (fun b2 hb2 => ?_)
  refine st_nil ?_
  refine st_then ?_
  refine st_seq ?_
  refine st_region ?_
  refine st_v (rv_loadW_blk tyA81 rfl (i := 1) rfl (by first | omega | (simp [ha]; done) | (simp [ha] <;> omega))) (by decide) ?_
  refine st_storeW64 rfl rfl (i := 0) rfl sz79 (by first | omega | (simp [ha]; done) | (simp [ha] <;> omega)) (by first | omega | (simp [ha]; done) | (simp [ha] <;> omega)) (l' := [_, _]) rfl ?_
  refine st_nil ?_
  refine st_then ?_
  refine st_ret ?_
  exact st_doneC tyA79 rfl rfl (i := 0) rfl (by first | omega | (simp [ha] <;> omega)) (fun w hM => ⟨rfl, hM.sublist (List.nil_sublist _)⟩)
set_option maxRecDepth 20000 in
theorem From_calls {m : Nat} [NeZero m] (hg : Good m) (mb : Nat) (x : Fin m) (w : World) (hm : ModAt w mb m) : Calls Tryd.prog 50 #[pt mb 0, .agg (c64 (El (x)))] w (fun r w' => r = .returned (.agg (c64 (w64 4 (x.val)))) ∧ Mem (All w) w w' []) := by
  have hm0 := hm
  obtain ⟨fr, hrow⟩ := hm0
  have hS : All w mb := hm.S
  refine calls_of_st (n := 10) (args := [pt mb 0, .agg (c64 (El (x)))]) Tryd.func50 rfl Tryd.ntmps50 (Nat.le_of_ble_eq_true rfl) (Mem.all w) ?_
  refine st_seq ?_
  refine st_region ?_
  refine st_box rfl (by decide) (cs := c64 (El x)) rfl (fun b1 hb1 => ?_)
  refine st_alloc tyZ79 (by decide) (cs := c64 (List.replicate 4 0#64)) (rfl) (fun b2 hb2 => ?_)
  refine st_nil ?_
  refine st_then ?_
  refine st_seq ?_
  refine st_region ?_
  refine st_v (rv_move rfl) (by decide) ?_
  refine st_v (rv_loadW_blk tyA81 rfl (i := 1) rfl (by first | omega | (simp [length_mulW]; done) | (simp [length_mulW] <;> omega))) (by decide) ?_
  refine st_v (rv_buildArray_of Tryd.underlying81 tyZ81 sz77 rfl (cs := c64 [1#64, 0#64, 0#64, 0#64]) (by rfl)) (by decide) ?_
  refine st_call0 cal94 rfl (fun w hM => (MulW_calls mb _ _ (by simp) (by simp) w (hm.at hM))) (by decide) ?_
  rw [show ([1#64, 0#64, 0#64, 0#64] : List (BitVec 64)) = w64 4 1 from rfl, mulW_from hg]
  refine st_call0 cal95 rfl (fun w hM => (int_calls _ (by simp [length_mulW]) w)) (by decide) ?_
  refine st_storeW64 rfl rfl (i := 0) rfl sz79 (by first | omega | (simp [length_mulW]; done) | (simp [length_mulW] <;> omega)) (by first | omega | (simp [length_mulW]; done) | (simp [length_mulW] <;> omega)) (l' := [_, _]) rfl ?_
  refine st_nil ?_
  refine st_then ?_
  refine st_ret ?_
  exact st_doneC tyA79 rfl rfl (i := 0) rfl (by first | omega | (simp [length_mulW] <;> omega)) (fun w hM => ⟨rfl, hM.sublist (List.nil_sublist _)⟩)
set_option maxRecDepth 20000 in
theorem Small_calls {m : Nat} [NeZero m] (hg : Good m) (mb : Nat) (n : Nat) (hn : n < 18446744073709551616) (w : World) (hm : ModAt w mb m) : Calls Tryd.prog 53 #[pt mb 0, U64 (BitVec.ofNat 64 n)] w (fun r w' => r = .returned (.agg (c64 (El (Fin.ofNat m n)))) ∧ Mem (All w) w w' []) := by
  have hm0 := hm
  obtain ⟨fr, hrow⟩ := hm0
  have hS : All w mb := hm.S
  have hlt : n < m := by have := hg.ge; omega
  refine calls_of_st (n := 9) (args := [pt mb 0, U64 (BitVec.ofNat 64 n)]) Tryd.func53 rfl Tryd.ntmps53 (Nat.le_of_ble_eq_true rfl) (Mem.all w) ?_
  refine st_seq ?_
  refine st_region ?_
  refine st_alloc tyZ81 (by decide) (cs := c64 (List.replicate 4 0#64)) (rfl) (fun b1 hb1 => ?_)
  refine st_nil ?_
  refine st_then ?_
  refine st_seq ?_
  refine st_region ?_
  refine st_v (rv_move rfl) (by decide) ?_
  refine st_v (rv_move rfl) (by decide) ?_
  refine st_v (rv_buildArray_of Tryd.underlying79 tyZ79 sz77 rfl (cs := c64 [BitVec.ofNat 64 n, 0#64, 0#64, 0#64]) (by rfl)) (by decide) ?_
  rw [small_w hn]
  refine st_call0 cal56 rfl (fun w hM => (To_calls hg mb n hlt w (hm.at hM))) (by decide) ?_
  refine st_storeW64 rfl rfl (i := 0) rfl sz81 (by first | omega | (simp; done) | (simp <;> omega)) (by first | omega | (simp; done) | (simp <;> omega)) (l' := [_]) rfl ?_
  refine st_nil ?_
  refine st_then ?_
  refine st_ret ?_
  exact st_doneC tyA81 rfl rfl (i := 0) rfl (by first | omega | (simp <;> omega)) (fun w hM => ⟨rfl, hM.sublist (List.nil_sublist _)⟩)
set_option maxRecDepth 20000 in
theorem Add_calls {m : Nat} [NeZero m] (hg : Good m) (mb : Nat) (x y : Fin m) (w : World) (hm : ModAt w mb m) : Calls Tryd.prog 98 #[pt mb 0, .agg (c64 (El (x))), .agg (c64 (El (y)))] w (fun r w' => r = .returned (.agg (c64 (El (x + y)))) ∧ Mem (All w) w w' []) := by
  have hm0 := hm
  obtain ⟨fr, hrow⟩ := hm0
  have hS : All w mb := hm.S
  refine calls_of_st (n := 34) (args := [pt mb 0, .agg (c64 (El (x))), .agg (c64 (El (y)))]) Tryd.func98 rfl Tryd.ntmps98 (Nat.le_of_ble_eq_true rfl) (Mem.all w) ?_
  refine st_seq ?_
  refine st_region ?_
  refine st_box rfl (by decide) (cs := c64 (El x)) rfl (fun b1 hb1 => ?_)
  refine st_box rfl (by decide) (cs := c64 (El y)) rfl (fun b2 hb2 => ?_)
  refine st_alloc tyZ81 (by decide) (cs := c64 (List.replicate 4 0#64)) (rfl) (fun b3 hb3 => ?_)
  refine st_nil ?_
  refine st_then ?_
  refine st_seq ?_
  refine st_region ?_
  refine st_v (rv_loadW_blk tyA81 rfl (i := 2) rfl (by first | omega | (simp; done) | (simp <;> omega))) (by decide) ?_
  refine st_v (rv_loadW_blk tyA81 rfl (i := 1) rfl (by first | omega | (simp; done) | (simp <;> omega))) (by decide) ?_
  refine st_call0 cal129 rfl (fun w hM => (plus_calls _ _ (by simp) (by simp) w)) (by decide) ?_
  refine st_v (rv_move rfl) (by decide) ?_
  refine st_v (rv_extract rfl rfl) (by decide) ?_
  refine st_v (rv_extract rfl rfl) (by decide) ?_
  refine st_alloc tyZ79 (by decide) (cs := c64 (List.replicate 4 0#64)) (rfl) (fun b4 hb4 => ?_)
  refine st_storeW64 rfl rfl (i := 0) rfl sz79 (by first | omega | (simp; done) | (simp <;> omega)) (by first | omega | (simp; done) | (simp <;> omega)) (l' := [_, _, _, _]) rfl ?_
  refine st_v (rv_assign rfl) (by decide) ?_
  refine st_nil ?_
  refine st_then ?_
  refine st_seq ?_
  refine st_drawStart mixed ?_
  refine st_drawSeg (E0 := [(0, _), (6, _), (7, _), (8, _)]) [10] [kpeq _, kpeq _, kpeq _, kpeq _, kpeq _, kpeq _, kpeq _, kpeq _, kpeq _, kAl 0 (c64 (List.replicate 4 0#64)) _ 79, kany] (phs [10] [[kst _, kst _, kst _, kst _], [kst _, kst _, kst _, kst _]]) 0 11 [0, 0, 2, 6, 14, 31, 63, 127, 127, 0, 767, 2047] [0, 6, 7, 8] (by kernel_rfl) (by decide) (by decide) (by kernel_rfl) rfl rfl (phs_skip _) (.cons rfl (.cons rfl (.cons rfl (.cons rfl (.nil _))))) (fun _ h => h) (hall_cons (hop_valY [] [] [] rfl rfl rfl (by decide) rfl (jnil) (xnil) (ynil) (fun p h1 h2 vals => by obtain rfl : p = 0 := Nat.le_antisymm h2 h1; exact does_v (rv_loadW_blk tyA79 rfl (i := 0) rfl (by first | omega | (simp; done) | (simp <;> omega))))) (hall_cons (hop_valY [] [] [] rfl rfl rfl (by decide) rfl (jnil) (xnil) (ynil) (fun p h1 h2 vals => by obtain rfl : p = 0 := Nat.le_antisymm h2 h1; exact does_v (rv_move rfl))) (hall_cons (hop_valY [(1, 19, _)] [] [] rfl rfl rfl (by decide) rfl (jcons rfl rfl rfl rfl rfl (jnil)) (xnil) (ynil) (fun p h1 h2 vals => by obtain rfl : p = 0 := Nat.le_antisymm h2 h1; exact does_v (rv_nilCheck rfl))) (hall_cons (hop_valY [(2, 20, _)] [] [] rfl rfl rfl (by decide) rfl (jcons rfl rfl rfl rfl rfl (jnil)) (xnil) (ynil) (fun p h1 h2 vals => by obtain rfl : p = 0 := Nat.le_antisymm h2 h1; exact does_v (rv_fieldAddr (k := 0) Tryd.underlying142 (fs := _) rfl sz79 rfl rfl))) (hall_cons (hop_valY [(3, 21, _)] [] [] rfl rfl rfl (by decide) rfl (jcons rfl rfl rfl rfl rfl (jnil)) (xnil) (ynil) (fun p h1 h2 vals => by obtain rfl : p = 0 := Nat.le_antisymm h2 h1; exact does_v (rv_loadA_old tyA79 rfl hrow hS (by first | omega | (simp; done) | (simp <;> omega)) (ext64 _ _ _)))) (hall_cons (hop_valY [(0, 18, _), (4, 22, _)] [] [] rfl rfl rfl (by decide) rfl (jcons rfl rfl rfl rfl rfl (jcons rfl rfl rfl rfl rfl (jnil))) (xnil) (ynil) (fun p h1 h2 vals => by obtain rfl : p = 0 := Nat.le_antisymm h2 h1; exact does_call0 cal128 rfl (fun w hM => (minus_calls _ _ (by simp) (by simp) w)))) (hall_cons (hop_valY [(5, 23, _)] [] [] rfl rfl rfl (by decide) rfl (jcons rfl rfl rfl rfl rfl (jnil)) (xnil) (ynil) (fun p h1 h2 vals => by obtain rfl : p = 0 := Nat.le_antisymm h2 h1; exact does_v (rv_move rfl))) (hall_cons (hop_valY [(6, 17, _)] [] [] rfl rfl rfl (by decide) rfl (jcons rfl rfl rfl rfl rfl (jnil)) (xnil) (ynil) (fun p h1 h2 vals => by obtain rfl : p = 0 := Nat.le_antisymm h2 h1; exact does_v (rv_extract rfl rfl))) (hall_cons (hop_valY [(6, 17, _)] [] [] rfl rfl rfl (by decide) rfl (jcons rfl rfl rfl rfl rfl (jnil)) (xnil) (ynil) (fun p h1 h2 vals => by
    have h1 : 0 ≤ p := h1
    have h2 : p ≤ 1 := h2
    obtain rfl | rfl : p = 0 ∨ p = 1 := by omega
    all_goals exact does_v (rv_extract rfl rfl))) (hall_cons (hop_valY [] [] [] rfl rfl rfl (by decide) rfl (jnil) (xnil) (ynil) (fun p h1 h2 vals => by obtain rfl : p = 0 := Nat.le_antisymm h2 h1; exact does_alloc tyZ79 (rfl))) (hall_cons (hop_memC 9 9 _ [(7, 24, _)] [] rfl rfl rfl (fun d h => by cases h) rfl rfl rfl (⟨.inr fun _ => rfl, ⟨.inr fun _ => rfl, ⟨.inr fun _ => rfl, ⟨.inr fun _ => rfl, ⟨.inr fun _ => rfl, ⟨.inr fun _ => rfl, ⟨.inr fun _ => rfl, ⟨.inr fun _ => rfl, ⟨.inr fun _ => rfl, ⟨.inl rfl, ⟨.inr fun _ => rfl, trivial⟩⟩⟩⟩⟩⟩⟩⟩⟩⟩⟩) (jcons rfl rfl rfl rfl rfl (jnil)) (ynil) (fun vals => dm_storeV64 rfl rfl (i := 0) rfl sz79 (by first | omega | (simp <;> omega)) (by first | omega | (simp <;> omega)) (fun v u => rfl))) (hall_nil)))))))))))) (draw_endY [(8, 25, _)] [(9, 9, kAl 0 (c64 (List.replicate 4 0#64)) _ 79)] [] rfl (jcons rfl rfl rfl rfl rfl (jnil)) (xcons rfl rfl rfl rfl rfl rfl (xnil)) (ynil) (fun vals => ?_))
  refine St.conv (E' := [(9, vals 9), (25, _), (0, _), (6, _), (7, _), (8, _)]) (l1 := [blkV (c64 _) 79 (vals 9), _, _, _, _]) rfl rfl ?_
  try dsimp only [kst]
  refine st_openV (i := 0) rfl (fun b6 hb6 => ?_)
  rw [hb6]
  refine st_drawTail (N := 11) [0, 0, 2, 6, 14, 31, 63, 127, 127, 0, 767, 2047] (by kernel_rfl) (by kernel_rfl) ?_
  refine st_v (rv_assign rfl) (by decide) ?_
  refine st_nil ?_
  refine st_then ?_
  refine st_seq ?_
  refine st_seq ?_
  refine st_region ?_
  refine st_v (rv_move rfl) (by decide) ?_
  refine st_v (rv_eql64 (b := 0#64) rfl rfl) (by decide) ?_
  refine st_v (rv_move rfl) (by decide) ?_
  refine' st_and 3 (L := _) (s := 28) (d := 31) [6, 7, 9] rfl (fun hg3 => ?_) (fun _ => ?_) ?_; rotate_left
  · -- true
    try simp only [decide_eq_true_eq, decide_eq_false_iff_not, Bool.and_eq_true, Bool.not_eq_true] at hg3
    refine st_gon rfl rfl ?_
    refine st_v (rv_move rfl) (by decide) ?_
    refine st_gon rfl rfl ?_
    refine st_v (rv_eql64 (b := 1#64) rfl rfl) (by decide) ?_
    first | refine st_v (rv_pick_true rfl rfl) (by decide) ?_ | refine st_v (rv_pick_false rfl rfl) (by decide) ?_ | refine st_v (rv_pick rfl rfl rfl) (by decide) ?_
    refine st_nil ?_
    exact st_meet_b (.cons rfl (.cons rfl (.cons rfl (.cons rfl (.nil _)))))
  · -- false
    refine st_gskip rfl rfl rfl (by decide) ?_
    refine st_gskip rfl rfl rfl (by decide) ?_
    first | refine st_v (rv_pick_true rfl rfl) (by decide) ?_ | refine st_v (rv_pick_false rfl rfl) (by decide) ?_ | refine st_v (rv_pick rfl rfl rfl) (by decide) ?_
    refine st_nil ?_
    exact st_meet_b (.cons rfl (.cons rfl (.cons rfl (.cons rfl (.nil _)))))
  refine st_nil ?_
  refine st_then ?_
  refine st_cond rfl (fun hc31 => ?_) (fun hc31 => ?_)
  · -- t31 True
    try simp only [z1, z2, z3, z4, z5, z6, z7, z8, z9, z10, z11, z12, z13, z14] at hc31
    have hW : addW (w64 4 m) (El x) (El y) = plusS (El x) (El y) 4 := if_pos hc31
    refine st_seq ?_
    refine st_region ?_
    refine st_v (rv_loadW_blk tyA79 rfl (i := 1) rfl (by first | omega | (simp; done) | (simp <;> omega))) (by decide) ?_
    refine st_storeW64 rfl rfl (i := 2) rfl sz81 (by first | omega | (simp; done) | (simp <;> omega)) (by first | omega | (simp; done) | (simp <;> omega)) (l' := [_, _, _, _, _]) rfl ?_
    refine st_nil ?_
    refine st_then ?_
    refine st_ret ?_
    refine st_then_ret ?_
    exact st_doneC tyA81 rfl rfl (i := 2) rfl (by first | omega | (simp <;> omega)) (fun w hM => ⟨by rw [← addW_El hg, hW]; try rfl, hM.sublist (List.nil_sublist _)⟩)
  · -- t31 False
    try simp only [z1, z2, z3, z4, z5, z6, z7, z8, z9, z10, z11, z12, z13, z14] at hc31
    have hW : addW (w64 4 m) (El x) (El y) = minS (plusS (El x) (El y) 4) (w64 4 m) 4 := if_neg (fun h => hc31.elim (fun k => k h.1) (fun k => k h.2))
    refine st_skip ?_
    refine st_then ?_
    refine st_seq ?_
    refine st_region ?_
    refine st_v (rv_loadW_blk tyA79 rfl (i := 0) rfl (by first | omega | (simp; done) | (simp <;> omega))) (by decide) ?_
    refine st_storeW64 rfl rfl (i := 2) rfl sz81 (by first | omega | (simp; done) | (simp <;> omega)) (by first | omega | (simp; done) | (simp <;> omega)) (l' := [_, _, _, _, _]) rfl ?_
    refine st_nil ?_
    refine st_then ?_
    refine st_ret ?_
    exact st_doneC tyA81 rfl rfl (i := 2) rfl (by first | omega | (simp <;> omega)) (fun w hM => ⟨by rw [← addW_El hg, hW]; try rfl, hM.sublist (List.nil_sublist _)⟩)
set_option maxRecDepth 20000 in
theorem Sub_calls {m : Nat} [NeZero m] (hg : Good m) (mb : Nat) (x y : Fin m) (w : World) (hm : ModAt w mb m) : Calls Tryd.prog 99 #[pt mb 0, .agg (c64 (El (x))), .agg (c64 (El (y)))] w (fun r w' => r = .returned (.agg (c64 (El (x - y)))) ∧ Mem (All w) w w' []) := by
  have hm0 := hm
  obtain ⟨fr, hrow⟩ := hm0
  have hS : All w mb := hm.S
  refine calls_of_st (n := 27) (args := [pt mb 0, .agg (c64 (El (x))), .agg (c64 (El (y)))]) Tryd.func99 rfl Tryd.ntmps99 (Nat.le_of_ble_eq_true rfl) (Mem.all w) ?_
  refine st_seq ?_
  refine st_region ?_
  refine st_box rfl (by decide) (cs := c64 (El x)) rfl (fun b1 hb1 => ?_)
  refine st_box rfl (by decide) (cs := c64 (El y)) rfl (fun b2 hb2 => ?_)
  refine st_alloc tyZ81 (by decide) (cs := c64 (List.replicate 4 0#64)) (rfl) (fun b3 hb3 => ?_)
  refine st_nil ?_
  refine st_then ?_
  refine st_seq ?_
  refine st_region ?_
  refine st_v (rv_loadW_blk tyA81 rfl (i := 2) rfl (by first | omega | (simp; done) | (simp <;> omega))) (by decide) ?_
  refine st_v (rv_loadW_blk tyA81 rfl (i := 1) rfl (by first | omega | (simp; done) | (simp <;> omega))) (by decide) ?_
  refine st_call0 cal128 rfl (fun w hM => (minus_calls _ _ (by simp) (by simp) w)) (by decide) ?_
  refine st_v (rv_move rfl) (by decide) ?_
  refine st_v (rv_extract rfl rfl) (by decide) ?_
  refine st_v (rv_extract rfl rfl) (by decide) ?_
  refine st_alloc tyZ79 (by decide) (cs := c64 (List.replicate 4 0#64)) (rfl) (fun b4 hb4 => ?_)
  refine st_storeW64 rfl rfl (i := 0) rfl sz79 (by first | omega | (simp; done) | (simp <;> omega)) (by first | omega | (simp; done) | (simp <;> omega)) (l' := [_, _, _, _]) rfl ?_
  refine st_v (rv_assign rfl) (by decide) ?_
  refine st_nil ?_
  refine st_then ?_
  refine st_seq ?_
  refine st_seq ?_
  refine st_region ?_
  refine st_v (rv_move rfl) (by decide) ?_
  refine st_v (rv_eql64 (b := 1#64) rfl rfl) (by decide) ?_
  refine st_nil ?_
  refine st_then ?_
  refine st_cond rfl (fun hc16 => ?_) (fun hc16 => ?_)
  · -- t16 True
    try simp only [z1, z2, z3, z4, z5, z6, z7, z8, z9, z10, z11, z12, z13, z14] at hc16
    have hW : subW (w64 4 m) (El x) (El y) = plusS (minS (El x) (El y) 4) (w64 4 m) 4 := if_pos hc16
    refine st_drawStart mixed ?_
    refine st_drawSeg1 (E0 := [(0, _), (6, _), (7, _)]) [kpeq _, kpeq _, kpeq _, kpeq _, kpeq _] 0 5 [0, 0, 2, 6, 14, 31, 63, 127, 127, 255] [0, 6, 7] (by kernel_rfl) (by decide) (by kernel_rfl) (.cons rfl (.cons rfl (.cons rfl (.nil _)))) rfl rfl (hall_cons (hop_val [] [] rfl rfl rfl (by decide) rfl (jnil) (xnil) (fun _ _ _ _ => does_v (rv_loadW_blk tyA79 rfl (i := 0) rfl (by first | omega | (simp; done) | (simp <;> omega))))) (hall_cons (hop_mv rfl (by decide) rfl rfl) (hall_cons (hop_val [(1, 19, _)] [] rfl rfl rfl (by decide) rfl (jcons rfl rfl rfl rfl rfl (jnil)) (xnil) (fun _ _ _ _ => does_v (rv_nilCheck rfl))) (hall_cons (hop_val [(2, 20, _)] [] rfl rfl rfl (by decide) rfl (jcons rfl rfl rfl rfl rfl (jnil)) (xnil) (fun _ _ _ _ => does_v (rv_fieldAddr (k := 0) Tryd.underlying142 (fs := _) rfl sz79 rfl rfl))) (hall_cons (hop_val [(3, 21, _)] [] rfl rfl rfl (by decide) rfl (jcons rfl rfl rfl rfl rfl (jnil)) (xnil) (fun _ _ _ _ => does_v (rv_loadA_old tyA79 rfl hrow hS (by first | omega | (simp; done) | (simp <;> omega)) (ext64 _ _ _)))) (hall_nil)))))) (draw_end1 [(0, 18, _), (4, 22, _)] (jcons rfl rfl rfl rfl rfl (jcons rfl rfl rfl rfl rfl (jnil))) ?_)
    refine st_drawOp [0, 0, 2, 6, 14, 31, 63, 127, 127, 255] (by kernel_rfl) rfl ?_
    refine st_call0 cal129 rfl (fun w hM => (plus_calls _ _ (by simp) (by simp) w)) (by decide) ?_
    refine st_nil ?_
    refine st_then ?_
    refine st_drawOp [0, 0, 2, 6, 14, 31, 63, 127, 127, 255] (by kernel_rfl) rfl ?_
    refine st_v (rv_move rfl) (by decide) ?_
    refine st_nil ?_
    refine st_then ?_
    refine st_drawSeg (E0 := [(6, _), (7, _), (17, _)]) [9] [kany, kany, kany, kany, kany, kany, kany, kpeq _, kpeq _, kany] (phs [9] [[kst _, kst _, kst _, kst _], [kst (blk _ _ _), kst _, kst _, kst _]]) 7 10 [0, 0, 2, 6, 14, 31, 63, 127, 127, 255] [6, 7, 17] (by kernel_rfl) (by decide) (by decide) (by kernel_rfl) rfl rfl (phs_skip _) (.cons rfl (.cons rfl (.cons rfl (.nil _)))) (fun _ h => h) (hall_skip rfl (hall_skip rfl (hall_skip rfl (hall_skip rfl (hall_skip rfl (hall_skip rfl (hall_skip rfl (hall_cons (hop_valY [] [] [] rfl rfl rfl (by decide) rfl (jnil) (xnil) (ynil) (fun p h1 h2 vals => by obtain rfl : p = 0 := Nat.le_antisymm h2 h1; exact does_v (rv_extract rfl rfl))) (hall_cons (hop_valY [] [] [] rfl rfl rfl (by decide) rfl (jnil) (xnil) (ynil) (fun p h1 h2 vals => by
    have h1 : 0 ≤ p := h1
    have h2 : p ≤ 1 := h2
    obtain rfl | rfl : p = 0 ∨ p = 1 := by omega
    all_goals exact does_v (rv_extract rfl rfl))) (hall_cons (hop_mem [(7, 24, _)] [] [] rfl rfl rfl (fun d h => by cases h) (⟨fun _ => rfl, ⟨fun _ => rfl, ⟨fun _ => rfl, ⟨fun _ => rfl, ⟨fun _ => rfl, ⟨fun _ => rfl, ⟨fun _ => rfl, ⟨fun _ => rfl, ⟨fun _ => rfl, ⟨fun _ => rfl, trivial⟩⟩⟩⟩⟩⟩⟩⟩⟩⟩) (jcons rfl rfl rfl rfl rfl (jnil)) (xnil) (ynil) (fun vals => dm_storeW64 rfl rfl (i := 0) rfl sz79 (by first | omega | (simp <;> omega)) (by first | omega | (simp <;> omega)) (fun v u => rfl))) (hall_nil))))))))))) (draw_endY [] [] [] rfl (jnil) (xnil) (ynil) (fun vals => ?_))
    refine St.conv (E' := [(6, _), (7, _), (17, _)]) (l1 := [_, _, _, _]) rfl rfl ?_
    try dsimp only [kst]
    refine st_drawTail (N := 10) [0, 0, 2, 6, 14, 31, 63, 127, 127, 255] (by kernel_rfl) (by kernel_rfl) ?_
    refine st_nil ?_
    refine st_then ?_
    refine st_seq ?_
    refine st_region ?_
    refine st_v (rv_loadW_blk tyA79 rfl (i := 0) rfl (by first | omega | (simp; done) | (simp <;> omega))) (by decide) ?_
    refine st_storeW64 rfl rfl (i := 1) rfl sz81 (by first | omega | (simp; done) | (simp <;> omega)) (by first | omega | (simp; done) | (simp <;> omega)) (l' := [_, _, _, _]) rfl ?_
    refine st_nil ?_
    refine st_then ?_
    refine st_ret ?_
    exact st_doneC tyA81 rfl rfl (i := 1) rfl (by first | omega | (simp <;> omega)) (fun w hM => ⟨by rw [← subW_El hg, hW]; try rfl, hM.sublist (List.nil_sublist _)⟩)
  · -- t16 False
    try simp only [z1, z2, z3, z4, z5, z6, z7, z8, z9, z10, z11, z12, z13, z14] at hc16
    have hW : subW (w64 4 m) (El x) (El y) = minS (El x) (El y) 4 := if_neg hc16
    refine st_skip ?_
    refine st_then ?_
    refine st_seq ?_
    refine st_region ?_
    refine st_v (rv_loadW_blk tyA79 rfl (i := 0) rfl (by first | omega | (simp; done) | (simp <;> omega))) (by decide) ?_
    refine st_storeW64 rfl rfl (i := 1) rfl sz81 (by first | omega | (simp; done) | (simp <;> omega)) (by first | omega | (simp; done) | (simp <;> omega)) (l' := [_, _, _, _]) rfl ?_
    refine st_nil ?_
    refine st_then ?_
    refine st_ret ?_
    exact st_doneC tyA81 rfl rfl (i := 1) rfl (by first | omega | (simp <;> omega)) (fun w hM => ⟨by rw [← subW_El hg, hW]; try rfl, hM.sublist (List.nil_sublist _)⟩)
set_option maxRecDepth 20000 in
theorem Square_calls {m : Nat} [NeZero m] (hg : Good m) (mb : Nat) (x : Fin m) (w : World) (hm : ModAt w mb m) : Calls Tryd.prog 100 #[pt mb 0, .agg (c64 (El (x)))] w (fun r w' => r = .returned (.agg (c64 (El (x * x)))) ∧ Mem (All w) w w' []) := by
  have hm0 := hm
  obtain ⟨fr, hrow⟩ := hm0
  have hS : All w mb := hm.S
  refine calls_of_st (n := 9) (args := [pt mb 0, .agg (c64 (El (x)))]) Tryd.func100 rfl Tryd.ntmps100 (Nat.le_of_ble_eq_true rfl) (Mem.all w) ?_
  refine st_seq ?_
  refine st_region ?_
  refine st_box rfl (by decide) (cs := c64 (El x)) rfl (fun b1 hb1 => ?_)
  refine st_alloc tyZ81 (by decide) (cs := c64 (List.replicate 4 0#64)) (rfl) (fun b2 hb2 => ?_)
  refine st_nil ?_
  refine st_then ?_
  refine st_seq ?_
  refine st_region ?_
  refine st_v (rv_move rfl) (by decide) ?_
  refine st_v (rv_loadW_blk tyA81 rfl (i := 1) rfl (by first | omega | (simp; done) | (simp <;> omega))) (by decide) ?_
  refine st_v (rv_loadW_blk tyA81 rfl (i := 1) rfl (by first | omega | (simp; done) | (simp <;> omega))) (by decide) ?_
  refine st_call0 cal94 rfl (fun w hM => (Mul_calls hg mb _ _ w (hm.at hM))) (by decide) ?_
  refine st_storeW64 rfl rfl (i := 0) rfl sz81 (by first | omega | (simp; done) | (simp <;> omega)) (by first | omega | (simp; done) | (simp <;> omega)) (l' := [_, _]) rfl ?_
  refine st_nil ?_
  refine st_then ?_
  refine st_ret ?_
  exact st_doneC tyA81 rfl rfl (i := 0) rfl (by first | omega | (simp <;> omega)) (fun w hM => ⟨rfl, hM.sublist (List.nil_sublist _)⟩)
set_option maxRecDepth 20000 in
theorem Neg_calls {m : Nat} [NeZero m] (hg : Good m) (mb : Nat) (x : Fin m) (w : World) (hm : ModAt w mb m) : Calls Tryd.prog 113 #[pt mb 0, .agg (c64 (El (x)))] w (fun r w' => r = .returned (.agg (c64 (El (-x)))) ∧ Mem (All w) w w' []) := by
  have hm0 := hm
  obtain ⟨fr, hrow⟩ := hm0
  have hS : All w mb := hm.S
  refine calls_of_st (n := 9) (args := [pt mb 0, .agg (c64 (El (x)))]) Tryd.func113 rfl Tryd.ntmps113 (Nat.le_of_ble_eq_true rfl) (Mem.all w) ?_
  refine st_seq ?_
  refine st_region ?_
  refine st_box rfl (by decide) (cs := c64 (El x)) rfl (fun b1 hb1 => ?_)
  refine st_alloc tyZ81 (by decide) (cs := c64 (List.replicate 4 0#64)) (rfl) (fun b2 hb2 => ?_)
  refine st_nil ?_
  refine st_then ?_
  refine st_seq ?_
  refine st_region ?_
  refine st_v (rv_move rfl) (by decide) ?_
  refine st_v (rv_buildArray_of Tryd.underlying81 tyZ81 sz77 rfl (cs := c64 [0#64, 0#64, 0#64, 0#64]) (by rfl)) (by decide) ?_
  rw [El_zeroL (m := m)]
  refine st_v (rv_loadW_blk tyA81 rfl (i := 1) rfl (by first | omega | (simp; done) | (simp <;> omega))) (by decide) ?_
  refine st_call0 cal99 rfl (fun w hM => (Sub_calls hg mb _ _ w (hm.at hM))) (by decide) ?_
  refine st_storeW64 rfl rfl (i := 0) rfl sz81 (by first | omega | (simp; done) | (simp <;> omega)) (by first | omega | (simp; done) | (simp <;> omega)) (l' := [_, _]) rfl ?_
  refine st_nil ?_
  refine st_then ?_
  refine st_ret ?_
  exact st_doneC tyA81 rfl rfl (i := 0) rfl (by first | omega | (simp <;> omega)) (fun w hM => ⟨by rw [fneg_sub], hM.sublist (List.nil_sublist _)⟩)
set_option maxRecDepth 20000 in
theorem EZero_calls {m : Nat} [NeZero m] (hg : Good m) (x : Fin m) (w : World) : Calls Tryd.prog 58 #[.agg (c64 (El (x)))] w (fun r w' => r = .returned (.bool (decide (x = 0))) ∧ Mem (All w) w w' []) := by
  refine calls_of_st (n := 6) (args := [.agg (c64 (El (x)))]) Tryd.func58 rfl Tryd.ntmps58 (Nat.le_of_ble_eq_true rfl) (Mem.all w) ?_
  refine st_seq ?_
  refine st_region ?_
  refine st_box rfl (by decide) (cs := c64 (El x)) rfl (fun b1 hb1 => ?_)
  refine st_v (rv_assign rfl) (by decide) ?_
  refine st_nil ?_
  refine st_then ?_
  refine st_seq ?_
  refine st_region ?_
  refine st_v (rv_loadW_blk tyA81 rfl (i := 0) rfl (by first | omega | (simp; done) | (simp <;> omega))) (by decide) ?_
  refine st_v (rv_buildArray_of Tryd.underlying81 tyZ81 sz77 rfl (cs := c64 [0#64, 0#64, 0#64, 0#64]) (by rfl)) (by decide) ?_
  rw [El_zeroL (m := m)]
  refine st_v (rv_eqlA64 Tryd.underlying81 Tryd.underlying77 sz77 (by first | omega | (simp <;> omega)) (by first | omega | (simp <;> omega)) (by kernel_rfl) rfl rfl) (by decide) ?_
  refine st_v (rv_assign rfl) (by decide) ?_
  refine st_nil ?_
  refine st_then ?_
  refine st_ret ?_
  exact st_done rfl rfl (fun w hM => ⟨by simp only [El_inj hg], hM.sublist (List.nil_sublist _)⟩)
set_option maxRecDepth 20000 in
theorem Bit_calls (n i : Nat) (hi : i < 256) (w : World) : Calls Tryd.prog 97 #[.agg (c64 (w64 4 (n))), vI (i : Nat)] w (fun r w' => r = .returned (U64 (BitVec.ofNat 64 (n / 2 ^ i % 2))) ∧ Mem (All w) w w' []) := by
  refine calls_of_st (n := 13) (args := [.agg (c64 (w64 4 (n))), vI (i : Nat)]) Tryd.func97 rfl Tryd.ntmps97 (Nat.le_of_ble_eq_true rfl) (Mem.all w) ?_
  refine st_seq ?_
  refine st_region ?_
  refine st_box rfl (by decide) (cs := c64 (w64 4 n)) rfl (fun b1 hb1 => ?_)
  refine st_v (rv_assign rfl) (by decide) ?_
  refine st_nil ?_
  refine st_then ?_
  refine st_seq ?_
  refine st_region ?_
  refine st_v (rv_move rfl) (by decide) ?_
  refine st_v (rv_quoN (b := 64) rfl rfl (by first | omega | (simp; done) | (simp; omega))) (by decide) ?_
  refine st_v (rv_indexA Tryd.underlying79 sz77 rfl rfl rfl (by first | omega | (simp <;> omega)) (by first | exact (Nat.zero_add _).trans (Nat.mul_one _) | exact congrArg _ (Nat.mul_one _) | exact Nat.zero_add _ | rfl)) (by decide) ?_
  refine st_v (rv_load_blk tyS77 rfl (i := 0) rfl (cell64 (by first | omega | (simp <;> omega)))) (by decide) ?_
  refine st_v (rv_move rfl) (by decide) ?_
  refine st_v (rv_remN (b := 64) rfl rfl (by first | omega | (simp; done) | (simp; omega))) (by decide) ?_
  refine st_v (rv_shr64 rfl rfl rfl) (by decide) ?_
  refine st_v (rv_and64 (b := 1#64) rfl rfl) (by decide) ?_
  refine st_v (rv_assign rfl) (by decide) ?_
  refine st_nil ?_
  refine st_then ?_
  refine st_ret ?_
  exact st_done rfl rfl (fun w hM => ⟨by rw [← bit_w64 hi], hM.sublist (List.nil_sublist _)⟩)
set_option maxRecDepth 20000 in
theorem Less_calls (a b : List (BitVec 64)) (ha : a.length = 4) (hb : b.length = 4) (w : World) : Calls Tryd.prog 116 #[.agg (c64 (a)), .agg (c64 (b))] w (fun r w' => r = .returned (.bool (decide (nw a < nw b))) ∧ Mem (All w) w w' []) := by
  refine calls_of_st (n := 15) (args := [.agg (c64 (a)), .agg (c64 (b))]) Tryd.func116 rfl Tryd.ntmps116 (Nat.le_of_ble_eq_true rfl) (Mem.all w) ?_
  refine st_seq ?_
  refine st_region ?_
  refine st_box rfl (by decide) (cs := c64 (a)) rfl (fun b1 hb1 => ?_)
  refine st_box rfl (by decide) (cs := c64 (b)) rfl (fun b2 hb2 => ?_)
  refine st_v (rv_assign rfl) (by decide) ?_
  refine st_nil ?_
  refine st_then ?_
  refine st_seq ?_
  refine st_region ?_
  refine st_v (rv_loadW_blk tyA79 rfl (i := 1) rfl (by first | omega | (simp [ha, hb]; done) | (simp [ha, hb] <;> omega))) (by decide) ?_
  refine st_v (rv_loadW_blk tyA79 rfl (i := 0) rfl (by first | omega | (simp [ha, hb]; done) | (simp [ha, hb] <;> omega))) (by decide) ?_
  refine st_call0 cal128 rfl (fun w hM => (minus_calls _ _ ha hb w)) (by decide) ?_
  refine st_v (rv_move rfl) (by decide) ?_
  refine st_v (rv_extract rfl rfl) (by decide) ?_
  refine st_v (rv_extract rfl rfl) (by decide) ?_
  refine st_alloc tyZ79 (by decide) (cs := c64 (List.replicate 4 0#64)) (rfl) (fun b3 hb3 => ?_)
  refine st_storeW64 rfl rfl (i := 0) rfl sz79 (by first | omega | (simp [ha, hb]; done) | (simp [ha, hb] <;> omega)) (by first | omega | (simp [ha, hb]; done) | (simp [ha, hb] <;> omega)) (l' := [_, _, _]) rfl ?_
  refine st_v (rv_assign rfl) (by decide) ?_
  refine st_nil ?_
  refine st_then ?_
  refine st_seq ?_
  refine st_region ?_
  refine st_v (rv_move rfl) (by decide) ?_
  refine st_v (rv_eql64 (b := 1#64) rfl rfl) (by decide) ?_
  refine st_v (rv_assign rfl) (by decide) ?_
  refine st_nil ?_
  refine st_then ?_
  refine st_ret ?_
  exact st_done rfl rfl (fun w hM => ⟨by rw [less_eq ha hb], hM.sublist (List.nil_sublist _)⟩)
end Go.Proofs.YtjhjjhpfjadjpaaDoor
