/- Walks: what functions of the given program do, operation by operation. Written by wip/gen. -/
import Derived.Test.YtjhjjhpfjadjpaaDoorHB
import Derived.Test.YtjhjjhpfjadjpaaDoorMI
namespace Go.Proofs.YtjhjjhpfjadjpaaDoor
set_option linter.all false
open Go
theorem blockSt32 (fp sb : Nat) (T : TypeId) (kv v vb : Value) (F : Fam 32) (hF : FamOk F) (h : List (BitVec 32)) (q : List (BitVec 8)) (fed : BitVec 64) (hh : h.length = 8) (hq : q.length = 64) (w : World) (hB : (blk sb (stC U32 fp h vb fed) T).holds w) (hA : (famA U32 185 fp kv F).holds w)
    (hAS : ∀ b, (famA U32 185 fp kv F).foot b → Old w (fun x => x = sb) b) (hQ : Rd w v 64 1 (q.map U8)) (hQS : ∀ b, vfoot v b → Old w (fun x => x = sb) b) :
    Calls Tryd.prog 168 #[pt fp 0, pt sb 1, v] w (fun e w' => e = .returned (.tuple #[]) ∧ Mem (Old w (fun x => x = sb)) w w' [blk sb (stC U32 fp (blockW F h q) vb fed) T]) := by
  have e : spl (stC U32 fp h vb fed) 1 (h.map U32) = stC U32 fp h vb fed := stC_spl hh hh
  have := block32_calls fp sb 1 T (stC U32 fp h vb fed) kv v F hF h q hh (by rw [size_stC hh]; decide) hq w (by rw [e]; exact hB) hA.1 (hAS fp (.inl rfl)) hA.2 (fun b hb => hAS b (.inr hb)) hQ hQS
  rwa [stC_spl hh (by rw [length_blockW]; exact hh)] at this
set_option maxRecDepth 20000 in
theorem size32_calls (sb : Nat) (w : World) : Calls Tryd.prog 164 #[pt sb 0] w (fun r w' => r = .returned (vI (64 : Nat)) ∧ Mem (All w) w w' []) := by
  refine calls_of_st (n := 5) (args := [pt sb 0]) Tryd.func164 rfl Tryd.ntmps164 (Nat.le_of_ble_eq_true rfl) (Mem.all w) ?_
  refine st_seq ?_
  refine st_region ?_
  refine st_v (rv_assign rfl) (by decide) ?_
  refine st_nil ?_
  refine st_then ?_
  refine st_seq ?_
  refine st_region ?_
  refine st_call0 cal167 rfl (fun w hM => width32_calls w) (by decide) ?_
  refine st_v (rv_to (u := vI (64 : Nat)) (rv_mulN (a := 2) (b := 32) rfl rfl (by omega)) (by rfl)) (by decide) ?_
  refine st_v (rv_assign rfl) (by decide) ?_
  refine st_nil ?_
  refine st_then ?_
  refine st_ret ?_
  exact st_done rfl rfl (fun w hM => ⟨rfl, hM.sublist (List.nil_sublist _)⟩)
set_option maxRecDepth 20000 in
set_option maxHeartbeats 1000000 in
theorem write32_calls (sb fp : Nat) (vb kv v : Value) (F : Fam 32) (hF : FamOk F) (h0 : List (BitVec 32)) (x q : List (BitVec 8)) (hh : h0.length = 8) (hx : x.length + q.length ≤ 1000000) (w : World) (hX : (stM U32 159 F 64 h0 sb fp vb x).holds w) (hA : (famA U32 185 fp kv F).holds w) (hAS : ∀ b, (famA U32 185 fp kv F).foot b → Old w (stM U32 159 F 64 h0 sb fp vb x).turn b) (hQ : Rd w v q.length 1 (q.map U8)) (hQS : ∀ b, vfoot v b → Old w (stM U32 159 F 64 h0 sb fp vb x).turn b) : Calls Tryd.prog 166 #[pt sb 0, v] w (fun e w' => ∃ u, e = .returned (.tuple #[]) ∧ Mem (Old w (stM U32 159 F 64 h0 sb fp vb x).turn) w w' [stM U32 159 F 64 h0 sb fp u (x ++ q)]) := by
  have hlen : (x ++ q).length = x.length + q.length := by simp
  have e1 : (restB 64 x).length + q.length = (x ++ q).length - 64 * (x.length / 64) := by (rw [length_restB, hlen]; omega)
  have e2 : restB 64 x ++ q = (x ++ q).drop (64 * (x.length / 64)) := by (rw [restB, List.drop_append_of_le_length (by omega)])
  have e3 := fdH_app F 64 h0 x q (x.length / 64) (by omega)
  have hr := length_restB 64 x
  refine calls_of_st (n := 56) (args := [pt sb 0, v]) Tryd.func166 rfl Tryd.ntmps166 (Nat.le_of_ble_eq_true rfl) (sepA_alone hX stL_own) ?_
  refine st_seq ?_
  refine st_region ?_
  refine st_v (rv_move rfl) (by decide) ?_
  refine st_v (rv_nilCheck rfl) (by decide) ?_
  refine st_v (rv_fieldAddr Tryd.underlying159 (fs := _) rfl sz77 rfl rfl) (by decide) ?_
  refine st_v (rv_load_blk tyS77 rfl (i := 0) rfl (stC_10 (by simp only [length_fdH, length_blockW]; exact hh))) (by decide) ?_
  refine st_v (rv_move rfl) (by decide) ?_
  refine st_v (rv_lenR (rd_old hQ hQS) Tryd.underlying22 rfl) (by decide) ?_
  refine st_v (rv_convIto64 Tryd.underlying3 Tryd.underlying77 rfl) (by decide) ?_
  refine st_v (rv_add64 rfl rfl) (by decide) ?_
  refine st_v (rv_nilCheck rfl) (by decide) ?_
  refine st_v (rv_fieldAddr Tryd.underlying159 (fs := _) rfl sz77 rfl rfl) (by decide) ?_
  refine st_store (vs := [_]) rfl rfl (i := 0) rfl sz77 rfl (by rw [size_stC (by simp only [length_fdH, length_blockW]; exact hh)]; exact Nat.le_of_ble_eq_true rfl) (one1 rfl) (stC_set10 (by simp only [length_fdH, length_blockW]; exact hh)) (l' := [_, _]) rfl ?_
  refine st_nil ?_
  refine st_then ?_
  refine st_seq ?_
  refine st_region ?_
  refine st_v (rv_move rfl) (by decide) ?_
  refine st_v (rv_move rfl) (by decide) ?_
  refine st_v (rv_nilCheck rfl) (by decide) ?_
  refine st_v (rv_fieldAddr Tryd.underlying159 (fs := _) rfl sz22 rfl rfl) (by decide) ?_
  refine st_v (rv_load_blk tyS22 rfl (i := 0) rfl (stC_9 (by simp only [length_fdH, length_blockW]; exact hh))) (by decide) ?_
  refine st_v (rv_move rfl) (by decide) ?_
  refine st_append8 Tryd.underlying22 Tryd.underlying22 (.inr ⟨_, rfl⟩) tyZ5 rfl rfl rfl (i := 1) rfl (fun w hM => src_rd ((rd_old hQ hQS) w hM) (one8 _)) (by first | omega | (simp <;> omega)) (by first | omega | (simp <;> omega)) (by decide) (fun vb => ?_)
  refine st_v (rv_nilCheck rfl) (by decide) ?_
  refine st_v (rv_fieldAddr Tryd.underlying159 (fs := _) rfl sz22 rfl rfl) (by decide) ?_
  refine St.know (fun w hM => And.intro (ownCells (i := 1) rfl hM) (ownOne (i := 1) rfl hM)) (fun hst33 => ?_)
  refine st_store (vs := [_]) rfl rfl (i := 0) rfl sz22 hst33.1 (by rw [size_stC (by simp only [length_fdH, length_blockW]; exact hh)]; exact Nat.le_of_ble_eq_true rfl) (one1 hst33.2) (stC_set9 (by simp only [length_fdH, length_blockW]; exact hh)) (l' := [_, _]) rfl ?_
  refine st_nil ?_
  refine st_then ?_
  refine st_seq ?_
  refine st_region ?_
  refine st_v (rv_move rfl) (by decide) ?_
  refine st_call0 cal164 rfl (fun w hM => size32_calls _ w) (by decide) ?_
  refine st_v (rv_assign rfl) (by decide) ?_
  refine st_nil ?_
  refine st_then ?_
  refine st_block ?_
  refine st_loopA (σ := Nat × Value) [(0, kst _), (4, kst _)] [fun (i, u) => blk sb (stC U32 fp (fdH F 64 h0 (x ++ q) i) u (BitVec.ofNat 64 x.length + BitVec.ofNat 64 q.length)) 159, fun (i, u) => own u 5 1 ((x ++ q).length - 64 * i) (((x ++ q).drop (64 * i)).map U8)] (fun (i, u) => 64 * i ≤ (x ++ q).length) (fun (i, u) => (x ++ q).length - 64 * i) (x.length / 64, vb) (by omega) (.cons rfl (.cons rfl (.nil _))) (by intro w hM; rw [e1, e2, ← e3] at hM; exact hM) ?_
  intro ⟨i, u⟩ hI
  try dsimp only at hI
  dsimp only [List.map, kst]
  refine st_seq ?_
  refine st_seq ?_
  refine st_region ?_
  refine st_v (rv_move rfl) (by decide) ?_
  refine st_v (rv_nilCheck rfl) (by decide) ?_
  refine st_v (rv_fieldAddr Tryd.underlying159 (fs := _) rfl sz22 rfl rfl) (by decide) ?_
  refine st_v (rv_load_blk tyS22 rfl (i := 0) rfl (stC_9 (by simp only [length_fdH, length_blockW]; exact hh))) (by decide) ?_
  refine st_v (rv_lenR (rd_own (i := 1) rfl) Tryd.underlying22 rfl) (by decide) ?_
  refine st_v (rv_move rfl) (by decide) ?_
  refine st_v (rv_geqZ rfl rfl) (by decide) ?_
  refine st_nil ?_
  refine st_then ?_
  refine st_cond rfl (fun hc32 => ?_) (fun hc32 => ?_)
  · -- t32 True
    try simp only [z1, z2, z3, z4, z5, z6, z7, z8, z9, z10, z11, z12, z13, z14] at hc32
    refine st_skip ?_
    refine st_then ?_
    refine st_seq ?_
    refine st_block ?_
    refine st_drawStart mixed ?_
    refine st_drawSeg1 (E0 := [(0, _), (4, _)]) [kpeq _, kpeq _, kpeq _, kpeq _, kpeq _, kpeq _, kpeq _, kpeq _, kpeq _, kpeq _, kpeq _, kpeq _, kpeq _] 0 13 [0, 1, 3, 7, 0, 16, 48, 0, 128, 384, 896, 0, 3968, 8191] [0, 4] (by kernel_rfl) (by decide) (by kernel_rfl) (.cons rfl (.cons rfl (.nil _))) rfl rfl (hall_cons (hop_mv rfl (by decide) rfl rfl) (hall_cons (hop_val [(0, 42, _)] [] rfl rfl rfl (by decide) rfl (jcons rfl rfl rfl rfl rfl (jnil)) (xnil) (fun _ _ _ _ => does_v (rv_nilCheck rfl))) (hall_cons (hop_val [(1, 43, _)] [] rfl rfl rfl (by decide) rfl (jcons rfl rfl rfl rfl rfl (jnil)) (xnil) (fun _ _ _ _ => does_v (rv_fieldAddr Tryd.underlying159 (fs := _) rfl sz155 rfl rfl))) (hall_cons (hop_val [(2, 44, _)] [] rfl rfl rfl (by decide) rfl (jcons rfl rfl rfl rfl rfl (jnil)) (xnil) (fun _ _ _ _ => does_v (rv_load_blk tyS155 rfl (i := 0) rfl (stC_0)))) (hall_cons (hop_mv rfl (by decide) rfl rfl) (hall_cons (hop_val [(4, 46, _)] [] rfl rfl rfl (by decide) rfl (jcons rfl rfl rfl rfl rfl (jnil)) (xnil) (fun _ _ _ _ => does_v (rv_nilCheck rfl))) (hall_cons (hop_val [(5, 47, _)] [] rfl rfl rfl (by decide) rfl (jcons rfl rfl rfl rfl rfl (jnil)) (xnil) (fun _ _ _ _ => does_v (rv_fieldAddr Tryd.underlying159 (fs := _) rfl sz157 rfl rfl))) (hall_cons (hop_mv rfl (by decide) rfl rfl) (hall_cons (hop_val [(7, 49, _)] [] rfl rfl rfl (by decide) rfl (jcons rfl rfl rfl rfl rfl (jnil)) (xnil) (fun _ _ _ _ => does_v (rv_nilCheck rfl))) (hall_cons (hop_val [(8, 50, _)] [] rfl rfl rfl (by decide) rfl (jcons rfl rfl rfl rfl rfl (jnil)) (xnil) (fun _ _ _ _ => does_v (rv_fieldAddr Tryd.underlying159 (fs := _) rfl sz22 rfl rfl))) (hall_cons (hop_val [(9, 51, _)] [] rfl rfl rfl (by decide) rfl (jcons rfl rfl rfl rfl rfl (jnil)) (xnil) (fun _ _ _ _ => does_v (rv_load_blk tyS22 rfl (i := 0) rfl (stC_9 (by simp only [length_fdH, length_blockW]; exact hh))))) (hall_cons (hop_mv rfl (by decide) rfl rfl) (hall_cons (hop_val [(10, 52, _), (11, 53, _)] [] rfl rfl rfl (by decide) rfl (jcons rfl rfl rfl rfl rfl (jcons rfl rfl rfl rfl rfl (jnil))) (xnil) (fun _ _ _ _ => does_v (rv_sliceR (rd_own (i := 1) rfl) Tryd.underlying22 sz5 rfl evB_none (evB_some rfl rfl) (by first | omega | (simp <;> omega)) (by first | omega | (simp <;> omega))))) (hall_nil)))))))))))))) (draw_end1 [(3, 45, _), (6, 48, _), (12, 54, _)] (jcons rfl rfl rfl rfl rfl (jcons rfl rfl rfl rfl rfl (jcons rfl rfl rfl rfl rfl (jnil)))) ?_)
    refine st_drawTail (N := 13) [0, 1, 3, 7, 0, 16, 48, 0, 128, 384, 896, 0, 3968, 8191] (by kernel_rfl) (by kernel_rfl) ?_
    refine st_callP cal168 rfl (i := 0) rfl (fun w hM => blockSt32 fp sb 159 kv _ _ F hF _ _ _ (by simp only [length_fdH, length_blockW]; exact hh) (by simp; omega) w (hM.holdsAt (i := 0) rfl) (famA_at hA hAS hM) (fun b hb => ⟨Nat.lt_of_lt_of_le (hAS b hb).1 hM.size, fun e => (hAS b hb).2 ⟨_, List.mem_cons_self, e⟩⟩) (Rd.n_eq ((((rd_own (i := 1) rfl) w hM).part8 (by first | omega | (simp <;> omega)) (by first | omega | (simp <;> omega)))) (by omega)) (fun b hb => hM.offOf (i := 0) (j := 1) rfl rfl (by decide) b (vfoot_sub hb))) (by decide) (l' := [_, _]) rfl ?_
    refine st_nil ?_
    refine st_in_normal ?_
    refine st_then ?_
    refine st_region ?_
    refine st_v (rv_move rfl) (by decide) ?_
    refine st_v (rv_move rfl) (by decide) ?_
    refine st_v (rv_nilCheck rfl) (by decide) ?_
    refine st_v (rv_fieldAddr Tryd.underlying159 (fs := _) rfl sz22 rfl rfl) (by decide) ?_
    refine st_v (rv_load_blk tyS22 rfl (i := 0) rfl (stC_9 (by simp only [length_fdH, length_blockW]; exact hh))) (by decide) ?_
    refine st_v (rv_move rfl) (by decide) ?_
    refine st_v (rv_sliceR (rd_own (i := 1) rfl) Tryd.underlying22 sz5 rfl (evB_some rfl rfl) evB_none (by first | omega | (simp <;> omega)) (by first | omega | (simp <;> omega))) (by decide) ?_
    refine st_v (rv_nilCheck rfl) (by decide) ?_
    refine st_v (rv_fieldAddr Tryd.underlying159 (fs := _) rfl sz22 rfl rfl) (by decide) ?_
    refine St.know (fun w hM => sub_cells ((rd_own (i := 1) rfl) w hM)) (fun hst85 => ?_)
    refine st_store (vs := [_]) rfl rfl (i := 0) rfl sz22 (hst85 _ _ _).1 (by rw [size_stC (by simp only [length_fdH, length_blockW]; exact hh)]; exact Nat.le_of_ble_eq_true rfl) (one1 (hst85 _ _ _).2) (stC_set9 (by simp only [length_fdH, length_blockW]; exact hh)) (l' := [_, _]) rfl ?_
    refine st_nil ?_
    refine st_then ?_
    exact st_again (i + 1, vsub u 64 ((x ++ q).length - 64 * i) 1) (by omega) (by omega) (.cons rfl (.cons rfl (.nil _))) (fun w hM => hM.ownNext (i := 1) rfl (by omega))
  · -- t32 False
    try simp only [z1, z2, z3, z4, z5, z6, z7, z8, z9, z10, z11, z12, z13, z14] at hc32
    obtain rfl : i = (x ++ q).length / 64 := by omega
    refine st_exit ?_
    refine st_then_exit ?_
    refine st_then_exit ?_
    refine st_in_exit ?_
    exact st_done0' rfl (fun w hM => ⟨u, rfl, by rw [← length_restB, show BitVec.ofNat 64 x.length + BitVec.ofNat 64 q.length = BitVec.ofNat 64 (x ++ q).length by rw [hlen, BitVec.ofNat_add]] at hM; exact (Mem.pack (lm := stL U32 159 F 64 h0 sb fp u (x ++ q)) (lf := []) hM)⟩)
end Go.Proofs.YtjhjjhpfjadjpaaDoor
