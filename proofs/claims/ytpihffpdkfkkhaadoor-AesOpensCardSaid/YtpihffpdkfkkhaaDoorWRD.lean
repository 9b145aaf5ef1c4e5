/- Walks: what functions of the given program do, operation by operation. Written by wip/gen. -/
import Derived.Test.YtpihffpdkfkkhaaDoorWRC
import Derived.Test.YtpihffpdkfkkhaaDoorVP
namespace Go.Proofs.YtpihffpdkfkkhaaDoor
set_option linter.all false
open Go
theorem radd_calls (c : Nat) (vk vb u : Value) (vs : List Value) (ws : List (List (BitVec 8))) (bx s : List (BitVec 8)) (r : Nat) (hs : s.length = 16) (hvs : vs.length = ws.length) (hL : ∀ k, k < ws.length → (ws.getD k []).length = 4) (hr : 4 * r + 4 ≤ ws.length) (hr2 : ws.length ≤ 1000) (w : World) (hC : (cipA c 48 vk vb vs ws bx).holds w) (hS : ∀ b, (cipA c 48 vk vb vs ws bx).foot b → Old w (vfoot u) b) (hB : (own u 5 1 16 (s.map U8)).holds w) : Calls Tryd.prog 21 #[pt c 0, u, vI r] w (fun e w' => e = .returned (.tuple #[]) ∧ Mem (Old w (vfoot u)) w w' [own u 5 1 16 ((addR s ws r 16).map U8)]) := by
  obtain ⟨fr, hrow⟩ := cip_row hC
  have hV : ∀ k, k < ws.length → vs[k]? = some (vs.getD k nilS) := fun k hk => by
    have : k < vs.length := by omega
    simp [this]
  have hW : ∀ k, k < ws.length → ws[k]? = some (ws.getD k []) := fun k hk => by simp [hk]
  refine calls_of_st (n := 34) (args := [pt c 0, u, vI r]) Tryd.func21 rfl Tryd.ntmps21 (Nat.le_of_ble_eq_true rfl) (Mem.paramOwn hB) ?_
  refine st_seq ?_
  refine st_region ?_
  refine st_v (rv_assign rfl) (by decide) ?_
  refine st_nil ?_
  refine st_then ?_
  refine st_block ?_
  refine st_loop (σ := Nat) (fun i => [(0, pt c 0), (1, u), (2, vI r), (6, vI i)]) (fun i => [own u 5 1 16 ((addR s ws r i).map U8)]) (fun i => i ≤ 16) (fun i => 16 - i) 0 (by omega) (SubE.cons rfl (SubE.cons rfl (SubE.cons rfl (SubE.cons rfl (SubE.nil _))))) (fun _ hM => hM) ?_
  intro i hI
  refine st_seq ?_
  refine st_seq ?_
  refine st_region ?_
  refine st_v (rv_move rfl) (by decide) ?_
  refine st_v (rv_lssZ rfl rfl) (by decide) ?_
  refine st_nil ?_
  refine st_then ?_
  refine st_cond rfl (fun hc8 => ?_) (fun hc8 => ?_)
  · -- t8 True
    try simp only [decide_eq_true_eq, decide_eq_false_iff_not, Bool.and_eq_true, Bool.or_eq_true, Bool.and_eq_false_iff, Bool.or_eq_false_iff, Bool.not_eq_true, Bool.not_eq_eq_eq_not, Bool.not_true, Bool.not_false, Int.not_lt, Int.not_le, ne_eq, Decidable.not_not] at hc8
    have hlw := hL (4 * r + i / 4) (by omega)
    refine st_skip ?_
    refine st_then ?_
    refine st_seq ?_
    refine st_block ?_
    refine st_drawStart mixed ?_
    refine st_drawSeg1 (E0 := [(0, _), (1, _), (2, _), (6, _)]) [kpeq _, kpeq _, kpeq _, kpeq _, kpeq _, kpeq _, kpeq _, kpeq _, kpeq _, kpeq _, kpeq _, kpeq _, kpeq _, kpeq _, kpeq _, kpeq _, kpeq _, kpeq _, kpeq _, kpeq _, kpeq _, kpeq _] 0 22 [0, 0, 0, 0, 12, 28, 0, 64, 192, 448, 0, 1024, 0, 4096, 15360, 32704, 65472, 0, 131072, 524224, 1048512, 2097148, 4194303, 8388607] [0, 1, 2, 6] (by kernel_rfl) (by decide) (by kernel_rfl) (SubE.cons rfl (SubE.cons rfl (SubE.cons rfl (SubE.cons rfl (SubE.nil _))))) rfl rfl (hall_cons (hop_val [] [] rfl rfl rfl (by decide) rfl (jnil) (xnil) (fun _ _ _ _ => does_v (rv_move rfl))) (hall_cons (hop_val [] [] rfl rfl rfl (by decide) rfl (jnil) (xnil) (fun _ _ _ _ => does_v (rv_move rfl))) (hall_cons (hop_val [] [] rfl rfl rfl (by decide) rfl (jnil) (xnil) (fun _ _ _ _ => does_v (rv_move rfl))) (hall_cons (hop_val [] [] rfl rfl rfl (by decide) rfl (jnil) (xnil) (fun _ _ _ _ => does_v (rv_move rfl))) (hall_cons (hop_val [(2, 13, _), (3, 14, _)] [] rfl rfl rfl (by decide) rfl (jcons rfl rfl rfl rfl rfl (jcons rfl rfl rfl rfl rfl (jnil))) (xnil) (fun _ _ _ _ => does_v (rv_indexR1 (rd_own (i := 0) rfl) Tryd.underlying22 sz5 rfl rfl rfl (by first | omega | (simp [length_addR, hs] <;> omega))))) (hall_cons (hop_val [(4, 15, _)] [] rfl rfl rfl (by decide) rfl (jcons rfl rfl rfl rfl rfl (jnil)) (xnil) (fun _ _ _ _ => does_v (rv_load_rd (rd_own (i := 0) rfl) tyS5 rfl (get8 (by first | omega | (simp [length_addR, hs] <;> omega)))))) (hall_cons (hop_val [] [] rfl rfl rfl (by decide) rfl (jnil) (xnil) (fun _ _ _ _ => does_v (rv_move rfl))) (hall_cons (hop_val [(6, 17, _)] [] rfl rfl rfl (by decide) rfl (jcons rfl rfl rfl rfl rfl (jnil)) (xnil) (fun _ _ _ _ => does_v (rv_nilCheck rfl))) (hall_cons (hop_val [(7, 18, _)] [] rfl rfl rfl (by decide) rfl (jcons rfl rfl rfl rfl rfl (jnil)) (xnil) (fun _ _ _ _ => does_v (rv_fieldAddr Tryd.underlying48 (fs := _) rfl sz46 rfl rfl))) (hall_cons (hop_val [(8, 19, _)] [] rfl rfl rfl (by decide) rfl (jcons rfl rfl rfl rfl rfl (jnil)) (xnil) (fun _ _ _ _ => does_v (rv_load_old tyS46 rfl hrow (hS c (.inl rfl)) rfl))) (hall_cons (hop_val [] [] rfl rfl rfl (by decide) rfl (jnil) (xnil) (fun _ _ _ _ => does_v (rv_move rfl))) (hall_cons (hop_val [(10, 21, _)] [] rfl rfl rfl (by decide) rfl (jcons rfl rfl rfl rfl rfl (jnil)) (xnil) (fun _ _ _ _ => does_v (rv_mulN (a := 4) rfl rfl (by first | omega | (simp <;> omega))))) (hall_cons (hop_val [] [] rfl rfl rfl (by decide) rfl (jnil) (xnil) (fun _ _ _ _ => does_v (rv_move rfl))) (hall_cons (hop_val [(12, 23, _)] [] rfl rfl rfl (by decide) rfl (jcons rfl rfl rfl rfl rfl (jnil)) (xnil) (fun _ _ _ _ => does_v (rv_quoN (b := 4) rfl rfl (by first | omega | (simp <;> omega))))) (hall_cons (hop_val [(11, 22, _), (13, 24, _)] [] rfl rfl rfl (by decide) rfl (jcons rfl rfl rfl rfl rfl (jcons rfl rfl rfl rfl rfl (jnil))) (xnil) (fun _ _ _ _ => does_v (rv_addN rfl rfl (by first | omega | (simp <;> omega))))) (hall_cons (hop_val [(9, 20, _), (14, 25, _)] [] rfl rfl rfl (by decide) rfl (jcons rfl rfl rfl rfl rfl (jcons rfl rfl rfl rfl rfl (jnil))) (xnil) (fun _ _ _ _ => does_v (rv_indexR1 (cip_keys hC hS) Tryd.underlying46 sz22 rfl rfl rfl (by first | omega | (simp [length_addR, hs] <;> omega))))) (hall_cons (hop_val [(15, 26, _)] [] rfl rfl rfl (by decide) rfl (jcons rfl rfl rfl rfl rfl (jnil)) (xnil) (fun _ _ _ _ => does_v (rv_load_rd (cip_keys hC hS) tyS22 rfl (hV (4 * r + i / 4) (by omega))))) (hall_cons (hop_val [] [] rfl rfl rfl (by decide) rfl (jnil) (xnil) (fun _ _ _ _ => does_v (rv_move rfl))) (hall_cons (hop_val [(17, 28, _)] [] rfl rfl rfl (by decide) rfl (jcons rfl rfl rfl rfl rfl (jnil)) (xnil) (fun _ _ _ _ => does_v (rv_remN (b := 4) rfl rfl (by first | omega | (simp <;> omega))))) (hall_cons (hop_val [(16, 27, _), (18, 29, _)] [] rfl rfl rfl (by decide) rfl (jcons rfl rfl rfl rfl rfl (jcons rfl rfl rfl rfl rfl (jnil))) (xnil) (fun _ _ _ _ => does_v (rv_indexR1 (cip_word hC hS (k := 4 * r + i / 4) (by omega) (hW (4 * r + i / 4) (by omega))) Tryd.underlying22 sz5 rfl rfl rfl (by first | omega | (simp [length_addR, hs] <;> omega))))) (hall_cons (hop_val [(19, 30, _)] [] rfl rfl rfl (by decide) rfl (jcons rfl rfl rfl rfl rfl (jnil)) (xnil) (fun _ _ _ _ => does_v (rv_load_rd (cip_word hC hS (k := 4 * r + i / 4) (by omega) (hW (4 * r + i / 4) (by omega))) tyS5 rfl (get8 (by first | omega | (simp [length_addR, hs] <;> omega)))))) (hall_cons (hop_val [(5, 16, _), (20, 31, _)] [] rfl rfl rfl (by decide) rfl (jcons rfl rfl rfl rfl rfl (jcons rfl rfl rfl rfl rfl (jnil))) (xnil) (fun _ _ _ _ => does_v (rv_xor8 rfl rfl))) (hall_nil))))))))))))))))))))))) (draw_end1 [(0, 11, _), (1, 12, _), (21, 32, _)] (jcons rfl rfl rfl rfl rfl (jcons rfl rfl rfl rfl rfl (jcons rfl rfl rfl rfl rfl (jnil)))) ?_)
    refine st_drawTail (N := 22) [0, 0, 0, 0, 12, 28, 0, 64, 192, 448, 0, 1024, 0, 4096, 15360, 32704, 65472, 0, 131072, 524224, 1048512, 2097148, 4194303, 8388607] (by kernel_rfl) (by kernel_rfl) ?_
    refine st_v (rv_indexR1 (rd_own (i := 0) rfl) Tryd.underlying22 sz5 rfl rfl rfl (by first | omega | (simp [length_addR, hs] <;> omega))) (by decide) ?_
    refine st_storeOwn8 rfl rfl (i := 0) rfl sz5 (by first | omega | (simp [length_addR, hs] <;> omega)) rfl ?_
    refine st_nil ?_
    refine st_in_normal ?_
    refine st_then ?_
    refine st_region ?_
    refine st_v (rv_move rfl) (by decide) ?_
    first | refine st_v (rv_addN (b := 1) rfl rfl (by first | omega | (simp <;> omega))) (by decide) ?_ | refine st_v (rv_addZ rfl rfl (by first | omega | (simp <;> omega))) (by decide) ?_
    refine st_v (rv_assign rfl) (by decide) ?_
    refine st_nil ?_
    refine st_then ?_
    exact st_again (i + 1) (by omega) (by omega) (SubE.cons rfl (SubE.cons rfl (SubE.cons rfl (SubE.cons rfl (SubE.nil _))))) (fun _ hM => hM)
  · -- t8 False
    try simp only [decide_eq_true_eq, decide_eq_false_iff_not, Bool.and_eq_true, Bool.or_eq_true, Bool.and_eq_false_iff, Bool.or_eq_false_iff, Bool.not_eq_true, Bool.not_eq_eq_eq_not, Bool.not_true, Bool.not_false, Int.not_lt, Int.not_le, ne_eq, Decidable.not_not] at hc8
    obtain rfl : i = 16 := by omega
    refine st_exit ?_
    refine st_then_exit ?_
    refine st_then_exit ?_
    refine st_in_exit ?_
    exact st_done0' rfl (fun w hM => ⟨rfl, hM⟩)
end Go.Proofs.YtpihffpdkfkkhaaDoor
