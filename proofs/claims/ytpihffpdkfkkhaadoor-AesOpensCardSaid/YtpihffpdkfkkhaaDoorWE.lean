/- Walks: what functions of the given program do, operation by operation. Written by wip/gen. -/
import Derived.Test.YtpihffpdkfkkhaaDoorWD
namespace Go.Proofs.YtpihffpdkfkkhaaDoor
set_option linter.all false
open Go
set_option maxRecDepth 100000 in
set_option maxHeartbeats 4000000 in
theorem aesOpens_walkT (key nonce adj text : List (BitVec 8)) (x y : Int) (hx : -9223372036854775808 ≤ x ∧ x ≤ 9223372036854775807) (hy : -9223372036854775808 ≤ y ∧ y ≤ 9223372036854775807) (w : World) (hT : Tab w) : Calls Tryd.prog 5 #[vS key, .bool true, vS nonce, vS adj, vS text, vI x, vI y] w (fun e w' => e = .returned (.bool true) ∧ Mem (All w) w w' []) := by
  have hS0 : All w 0 := ⟨by have := hT.live; omega, fun h => h⟩
  have hS1 : All w 1 := ⟨by have := hT.live; omega, fun h => h⟩
  have hn12 := length_fill0 12 nonce
  have ho : sOk (fill0 32 key) (fill0 12 nonce) = true := by simp [sOk, length_fill0]
  obtain ⟨o1, o2⟩ := open_sealed (fill0 32 key) (fill0 12 nonce) adj text ho hn12
  have hsl : (sOut (fill0 32 key) (fill0 12 nonce) adj text).length = text.length + 16 := by (rw [sOut, if_pos ho, length_sealOut _ _ _ _ hn12])
  refine calls_of_st (n := 148) (args := [vS key, .bool true, vS nonce, vS adj, vS text, vI x, vI y]) Tryd.func5 rfl Tryd.ntmps5 (Nat.le_of_ble_eq_true rfl) (Mem.all w) ?_
  refine st_seq ?_
  refine st_region ?_
  refine st_v (rv_assign rfl) (by decide) ?_
  refine st_nil ?_
  refine st_then ?_
  refine st_seq ?_
  refine st_seq ?_
  refine st_region ?_
  refine st_v (rv_move rfl) (by decide) ?_
  refine st_v (rv_lenB Tryd.underlying9 rfl) (by decide) ?_
  refine st_v (rv_gtrZ rfl rfl) (by decide) ?_
  refine st_v (rv_move rfl) (by decide) ?_
  refine' st_or 4 (L := _) (s := 27) (d := 31) [0, 1, 2, 3, 4, 5, 6] rfl (fun hg4 => ?_) (fun _ => ?_) ?_; rotate_left
  · -- true
    refine st_gskip rfl rfl rfl (by decide) ?_
    refine st_gskip rfl rfl rfl (by decide) ?_
    refine st_gskip rfl rfl rfl (by decide) ?_
    first | refine st_v (rv_pick_true rfl rfl) (by decide) ?_ | refine st_v (rv_pick_false rfl rfl) (by decide) ?_ | refine st_v (rv_pick rfl rfl rfl) (by decide) ?_
    refine st_nil ?_
    exact st_meet_b (SubE.cons rfl (SubE.cons rfl (SubE.cons rfl (SubE.cons rfl (SubE.cons rfl (SubE.cons rfl (SubE.cons rfl (SubE.cons rfl (SubE.nil _)))))))))
  · -- false
    refine st_gon rfl rfl ?_
    refine st_v (rv_move rfl) (by decide) ?_
    refine st_gon rfl rfl ?_
    refine st_v (rv_lenB Tryd.underlying9 rfl) (by decide) ?_
    refine st_gon rfl rfl ?_
    refine st_v (rv_gtrZ rfl rfl) (by decide) ?_
    first | refine st_v (rv_pick_true rfl rfl) (by decide) ?_ | refine st_v (rv_pick_false rfl rfl) (by decide) ?_ | refine st_v (rv_pick rfl rfl rfl) (by decide) ?_
    refine st_nil ?_
    exact st_meet_b (SubE.cons rfl (SubE.cons rfl (SubE.cons rfl (SubE.cons rfl (SubE.cons rfl (SubE.cons rfl (SubE.cons rfl (SubE.cons rfl (SubE.nil _)))))))))
  refine st_nil ?_
  refine st_then ?_
  refine st_cond rfl (fun hc31 => ?_) (fun hc31 => ?_)
  · -- t31 True
    try simp only [decide_eq_true_eq, decide_eq_false_iff_not, Bool.and_eq_true, Bool.or_eq_true, Bool.and_eq_false_iff, Bool.or_eq_false_iff, Bool.not_eq_true, Bool.not_eq_eq_eq_not, Bool.not_true, Bool.not_false, Int.not_lt, Int.not_le, ne_eq, Decidable.not_not] at hc31
    refine st_seq ?_
    refine st_region ?_
    refine st_v (rv_assign rfl) (by decide) ?_
    refine st_nil ?_
    refine st_then ?_
    refine st_ret ?_
    refine st_then_ret ?_
    exact st_done rfl rfl (fun w hM => ⟨rfl, hM.sublist (List.nil_sublist _)⟩)
  · -- t31 False
    try simp only [decide_eq_true_eq, decide_eq_false_iff_not, Bool.and_eq_true, Bool.or_eq_true, Bool.and_eq_false_iff, Bool.or_eq_false_iff, Bool.not_eq_true, Bool.not_eq_eq_eq_not, Bool.not_true, Bool.not_false, Int.not_lt, Int.not_le, ne_eq, Decidable.not_not] at hc31
    obtain ⟨hlt, hla⟩ := hc31
    refine st_skip ?_
    refine st_then ?_
    refine st_seq ?_
    refine st_region ?_
    refine st_make8 Tryd.underlying22 tyZ5 (len := 16) (cap := 16) rfl rfl (by omega) (by omega) (by omega) (by decide) (fun b1 hb1 => ?_)
    refine st_v (rv_assign rfl) (by decide) ?_
    refine st_nil ?_
    refine st_then ?_
    refine st_seq ?_
    refine st_seq ?_
    refine st_region ?_
    refine st_v (rv_move rfl) (by decide) ?_
    refine st_nil ?_
    refine st_then ?_
    refine st_true rfl ?_
    refine st_region ?_
    refine st_make8 Tryd.underlying22 tyZ5 (len := 32) (cap := 32) rfl rfl (by omega) (by omega) (by omega) (by decide) (fun b2 hb2 => ?_)
    refine st_v (rv_assign rfl) (by decide) ?_
    refine st_nil ?_
    refine st_then ?_
    refine st_seq ?_
    refine st_region ?_
    refine st_v (rv_move rfl) (by decide) ?_
    refine st_v (rv_move rfl) (by decide) ?_
    refine st_copy8 Tryd.underlying22 sz5 rfl rfl (i := 0) rfl (by first | omega | (simp [length_fill0, length_tamp, over]; done) | (simp [length_fill0, length_tamp, over] <;> omega)) (fun w _ => src_str _) (l' := [_, _]) rfl (by decide) ?_
    refine st_nil ?_
    refine st_then ?_
    refine st_seq ?_
    refine st_region ?_
    refine st_make8 Tryd.underlying22 tyZ5 (len := 12) (cap := 12) rfl rfl (by omega) (by omega) (by omega) (by decide) (fun b3 hb3 => ?_)
    refine st_v (rv_assign rfl) (by decide) ?_
    refine st_nil ?_
    refine st_then ?_
    refine st_seq ?_
    refine st_region ?_
    refine st_v (rv_move rfl) (by decide) ?_
    refine st_v (rv_move rfl) (by decide) ?_
    refine st_copy8 Tryd.underlying22 sz5 rfl rfl (i := 0) rfl (by first | omega | (simp [length_fill0, length_tamp, over]; done) | (simp [length_fill0, length_tamp, over] <;> omega)) (fun w _ => src_str _) (l' := [_, _, _]) rfl (by decide) ?_
    refine st_nil ?_
    refine st_then ?_
    refine st_seq ?_
    refine st_region ?_
    refine st_v (rv_move rfl) (by decide) ?_
    refine st_v (rv_move rfl) (by decide) ?_
    refine st_v (rv_move rfl) (by decide) ?_
    refine st_bytes Tryd.underlying9 Tryd.underlying22 Tryd.underlying5 rfl (by decide) (fun v4 => ?_)
    refine st_v (rv_move rfl) (by decide) ?_
    refine st_bytes Tryd.underlying9 Tryd.underlying22 Tryd.underlying5 rfl (by decide) (fun v5 => ?_)
    refine st_call1 (ρ := Value) (fun v => .tuple #[v, vI (sErr (fill0 32 key) (fill0 12 nonce))]) (fun _ => True) (fun v => [own v 5 1 (sOut (fill0 32 key) (fill0 12 nonce) adj text).length ((sOut (fill0 32 key) (fill0 12 nonce) adj text).map U8)]) cal12 rfl (fun w hM => (aesSeal_calls _ _ _ _ (fill0 32 key) (fill0 12 nonce) adj text (by rw [length_fill0]; omega) (by omega) (by omega) w (hT.at hM hS0 hS1) (Rd.n_eq ((rd_w8 (i := 3) rfl (by first | omega | (simp [length_fill0, length_tamp, over]; done) | (simp [length_fill0, length_tamp, over] <;> omega)) (by omega)) w hM) (length_fill0 _ _).symm) (Rd.n_eq ((rd_w8 (i := 2) rfl (by first | omega | (simp [length_fill0, length_tamp, over]; done) | (simp [length_fill0, length_tamp, over] <;> omega)) (by omega)) w hM) (length_fill0 _ _).symm) ((rd_own (i := 1) rfl) w hM) ((rd_own (i := 0) rfl) w hM)).mono fun e w' ⟨r, h1, h2⟩ => ⟨r, h1, trivial, h2⟩) (by decide) (fun v6 _ => ?_)
    refine st_v (rv_move rfl) (by decide) ?_
    refine st_v (rv_extract rfl rfl) (by decide) ?_
    refine st_v (rv_extract rfl rfl) (by decide) ?_
    refine st_v (rv_assign rfl) (by decide) ?_
    refine st_v (rv_assign rfl) (by decide) ?_
    refine st_nil ?_
    refine st_then ?_
    refine st_seq ?_
    refine st_seq ?_
    refine st_region ?_
    refine st_v (rv_move rfl) (by decide) ?_
    refine st_v (rv_to (u := .bool false) (rv_neqZ rfl rfl) (by simp [sErr, ho])) (by decide) ?_
    refine st_v (rv_move rfl) (by decide) ?_
    refine' st_or 7 (L := _) (s := 54) (d := 61) [3, 4, 5, 6, 15, 16, 17] rfl (fun hg3 => ?_) (fun _ => ?_) ?_; rotate_left
    · -- true
      refine st_gskip rfl rfl rfl (by decide) ?_
      refine st_gskip rfl rfl rfl (by decide) ?_
      refine st_gskip rfl rfl rfl (by decide) ?_
      refine st_gskip rfl rfl rfl (by decide) ?_
      refine st_gskip rfl rfl rfl (by decide) ?_
      refine st_gskip rfl rfl rfl (by decide) ?_
      first | refine st_v (rv_pick_true rfl rfl) (by decide) ?_ | refine st_v (rv_pick_false rfl rfl) (by decide) ?_ | refine st_v (rv_pick rfl rfl rfl) (by decide) ?_
      refine st_nil ?_
      exact st_meet_b (SubE.cons rfl (SubE.cons rfl (SubE.cons rfl (SubE.cons rfl (SubE.cons rfl (SubE.cons rfl (SubE.cons rfl (SubE.cons rfl (SubE.nil _)))))))))
    · -- false
      refine st_gon rfl rfl ?_
      refine st_v (rv_move rfl) (by decide) ?_
      refine st_gon rfl rfl ?_
      refine st_v (rv_lenR (rd_own (i := 0) rfl) Tryd.underlying22 rfl) (by decide) ?_
      refine st_gon rfl rfl ?_
      refine st_v (rv_move rfl) (by decide) ?_
      refine st_gon rfl rfl ?_
      refine st_v (rv_lenB Tryd.underlying9 rfl) (by decide) ?_
      refine st_gon rfl rfl ?_
      first | refine st_v (rv_addN (b := 16) rfl rfl (by first | omega | (simp <;> omega))) (by decide) ?_ | refine st_v (rv_addZ rfl rfl (by first | omega | (simp <;> omega))) (by decide) ?_
      refine st_gon rfl rfl ?_
      refine st_v (rv_to (u := .bool false) (rv_neqZ rfl rfl) (by rw [hsl]; simp)) (by decide) ?_
      first | refine st_v (rv_pick_true rfl rfl) (by decide) ?_ | refine st_v (rv_pick_false rfl rfl) (by decide) ?_ | refine st_v (rv_pick rfl rfl rfl) (by decide) ?_
      refine st_nil ?_
      exact st_meet_b (SubE.cons rfl (SubE.cons rfl (SubE.cons rfl (SubE.cons rfl (SubE.cons rfl (SubE.cons rfl (SubE.cons rfl (SubE.cons rfl (SubE.nil _)))))))))
    refine st_nil ?_
    refine st_then ?_
    refine st_false rfl ?_
    refine st_skip ?_
    refine st_then ?_
    refine st_seq ?_
    refine st_region ?_
    refine st_v (rv_move rfl) (by decide) ?_
    refine st_v (rv_move rfl) (by decide) ?_
    refine st_v (rv_move rfl) (by decide) ?_
    refine st_bytes Tryd.underlying9 Tryd.underlying22 Tryd.underlying5 rfl (by decide) (fun v7 => ?_)
    refine st_v (rv_move rfl) (by decide) ?_
    refine st_call1 (ρ := Value) (fun v => .tuple #[v, vI (oErr (fill0 32 key) (fill0 12 nonce) adj (sOut (fill0 32 key) (fill0 12 nonce) adj text))]) (fun _ => True) (fun v => [own v 5 1 (oOut (fill0 32 key) (fill0 12 nonce) adj (sOut (fill0 32 key) (fill0 12 nonce) adj text)).length ((oOut (fill0 32 key) (fill0 12 nonce) adj (sOut (fill0 32 key) (fill0 12 nonce) adj text)).map U8)]) cal13 rfl (fun w hM => (aesOpen_calls _ _ _ _ (fill0 32 key) (fill0 12 nonce) adj (sOut (fill0 32 key) (fill0 12 nonce) adj text) (by rw [length_fill0]; omega) (by omega) (by omega) w (hT.at hM hS0 hS1) (Rd.n_eq ((rd_w8 (i := 5) rfl (by first | omega | (simp [length_fill0, length_tamp, over]; done) | (simp [length_fill0, length_tamp, over] <;> omega)) (by omega)) w hM) (length_fill0 _ _).symm) (Rd.n_eq ((rd_w8 (i := 4) rfl (by first | omega | (simp [length_fill0, length_tamp, over]; done) | (simp [length_fill0, length_tamp, over] <;> omega)) (by omega)) w hM) (length_fill0 _ _).symm) ((rd_own (i := 0) rfl) w hM) ((rd_own (i := 1) rfl) w hM)).mono fun e w' ⟨r, h1, h2⟩ => ⟨r, h1, trivial, h2⟩) (by decide) (fun v8 _ => ?_)
    refine st_v (rv_move rfl) (by decide) ?_
    refine st_v (rv_extract rfl rfl) (by decide) ?_
    refine st_v (rv_extract rfl rfl) (by decide) ?_
    refine st_v (rv_assign rfl) (by decide) ?_
    refine st_v (rv_assign rfl) (by decide) ?_
    refine st_nil ?_
    refine st_then ?_
    refine st_seq ?_
    refine st_seq ?_
    refine st_region ?_
    refine st_v (rv_move rfl) (by decide) ?_
    refine st_v (rv_to (u := .bool false) (rv_neqZ rfl rfl) (by rw [o1]; simp)) (by decide) ?_
    refine st_v (rv_move rfl) (by decide) ?_
    refine' st_or 5 (L := _) (s := 73) (d := 78) [3, 4, 5, 6, 15, 16, 17] rfl (fun hg3 => ?_) (fun _ => ?_) ?_; rotate_left
    · -- true
      refine st_gskip rfl rfl rfl (by decide) ?_
      refine st_gskip rfl rfl rfl (by decide) ?_
      refine st_gskip rfl rfl rfl (by decide) ?_
      refine st_gskip rfl rfl rfl (by decide) ?_
      first | refine st_v (rv_pick_true rfl rfl) (by decide) ?_ | refine st_v (rv_pick_false rfl rfl) (by decide) ?_ | refine st_v (rv_pick rfl rfl rfl) (by decide) ?_
      refine st_nil ?_
      exact st_meet_b (SubE.cons rfl (SubE.cons rfl (SubE.cons rfl (SubE.cons rfl (SubE.cons rfl (SubE.cons rfl (SubE.cons rfl (SubE.cons rfl (SubE.nil _)))))))))
    · -- false
      refine st_gon rfl rfl ?_
      refine st_v (rv_move rfl) (by decide) ?_
      refine st_gon rfl rfl ?_
      refine st_v (rv_string (rd_own (i := 0) rfl) Tryd.underlying22 Tryd.underlying9 Tryd.underlying5 rfl) (by decide) ?_
      refine st_gon rfl rfl ?_
      refine st_v (rv_move rfl) (by decide) ?_
      refine st_gon rfl rfl ?_
      refine st_v (rv_to (u := .bool false) (rv_neqB rfl rfl) (by rw [o2]; simp)) (by decide) ?_
      first | refine st_v (rv_pick_true rfl rfl) (by decide) ?_ | refine st_v (rv_pick_false rfl rfl) (by decide) ?_ | refine st_v (rv_pick rfl rfl rfl) (by decide) ?_
      refine st_nil ?_
      exact st_meet_b (SubE.cons rfl (SubE.cons rfl (SubE.cons rfl (SubE.cons rfl (SubE.cons rfl (SubE.cons rfl (SubE.cons rfl (SubE.cons rfl (SubE.nil _)))))))))
    refine st_nil ?_
    refine st_then ?_
    refine st_false rfl ?_
    refine st_skip ?_
    refine st_then ?_
    refine st_cutB (σ := Nat) [(3, _), (4, _), (6, _), (15, _), (16, _), (17, _)] [_, _, _, _, _, _, _, _] (SubE.cons rfl (SubE.cons rfl (SubE.cons rfl (SubE.cons rfl (SubE.cons rfl (SubE.cons rfl (SubE.nil _))))))) (fun w hM => hM.sublist (List.Sublist.cons_cons _ (List.Sublist.cons_cons _ (List.Sublist.cons_cons _ (List.Sublist.cons_cons _ (List.Sublist.cons_cons _ (List.Sublist.cons_cons _ (List.Sublist.cons_cons _ (List.Sublist.cons_cons _ (List.Sublist.slnil)))))))))) [(5, fun p => vI p)] [] (fun p => p ≤ 9223372036854775807) ?_ ?_
    · -- up to the cut
      refine st_seq ?_
      refine st_region ?_
      refine st_v (rv_move rfl) (by decide) ?_
      refine st_v (rv_lssZ rfl rfl) (by decide) ?_
      refine st_nil ?_
      refine st_then ?_
      refine st_cond rfl (fun hc80 => ?_) (fun hc80 => ?_)
      · -- t80 True
        try simp only [decide_eq_true_eq, decide_eq_false_iff_not, Bool.and_eq_true, Bool.or_eq_true, Bool.and_eq_false_iff, Bool.or_eq_false_iff, Bool.not_eq_true, Bool.not_eq_eq_eq_not, Bool.not_true, Bool.not_false, Int.not_lt, Int.not_le, ne_eq, Decidable.not_not] at hc80
        refine st_region ?_
        refine st_v (rv_move rfl) (by decide) ?_
        first | refine st_v (rv_addN (b := 1) rfl rfl (by first | omega | (simp <;> omega))) (by decide) ?_ | refine st_v (rv_addZ rfl rfl (by first | omega | (simp <;> omega))) (by decide) ?_
        refine st_v (rv_negZ rfl (by first | omega | (simp <;> omega))) (by decide) ?_
        refine st_v (rv_assign rfl) (by decide) ?_
        refine st_nil ?_
        refine st_then ?_
        exact st_meet (-(x + 1)).toNat (by omega) (SubE.cons (congrArg some (congrArg (fun z : Int => vI z) (by omega))) (SubE.cons rfl (SubE.cons rfl (SubE.cons rfl (SubE.cons rfl (SubE.cons rfl (SubE.cons rfl (SubE.nil _)))))))) (fun _ hM => hM)
      · -- t80 False
        try simp only [decide_eq_true_eq, decide_eq_false_iff_not, Bool.and_eq_true, Bool.or_eq_true, Bool.and_eq_false_iff, Bool.or_eq_false_iff, Bool.not_eq_true, Bool.not_eq_eq_eq_not, Bool.not_true, Bool.not_false, Int.not_lt, Int.not_le, ne_eq, Decidable.not_not] at hc80
        refine st_skip ?_
        refine st_then ?_
        exact st_meet x.toNat (by omega) (SubE.cons (congrArg some (congrArg (fun z : Int => vI z) (by omega))) (SubE.cons rfl (SubE.cons rfl (SubE.cons rfl (SubE.cons rfl (SubE.cons rfl (SubE.cons rfl (SubE.nil _)))))))) (fun _ hM => hM)
    · -- behind the cut
      intro p hI
      try dsimp only at hI
      dsimp only [List.map, List.cons_append, List.nil_append]
      refine st_cutB (σ := Nat) [(3, _), (4, _), (5, _), (15, _), (16, _), (17, _)] [_, _, _, _, _, _, _, _] (SubE.cons rfl (SubE.cons rfl (SubE.cons rfl (SubE.cons rfl (SubE.cons rfl (SubE.cons rfl (SubE.nil _))))))) (fun w hM => hM.sublist (List.Sublist.cons_cons _ (List.Sublist.cons_cons _ (List.Sublist.cons_cons _ (List.Sublist.cons_cons _ (List.Sublist.cons_cons _ (List.Sublist.cons_cons _ (List.Sublist.cons_cons _ (List.Sublist.cons_cons _ (List.Sublist.slnil)))))))))) [(6, fun q => vI q)] [] (fun q => q ≤ 9223372036854775807) ?_ ?_
      · -- up to the cut
        refine st_seq ?_
        refine st_region ?_
        refine st_v (rv_move rfl) (by decide) ?_
        refine st_v (rv_lssZ rfl rfl) (by decide) ?_
        refine st_nil ?_
        refine st_then ?_
        refine st_cond rfl (fun hc85 => ?_) (fun hc85 => ?_)
        · -- t85 True
          try simp only [decide_eq_true_eq, decide_eq_false_iff_not, Bool.and_eq_true, Bool.or_eq_true, Bool.and_eq_false_iff, Bool.or_eq_false_iff, Bool.not_eq_true, Bool.not_eq_eq_eq_not, Bool.not_true, Bool.not_false, Int.not_lt, Int.not_le, ne_eq, Decidable.not_not] at hc85
          refine st_region ?_
          refine st_v (rv_move rfl) (by decide) ?_
          first | refine st_v (rv_addN (b := 1) rfl rfl (by first | omega | (simp <;> omega))) (by decide) ?_ | refine st_v (rv_addZ rfl rfl (by first | omega | (simp <;> omega))) (by decide) ?_
          refine st_v (rv_negZ rfl (by first | omega | (simp <;> omega))) (by decide) ?_
          refine st_v (rv_assign rfl) (by decide) ?_
          refine st_nil ?_
          refine st_then ?_
          exact st_meet (-(y + 1)).toNat (by omega) (SubE.cons (congrArg some (congrArg (fun z : Int => vI z) (by omega))) (SubE.cons rfl (SubE.cons rfl (SubE.cons rfl (SubE.cons rfl (SubE.cons rfl (SubE.cons rfl (SubE.nil _)))))))) (fun _ hM => hM)
        · -- t85 False
          try simp only [decide_eq_true_eq, decide_eq_false_iff_not, Bool.and_eq_true, Bool.or_eq_true, Bool.and_eq_false_iff, Bool.or_eq_false_iff, Bool.not_eq_true, Bool.not_eq_eq_eq_not, Bool.not_true, Bool.not_false, Int.not_lt, Int.not_le, ne_eq, Decidable.not_not] at hc85
          refine st_skip ?_
          refine st_then ?_
          exact st_meet y.toNat (by omega) (SubE.cons (congrArg some (congrArg (fun z : Int => vI z) (by omega))) (SubE.cons rfl (SubE.cons rfl (SubE.cons rfl (SubE.cons rfl (SubE.cons rfl (SubE.cons rfl (SubE.nil _)))))))) (fun _ hM => hM)
      · -- behind the cut
        intro q hI
        try dsimp only at hI
        dsimp only [List.map, List.cons_append, List.nil_append]
        refine st_seq ?_
        refine st_region ?_
        refine st_buildO0 Tryd.underlying22 tyZ5 rfl (by decide) (fun v9 => ?_)
        refine st_v (rv_move rfl) (by decide) ?_
        refine st_append8 Tryd.underlying22 Tryd.underlying22 (.inr ⟨_, rfl⟩) tyZ5 rfl rfl rfl (i := 0) rfl (fun w hM => src_rd ((rd_own (i := 3) rfl) w hM) (one8 _)) (by first | omega | exact Nat.mod_lt _ (by omega) | (simp [length_fill0, length_tamp, over] <;> omega)) (by first | omega | exact Nat.mod_lt _ (by omega) | (simp [length_fill0, length_tamp, over] <;> omega)) (by decide) (fun v9 => ?_)
        refine st_v (rv_assign rfl) (by decide) ?_
        rw [Nat.zero_add (sOut (fill0 32 key) (fill0 12 nonce) adj text).length, List.nil_append (sOut (fill0 32 key) (fill0 12 nonce) adj text)]
        refine st_nil ?_
        refine st_then ?_
        refine st_seq ?_
        refine st_drawStart mixed ?_
        refine st_drawSeg1 (E0 := [(3, _), (4, _), (5, _), (6, _), (15, _), (16, _), (20, _)]) [kpeq _, kpeq _, kpeq _, kpeq _, kpeq _, kpeq _, kpeq _, kpeq _, kpeq _, kpeq _, kpeq _, kpeq _, kpeq _, kpeq _, kpeq _, kpeq _, kpeq _] 0 17 [0, 0, 0, 4, 14, 0, 0, 0, 128, 448, 992, 2016, 0, 4096, 12288, 28672, 65504, 131071, 262143] [3, 4, 5, 6, 15, 16, 20] (by kernel_rfl) (by decide) (by kernel_rfl) (SubE.cons rfl (SubE.cons rfl (SubE.cons rfl (SubE.cons rfl (SubE.cons rfl (SubE.cons rfl (SubE.cons rfl (SubE.nil _)))))))) rfl rfl (hall_cons (hop_val [] [] rfl rfl rfl (by decide) rfl (jnil) (xnil) (fun _ _ _ _ => does_v (rv_move rfl))) (hall_cons (hop_val [] [] rfl rfl rfl (by decide) rfl (jnil) (xnil) (fun _ _ _ _ => does_v (rv_move rfl))) (hall_cons (hop_val [] [] rfl rfl rfl (by decide) rfl (jnil) (xnil) (fun _ _ _ _ => does_v (rv_move rfl))) (hall_cons (hop_val [(2, 94, _)] [] rfl rfl rfl (by decide) rfl (jcons rfl rfl rfl rfl rfl (jnil)) (xnil) (fun _ _ _ _ => does_v (rv_lenR (rd_own (i := 0) rfl) Tryd.underlying22 rfl))) (hall_cons (hop_val [(1, 93, _), (3, 95, _)] [] rfl rfl rfl (by decide) rfl (jcons rfl rfl rfl rfl rfl (jcons rfl rfl rfl rfl rfl (jnil))) (xnil) (fun _ _ _ _ => does_v (rv_remN rfl rfl (by first | omega | (simp <;> omega))))) (hall_cons (hop_val [] [] rfl rfl rfl (by decide) rfl (jnil) (xnil) (fun _ _ _ _ => does_v (rv_move rfl))) (hall_cons (hop_val [] [] rfl rfl rfl (by decide) rfl (jnil) (xnil) (fun _ _ _ _ => does_v (rv_move rfl))) (hall_cons (hop_val [] [] rfl rfl rfl (by decide) rfl (jnil) (xnil) (fun _ _ _ _ => does_v (rv_move rfl))) (hall_cons (hop_val [(7, 99, _)] [] rfl rfl rfl (by decide) rfl (jcons rfl rfl rfl rfl rfl (jnil)) (xnil) (fun _ _ _ _ => does_v (rv_lenR (rd_own (i := 0) rfl) Tryd.underlying22 rfl))) (hall_cons (hop_val [(6, 98, _), (8, 100, _)] [] rfl rfl rfl (by decide) rfl (jcons rfl rfl rfl rfl rfl (jcons rfl rfl rfl rfl rfl (jnil))) (xnil) (fun _ _ _ _ => does_v (rv_remN rfl rfl (by first | omega | (simp <;> omega))))) (hall_cons (hop_val [(5, 97, _), (9, 101, _)] [] rfl rfl rfl (by decide) rfl (jcons rfl rfl rfl rfl rfl (jcons rfl rfl rfl rfl rfl (jnil))) (xnil) (fun _ _ _ _ => does_v (rv_indexR1 (rd_own (i := 0) rfl) Tryd.underlying22 sz5 rfl rfl rfl (by first | omega | exact Nat.mod_lt _ (by omega) | (simp [length_fill0, length_tamp, over] <;> omega))))) (hall_cons (hop_val [(10, 102, _)] [] rfl rfl rfl (by decide) rfl (jcons rfl rfl rfl rfl rfl (jnil)) (xnil) (fun _ _ _ _ => does_v (rv_load_rd (rd_own (i := 0) rfl) tyS5 rfl (get8 (by first | omega | exact Nat.mod_lt _ (by omega) | (simp [length_fill0, length_tamp, over] <;> omega)))))) (hall_cons (hop_val [] [] rfl rfl rfl (by decide) rfl (jnil) (xnil) (fun _ _ _ _ => does_v (rv_move rfl))) (hall_cons (hop_val [(12, 104, _)] [] rfl rfl rfl (by decide) rfl (jcons rfl rfl rfl rfl rfl (jnil)) (xnil) (fun _ _ _ _ => does_v (rv_remN (b := 255) rfl rfl (by first | omega | (simp <;> omega))))) (hall_cons (hop_val [(13, 105, _)] [] rfl rfl rfl (by decide) rfl (jcons rfl rfl rfl rfl rfl (jnil)) (xnil) (fun _ _ _ _ => does_v (rv_addN (a := 1) rfl rfl (by first | omega | (simp <;> omega))))) (hall_cons (hop_val [(14, 106, _)] [] rfl rfl rfl (by decide) rfl (jcons rfl rfl rfl rfl rfl (jnil)) (xnil) (fun _ _ _ _ => does_v (rv_convIto8 Tryd.underlying3 Tryd.underlying5 rfl))) (hall_cons (hop_val [(11, 103, _), (15, 107, _)] [] rfl rfl rfl (by decide) rfl (jcons rfl rfl rfl rfl rfl (jcons rfl rfl rfl rfl rfl (jnil))) (xnil) (fun _ _ _ _ => does_v (rv_xor8 rfl rfl))) (hall_nil)))))))))))))))))) (draw_end1 [(0, 92, _), (4, 96, _), (16, 108, _)] (jcons rfl rfl rfl rfl rfl (jcons rfl rfl rfl rfl rfl (jcons rfl rfl rfl rfl rfl (jnil)))) ?_)
        refine st_drawTail (N := 17) [0, 0, 0, 4, 14, 0, 0, 0, 128, 448, 992, 2016, 0, 4096, 12288, 28672, 65504, 131071, 262143] (by kernel_rfl) (by kernel_rfl) ?_
        refine st_v (rv_indexR1 (rd_own (i := 0) rfl) Tryd.underlying22 sz5 rfl rfl rfl (by first | omega | exact Nat.mod_lt _ (by omega) | (simp [length_fill0, length_tamp, over] <;> omega))) (by decide) ?_
        refine st_storeOwn8 rfl rfl (i := 0) rfl sz5 (by first | omega | exact Nat.mod_lt _ (by omega) | (simp [length_fill0, length_tamp, over] <;> omega)) rfl ?_
        refine st_nil ?_
        refine st_then ?_
        refine st_seq ?_
        refine st_region ?_
        refine st_v (rv_move rfl) (by decide) ?_
        refine st_v (rv_move rfl) (by decide) ?_
        refine st_v (rv_move rfl) (by decide) ?_
        refine st_bytes Tryd.underlying9 Tryd.underlying22 Tryd.underlying5 rfl (by decide) (fun v10 => ?_)
        refine st_v (rv_move rfl) (by decide) ?_
        refine st_call1 (ρ := Value) (fun v => .tuple #[v, vI (oErr (fill0 32 key) (fill0 12 nonce) adj (tamp (sOut (fill0 32 key) (fill0 12 nonce) adj text) p q))]) (fun _ => True) (fun v => [own v 5 1 (oOut (fill0 32 key) (fill0 12 nonce) adj (tamp (sOut (fill0 32 key) (fill0 12 nonce) adj text) p q)).length ((oOut (fill0 32 key) (fill0 12 nonce) adj (tamp (sOut (fill0 32 key) (fill0 12 nonce) adj text) p q)).map U8)]) cal13 rfl (fun w hM => (aesOpen_calls _ _ _ _ (fill0 32 key) (fill0 12 nonce) adj (tamp (sOut (fill0 32 key) (fill0 12 nonce) adj text) p q) (by rw [length_fill0]; omega) (by omega) (by rw [length_tamp]; omega) w (hT.at hM hS0 hS1) (Rd.n_eq ((rd_w8 (i := 8) rfl (by first | omega | (simp [length_fill0, length_tamp, over]; done) | (simp [length_fill0, length_tamp, over] <;> omega)) (by omega)) w hM) (length_fill0 _ _).symm) (Rd.n_eq ((rd_w8 (i := 7) rfl (by first | omega | (simp [length_fill0, length_tamp, over]; done) | (simp [length_fill0, length_tamp, over] <;> omega)) (by omega)) w hM) (length_fill0 _ _).symm) ((rd_own (i := 0) rfl) w hM) (Rd.n_eq ((rd_own (i := 1) rfl) w hM) (length_tamp _ _ _).symm)).mono fun e w' ⟨r, h1, h2⟩ => ⟨r, h1, trivial, h2⟩) (by decide) (fun v11 _ => ?_)
        refine st_v (rv_move rfl) (by decide) ?_
        refine st_v (rv_extract rfl rfl) (by decide) ?_
        refine st_v (rv_extract rfl rfl) (by decide) ?_
        refine st_v (rv_assign rfl) (by decide) ?_
        refine st_v (rv_assign rfl) (by decide) ?_
        refine st_nil ?_
        refine st_then ?_
        refine st_seq ?_
        refine st_seq ?_
        refine st_region ?_
        refine st_v (rv_move rfl) (by decide) ?_
        refine st_v (rv_neqZ rfl rfl) (by decide) ?_
        refine st_nil ?_
        refine st_then ?_
        refine st_cond rfl (fun hc120 => ?_) (fun hc120 => ?_)
        · -- t120 True
          try simp only [decide_eq_true_eq, decide_eq_false_iff_not, Bool.and_eq_true, Bool.or_eq_true, Bool.and_eq_false_iff, Bool.or_eq_false_iff, Bool.not_eq_true, Bool.not_eq_eq_eq_not, Bool.not_true, Bool.not_false, Int.not_lt, Int.not_le, ne_eq, Decidable.not_not] at hc120
          have hp : opens (fill0 32 key) (fill0 12 nonce) adj (tamp (sOut (fill0 32 key) (fill0 12 nonce) adj text) p q) = false := by (cases h : opens (fill0 32 key) (fill0 12 nonce) adj (tamp (sOut (fill0 32 key) (fill0 12 nonce) adj text) p q) with | false => rfl | true => exact absurd (by simp [oErr, ho, h]) hc120)
          refine st_seq ?_
          refine st_region ?_
          refine st_v (rv_move rfl) (by decide) ?_
          refine st_v (rv_lenR (rd_own (i := 0) rfl) Tryd.underlying22 rfl) (by decide) ?_
          refine st_v (rv_eqlZ rfl rfl) (by decide) ?_
          refine st_v (rv_assign rfl) (by decide) ?_
          refine st_nil ?_
          refine st_then ?_
          refine st_ret ?_
          refine st_then_ret ?_
          exact st_done rfl rfl (fun w hM => ⟨by simp [oOut, ho, hp], hM.sublist (List.nil_sublist _)⟩)
        · -- t120 False
          try simp only [decide_eq_true_eq, decide_eq_false_iff_not, Bool.and_eq_true, Bool.or_eq_true, Bool.and_eq_false_iff, Bool.or_eq_false_iff, Bool.not_eq_true, Bool.not_eq_eq_eq_not, Bool.not_true, Bool.not_false, Int.not_lt, Int.not_le, ne_eq, Decidable.not_not] at hc120
          have hp : opens (fill0 32 key) (fill0 12 nonce) adj (tamp (sOut (fill0 32 key) (fill0 12 nonce) adj text) p q) = true := by (cases h : opens (fill0 32 key) (fill0 12 nonce) adj (tamp (sOut (fill0 32 key) (fill0 12 nonce) adj text) p q) with | true => rfl | false => exact absurd hc120 (by simp [oErr, ho, h]))
          have hsc := seal_opened (fill0 32 key) (fill0 12 nonce) adj (tamp (sOut (fill0 32 key) (fill0 12 nonce) adj text) p q) ho hp
          have hne : ¬ oOut (fill0 32 key) (fill0 12 nonce) adj (tamp (sOut (fill0 32 key) (fill0 12 nonce) adj text) p q) = text := fun h => tamp_ne (sOut (fill0 32 key) (fill0 12 nonce) adj text) p q (by omega) (by rw [← hsc, h])
          have hol : (oOut (fill0 32 key) (fill0 12 nonce) adj (tamp (sOut (fill0 32 key) (fill0 12 nonce) adj text) p q)).length ≤ 900000 := by (have := length_oOut (fill0 32 key) (fill0 12 nonce) adj (tamp (sOut (fill0 32 key) (fill0 12 nonce) adj text) p q); rw [length_tamp] at this; omega)
          refine st_skip ?_
          refine st_then ?_
          refine st_seq ?_
          refine st_region ?_
          refine st_v (rv_move rfl) (by decide) ?_
          refine st_v (rv_move rfl) (by decide) ?_
          refine st_v (rv_move rfl) (by decide) ?_
          refine st_bytes Tryd.underlying9 Tryd.underlying22 Tryd.underlying5 rfl (by decide) (fun v12 => ?_)
          refine st_v (rv_move rfl) (by decide) ?_
          refine st_call1 (ρ := Value) (fun v => .tuple #[v, vI (sErr (fill0 32 key) (fill0 12 nonce))]) (fun _ => True) (fun v => [own v 5 1 (sOut (fill0 32 key) (fill0 12 nonce) adj (oOut (fill0 32 key) (fill0 12 nonce) adj (tamp (sOut (fill0 32 key) (fill0 12 nonce) adj text) p q))).length ((sOut (fill0 32 key) (fill0 12 nonce) adj (oOut (fill0 32 key) (fill0 12 nonce) adj (tamp (sOut (fill0 32 key) (fill0 12 nonce) adj text) p q))).map U8)]) cal12 rfl (fun w hM => (aesSeal_calls _ _ _ _ (fill0 32 key) (fill0 12 nonce) adj (oOut (fill0 32 key) (fill0 12 nonce) adj (tamp (sOut (fill0 32 key) (fill0 12 nonce) adj text) p q)) (by rw [length_fill0]; omega) (by omega) (hol) w (hT.at hM hS0 hS1) (Rd.n_eq ((rd_w8 (i := 10) rfl (by first | omega | (simp [length_fill0, length_tamp, over]; done) | (simp [length_fill0, length_tamp, over] <;> omega)) (by omega)) w hM) (length_fill0 _ _).symm) (Rd.n_eq ((rd_w8 (i := 9) rfl (by first | omega | (simp [length_fill0, length_tamp, over]; done) | (simp [length_fill0, length_tamp, over] <;> omega)) (by omega)) w hM) (length_fill0 _ _).symm) ((rd_own (i := 0) rfl) w hM) ((rd_own (i := 1) rfl) w hM)).mono fun e w' ⟨r, h1, h2⟩ => ⟨r, h1, trivial, h2⟩) (by decide) (fun v13 _ => ?_)
          refine st_v (rv_move rfl) (by decide) ?_
          refine st_v (rv_extract rfl rfl) (by decide) ?_
          refine st_v (rv_extract rfl rfl) (by decide) ?_
          refine st_v (rv_assign rfl) (by decide) ?_
          refine st_v (rv_assign rfl) (by decide) ?_
          refine st_nil ?_
          refine st_then ?_
          refine st_seq ?_
          refine st_region ?_
          refine st_v (rv_move rfl) (by decide) ?_
          refine st_v (rv_eqlZ rfl rfl) (by decide) ?_
          refine st_v (rv_move rfl) (by decide) ?_
          refine' st_and 6 (L := _) (s := 135) (d := 141) [4, 21] rfl (fun hg3 => ?_) (fun _ => ?_) ?_; rotate_left
          · -- true
            try simp only [decide_eq_true_eq, decide_eq_false_iff_not, Bool.and_eq_true, Bool.not_eq_true] at hg3
            refine st_gon rfl rfl ?_
            refine st_v (rv_move rfl) (by decide) ?_
            refine st_gon rfl rfl ?_
            refine st_v (rv_string (rd_own (i := 0) rfl) Tryd.underlying22 Tryd.underlying9 Tryd.underlying5 rfl) (by decide) ?_
            refine st_gon rfl rfl ?_
            refine st_v (rv_move rfl) (by decide) ?_
            refine st_gon rfl rfl ?_
            refine st_v (rv_string (rd_own (i := 4) rfl) Tryd.underlying22 Tryd.underlying9 Tryd.underlying5 rfl) (by decide) ?_
            refine st_gon rfl rfl ?_
            refine st_v (rv_eqlB rfl rfl) (by decide) ?_
            first | refine st_v (rv_pick_true rfl rfl) (by decide) ?_ | refine st_v (rv_pick_false rfl rfl) (by decide) ?_ | refine st_v (rv_pick rfl rfl rfl) (by decide) ?_
            refine st_nil ?_
            exact st_meet_b (SubE.cons rfl (SubE.cons rfl (SubE.cons rfl (SubE.nil _))))
          · -- false
            refine st_gskip rfl rfl rfl (by decide) ?_
            refine st_gskip rfl rfl rfl (by decide) ?_
            refine st_gskip rfl rfl rfl (by decide) ?_
            refine st_gskip rfl rfl rfl (by decide) ?_
            refine st_gskip rfl rfl rfl (by decide) ?_
            first | refine st_v (rv_pick_true rfl rfl) (by decide) ?_ | refine st_v (rv_pick_false rfl rfl) (by decide) ?_ | refine st_v (rv_pick rfl rfl rfl) (by decide) ?_
            refine st_nil ?_
            exact st_meet_b (SubE.cons rfl (SubE.cons rfl (SubE.cons rfl (SubE.nil _))))
          refine st_v (rv_move rfl) (by decide) ?_
          refine' st_and 5 (L := _) (s := 142) (d := 147) [] rfl (fun hg10 => ?_) (fun _ => ?_) ?_; rotate_left
          · -- true
            try simp only [decide_eq_true_eq, decide_eq_false_iff_not, Bool.and_eq_true, Bool.not_eq_true] at hg10
            refine st_gon rfl rfl ?_
            refine st_v (rv_move rfl) (by decide) ?_
            refine st_gon rfl rfl ?_
            refine st_v (rv_string (rd_own (i := 2) rfl) Tryd.underlying22 Tryd.underlying9 Tryd.underlying5 rfl) (by decide) ?_
            refine st_gon rfl rfl ?_
            refine st_v (rv_move rfl) (by decide) ?_
            refine st_gon rfl rfl ?_
            refine st_v (rv_neqB rfl rfl) (by decide) ?_
            first | refine st_v (rv_pick_true rfl rfl) (by decide) ?_ | refine st_v (rv_pick_false rfl rfl) (by decide) ?_ | refine st_v (rv_pick rfl rfl rfl) (by decide) ?_
            refine st_nil ?_
            exact st_meet_b (SubE.cons rfl (SubE.nil _))
          · -- false
            refine st_gskip rfl rfl rfl (by decide) ?_
            refine st_gskip rfl rfl rfl (by decide) ?_
            refine st_gskip rfl rfl rfl (by decide) ?_
            refine st_gskip rfl rfl rfl (by decide) ?_
            first | refine st_v (rv_pick_true rfl rfl) (by decide) ?_ | refine st_v (rv_pick_false rfl rfl) (by decide) ?_ | refine st_v (rv_pick rfl rfl rfl) (by decide) ?_
            refine st_nil ?_
            exact st_meet_b (SubE.cons rfl (SubE.nil _))
          refine st_v (rv_assign rfl) (by decide) ?_
          refine st_nil ?_
          refine st_then ?_
          refine st_ret ?_
          exact st_done rfl rfl (fun w hM => ⟨by simp [sErr, ho, hsc, hne]; rfl, hM.sublist (List.nil_sublist _)⟩)
end Go.Proofs.YtpihffpdkfkkhaaDoor
