/- Walks: what functions of the given program do, operation by operation. Written by wip/gen. -/
import Derived.Test.YtjhjjhpfjadjpaaDoorHV
import Derived.Test.YtjhjjhpfjadjpaaDoorHO
namespace Go.Proofs.YtjhjjhpfjadjpaaDoor
set_option linter.all false
open Go
def nK : Nat → Nat | 0 => 64 | _ => 80
def fH : Nat → Nat | 1 => 8 | _ => 0
/-- a hash of the reference, for reading -/
def hrA (k xb : Nat) (vK vH : Value) : Asn where
  holds w := (∃ fr : Nat × Nat, w.heap[xb]? = some (.cells #[vI (k : Nat), vK, vH] 130 fr)) ∧ Rd w vK (nK k) 1 ((constK (nK k)).map U64) ∧ Rd w vH 8 1 ((constH (fH k) 8).map U64)
  foot b := b = xb ∨ vfoot vK b ∨ vfoot vH b
  turn _ := False
  keep w w' h hr := ⟨by obtain ⟨fr, h1⟩ := hr.1; exact ⟨fr, (h xb (.inl rfl)).trans h1⟩, hr.2.1.same fun b hb => h b (.inr (.inl hb)), hr.2.2.same fun b hb => h b (.inr (.inr hb))⟩
  live w hr b hb := by
    rcases hb with rfl | hb | hb
    · obtain ⟨fr, h1⟩ := hr.1
      exact (Array.getElem?_eq_some_iff.1 h1).1
    · exact hr.2.1.live b hb
    · exact hr.2.2.live b hb
  sub _ h := h.elim
theorem Mem.toHr {k xb : Nat} {vK vH : Value} {S : Nat → Prop} {w0 w : World} (M : Mem S w0 w [blk xb #[vI (k : Nat), vK, vH] 130, own vK 77 1 (nK k) ((constK (nK k)).map U64), own vH 77 1 8 ((constH (fH k) 8).map U64)]) : Mem S w0 w [hrA k xb vK vH] := by
  have M1 := Mem.pack (lm := [blk xb #[vI (k : Nat), vK, vH] 130, own vK 77 1 (nK k) ((constK (nK k)).map U64), own vH 77 1 8 ((constH (fH k) 8).map U64)]) (lf := []) M
  obtain ⟨fr, hb, _⟩ := M.holds _ List.mem_cons_self
  have h1 : (own vK 77 1 (nK k) ((constK (nK k)).map U64)).holds w := M.holds _ (List.mem_cons_of_mem _ List.mem_cons_self)
  have h2 : (own vH 77 1 8 ((constH (fH k) 8).map U64)).holds w := M.holds _ (List.mem_cons_of_mem _ (List.mem_cons_of_mem _ List.mem_cons_self))
  refine M1.replace (i := 0) rfl rfl rfl rfl (Nat.le_refl _) (fun _ _ _ => rfl) ⟨⟨fr, hb⟩, own_rd h1, own_rd h2⟩ (fun b hb => .inl ?_)
  rcases hb with rfl | hb | hb
  · exact ⟨_, List.mem_cons_self, rfl⟩
  · exact ⟨_, List.mem_cons_of_mem _ List.mem_cons_self, hb⟩
  · exact ⟨_, List.mem_cons_of_mem _ (List.mem_cons_of_mem _ List.mem_cons_self), hb⟩
theorem hsize_le_hbs (k : Nat) : hsize k ≤ hbs k := by
  unfold hsize hbs; split <;> simp_all
theorem length_keyN {k : Nat} (hk : k ≤ 2) (key : List (BitVec 8)) : (keyN k key).length ≤ hbs k := by
  rw [keyN]; split
  · rw [length_hsum hk]; exact hsize_le_hbs k
  · omega
theorem key0_eq {k : Nat} (hk : k ≤ 2) (key : List (BitVec 8)) : key0 k key = keyN k key ++ List.replicate (hbs k - (keyN k key).length) 0#8 := by
  have := length_keyN hk key
  rw [key0, Nat.min_eq_right this, List.take_of_length_le (Nat.le_refl _), over]
  simp
theorem rpad {k : Nat} (hk : k ≤ 2) (key : List (BitVec 8)) (b : BitVec 8) : xorTo (keyN k key ++ List.replicate (hbs k - (keyN k key).length) 0#8) b (keyN k key ++ List.replicate (hbs k - (keyN k key).length) 0#8).length = kpad k key b := by
  rw [← key0_eq hk, length_key0, kpad]
theorem tW_str (k : Nat) (key q : List (BitVec 8)) (j : Nat) : hmacW k key ((tW k key q j ++ q) ++ [BitVec.ofNat 8 (1 + j)]) = tW k key q (j + 1) := by
  rw [tW]; simp
theorem num2 (N : Nat) (h : N ≤ 65535) : numW (BitVec.ofNat 64 N) 2 = [BitVec.ofNat 8 (N / 2 ^ 8), BitVec.ofNat 8 N] := by
  have e : ∀ m, m ≤ 65535 → (BitVec.ofNat 64 m).setWidth 8 = BitVec.ofNat 8 m := fun m hm => by
    apply BitVec.eq_of_toNat_eq
    rw [BitVec.toNat_setWidth, BitVec.toNat_ofNat, BitVec.toNat_ofNat, Nat.mod_eq_of_lt (by omega : m < 2 ^ 64)]
  have e2 : BitVec.ofNat 64 N >>> 8 = BitVec.ofNat 64 (N / 2 ^ 8) := by
    apply BitVec.eq_of_toNat_eq
    rw [BitVec.toNat_ushiftRight, BitVec.toNat_ofNat, BitVec.toNat_ofNat, Nat.mod_eq_of_lt (by omega : N < 2 ^ 64), Nat.shiftRight_eq_div_pow, Nat.mod_eq_of_lt (by omega)]
  show [((BitVec.ofNat 64 N) >>> 8).setWidth 8] ++ ([(BitVec.ofNat 64 N).setWidth 8] ++ []) = _
  rw [e2, e _ h, e _ (by omega)]; rfl
theorem num1 (N : Nat) (h : N ≤ 65535) : numW (BitVec.ofNat 64 N) 1 = [BitVec.ofNat 8 N] := by
  show [(BitVec.ofNat 64 N).setWidth 8] ++ [] = _
  rw [List.append_nil]
  congr 1
  apply BitVec.eq_of_toNat_eq
  rw [BitVec.toNat_setWidth, BitVec.toNat_ofNat, BitVec.toNat_ofNat, Nat.mod_eq_of_lt (by omega : N < 2 ^ 64)]
set_option maxRecDepth 20000 in
theorem Make0_calls (w : World) : Calls Tryd.prog 40 #[vI (0 : Nat)] w (fun e w' => ∃ r : Nat × Value × Value, e = .returned (pt r.1 0) ∧ Mem (All w) w w' [hrA 0 r.1 r.2.1 r.2.2]) := by
  refine calls_of_st (n := 15) (args := [vI (0 : Nat)]) Tryd.func40 rfl Tryd.ntmps40 (Nat.le_of_ble_eq_true rfl) (Mem.all w) ?_
  refine st_seq ?_
  refine st_region ?_
  refine st_v (rv_assign rfl) (by decide) ?_
  refine st_nil ?_
  refine st_then ?_
  refine st_seq ?_
  refine st_region ?_
  refine st_v (rv_move rfl) (by decide) ?_
  refine st_call1 (ρ := Value × Value) (fun r => .tuple #[r.1, r.2]) (fun _ => True) (fun r => [own r.1 77 1 64 ((constK 64).map U64), own r.2 77 1 8 ((constH 0 8).map U64)]) cal84 rfl (fun w hM => ((Constants0_calls w)).mono fun e w' ⟨r, h1, h2⟩ => ⟨r, h1, trivial, h2⟩) (by decide) (fun r1 _ => ?_)
  refine st_v (rv_move rfl) (by decide) ?_
  refine st_v (rv_extract (v := r1.1) rfl rfl) (by decide) ?_
  refine st_v (rv_extract (v := r1.2) rfl rfl) (by decide) ?_
  refine st_v (rv_assign rfl) (by decide) ?_
  refine st_v (rv_assign rfl) (by decide) ?_
  refine st_nil ?_
  refine st_then ?_
  refine st_seq ?_
  refine st_region ?_
  refine st_v (rv_move rfl) (by decide) ?_
  refine st_v (rv_move rfl) (by decide) ?_
  refine st_v (rv_move rfl) (by decide) ?_
  refine St.know (fun w hM => cells_rd ((rd_own (i := 0) rfl) w hM)) (fun hcl23 => ?_)
  refine St.know (fun w hM => cells_rd ((rd_own (i := 1) rfl) w hM)) (fun hcl24 => ?_)
  refine st_v (rv_buildStruct_of Tryd.underlying130 tyZ130 (places := [(0, 1), (1, 1), (2, 1)]) (by kernel_rfl) rfl (cs := #[_, _, _]) (by first | rfl | (simp only [fillL, hcl23, hcl24] <;> rfl))) (by decide) ?_
  refine st_box rfl (by decide) rfl (fun b2 hb2 => ?_)
  refine st_v (rv_assign rfl) (by decide) ?_
  refine st_nil ?_
  refine st_then ?_
  refine st_ret ?_
  exact st_done rfl rfl (fun w hM => ⟨(b2, r1.1, r1.2), rfl, Mem.toHr (k := 0) hM⟩)
set_option maxRecDepth 20000 in
theorem rHS0_calls (xb : Nat) (vK vH : Value) (s : List (BitVec 8)) (hs : s.length ≤ 900000) (w : World) (hX : (hrA 0 xb vK vH).holds w) : Calls Tryd.prog 88 #[pt xb 0, vS s] w (fun r w' => r = .returned (vS (hsum 0 s)) ∧ Mem (All w) w w' []) := by
  obtain ⟨⟨fr, hrow⟩, hKR, hHR⟩ := hX
  have hSx : All w xb := ⟨(Array.getElem?_eq_some_iff.1 hrow).1, fun h => h⟩
  refine calls_of_st (n := 19) (args := [pt xb 0, vS s]) Tryd.func88 rfl Tryd.ntmps88 (Nat.le_of_ble_eq_true rfl) (Mem.all w) ?_
  refine st_seq ?_
  refine st_region ?_
  refine st_v (rv_assign rfl) (by decide) ?_
  refine st_nil ?_
  refine st_then ?_
  refine st_seq ?_
  refine st_heldStart 15 [false, false, false, false, false, false, false, false, false, false, false, false, false, false, false] mixed rfl rfl ?_
  refine st_heldTake 0 rfl rfl (by kernel_rfl) rfl (fun _ _ _ h => h) rfl (by decide) (rv_move rfl) ?_
  refine st_heldTake 1 rfl rfl (by kernel_rfl) rfl (fun _ _ _ h => h) rfl (by decide) (rv_nilCheck rfl) ?_
  refine st_heldTake 2 rfl rfl (by kernel_rfl) rfl (fun _ _ _ h => h) rfl (by decide) (rv_fieldAddr Tryd.underlying130 (fs := _) rfl sz48 rfl rfl) ?_
  refine st_heldTake 3 rfl rfl (by kernel_rfl) rfl (fun _ _ _ h => h) rfl (by decide) (rv_load_old tyS48 rfl hrow hSx rfl) ?_
  refine st_heldTake 4 rfl rfl (by kernel_rfl) rfl (fun _ _ _ h => h) rfl (by decide) (rv_move rfl) ?_
  refine st_heldTake 5 rfl rfl (by kernel_rfl) rfl (fun _ _ _ h => h) rfl (by decide) (rv_move rfl) ?_
  refine st_heldTake 6 rfl rfl (by kernel_rfl) rfl (fun _ _ _ h => h) rfl (by decide) (rv_nilCheck rfl) ?_
  refine st_heldTake 7 rfl rfl (by kernel_rfl) rfl (fun _ _ _ h => h) rfl (by decide) (rv_fieldAddr Tryd.underlying130 (fs := _) rfl sz121 rfl rfl) ?_
  refine st_heldTake 8 rfl rfl (by kernel_rfl) rfl (fun _ _ _ h => h) rfl (by decide) (rv_load_old tyS121 rfl hrow hSx rfl) ?_
  refine st_heldTake 9 rfl rfl (by kernel_rfl) rfl (fun _ _ _ h => h) rfl (by decide) (rv_move rfl) ?_
  refine st_heldTake 10 rfl rfl (by kernel_rfl) rfl (fun _ _ _ h => h) rfl (by decide) (rv_nilCheck rfl) ?_
  refine st_heldTake 11 rfl rfl (by kernel_rfl) rfl (fun _ _ _ h => h) rfl (by decide) (rv_fieldAddr Tryd.underlying130 (fs := _) rfl sz121 rfl rfl) ?_
  refine st_heldTake 12 rfl rfl (by kernel_rfl) rfl (fun _ _ _ h => h) rfl (by decide) (rv_load_old tyS121 rfl hrow hSx rfl) ?_
  refine st_heldOp 13 rfl (by kernel_rfl) rfl ?_
  refine st_call0 cal85 rfl (fun w hM => (withH0_calls s _ _ hs w ((rd_old hKR hKR.all) w hM) ((rd_old hHR hHR.all) w hM))) (by decide) ?_
  refine st_nil ?_
  refine st_thenH ?_
  refine st_heldOp 14 rfl (by kernel_rfl) rfl ?_
  refine st_v (rv_assign rfl) (by decide) ?_
  refine st_nil ?_
  refine st_thenH ?_
  refine st_heldDone (by kernel_rfl) ?_
  refine st_then ?_
  refine st_ret ?_
  exact st_done rfl rfl (fun w hM => ⟨rfl, hM.sublist (List.nil_sublist _)⟩)
set_option maxRecDepth 20000 in
theorem Make1_calls (w : World) : Calls Tryd.prog 40 #[vI (1 : Nat)] w (fun e w' => ∃ r : Nat × Value × Value, e = .returned (pt r.1 0) ∧ Mem (All w) w w' [hrA 1 r.1 r.2.1 r.2.2]) := by
  refine calls_of_st (n := 15) (args := [vI (1 : Nat)]) Tryd.func40 rfl Tryd.ntmps40 (Nat.le_of_ble_eq_true rfl) (Mem.all w) ?_
  refine st_seq ?_
  refine st_region ?_
  refine st_v (rv_assign rfl) (by decide) ?_
  refine st_nil ?_
  refine st_then ?_
  refine st_seq ?_
  refine st_region ?_
  refine st_v (rv_move rfl) (by decide) ?_
  refine st_call1 (ρ := Value × Value) (fun r => .tuple #[r.1, r.2]) (fun _ => True) (fun r => [own r.1 77 1 80 ((constK 80).map U64), own r.2 77 1 8 ((constH 8 8).map U64)]) cal84 rfl (fun w hM => ((Constants1_calls w)).mono fun e w' ⟨r, h1, h2⟩ => ⟨r, h1, trivial, h2⟩) (by decide) (fun r1 _ => ?_)
  refine st_v (rv_move rfl) (by decide) ?_
  refine st_v (rv_extract (v := r1.1) rfl rfl) (by decide) ?_
  refine st_v (rv_extract (v := r1.2) rfl rfl) (by decide) ?_
  refine st_v (rv_assign rfl) (by decide) ?_
  refine st_v (rv_assign rfl) (by decide) ?_
  refine st_nil ?_
  refine st_then ?_
  refine st_seq ?_
  refine st_region ?_
  refine st_v (rv_move rfl) (by decide) ?_
  refine st_v (rv_move rfl) (by decide) ?_
  refine st_v (rv_move rfl) (by decide) ?_
  refine St.know (fun w hM => cells_rd ((rd_own (i := 0) rfl) w hM)) (fun hcl23 => ?_)
  refine St.know (fun w hM => cells_rd ((rd_own (i := 1) rfl) w hM)) (fun hcl24 => ?_)
  refine st_v (rv_buildStruct_of Tryd.underlying130 tyZ130 (places := [(0, 1), (1, 1), (2, 1)]) (by kernel_rfl) rfl (cs := #[_, _, _]) (by first | rfl | (simp only [fillL, hcl23, hcl24] <;> rfl))) (by decide) ?_
  refine st_box rfl (by decide) rfl (fun b2 hb2 => ?_)
  refine st_v (rv_assign rfl) (by decide) ?_
  refine st_nil ?_
  refine st_then ?_
  refine st_ret ?_
  exact st_done rfl rfl (fun w hM => ⟨(b2, r1.1, r1.2), rfl, Mem.toHr (k := 1) hM⟩)
set_option maxRecDepth 20000 in
theorem rHS1_calls (xb : Nat) (vK vH : Value) (s : List (BitVec 8)) (hs : s.length ≤ 900000) (w : World) (hX : (hrA 1 xb vK vH).holds w) : Calls Tryd.prog 88 #[pt xb 0, vS s] w (fun r w' => r = .returned (vS (hsum 1 s)) ∧ Mem (All w) w w' []) := by
  obtain ⟨⟨fr, hrow⟩, hKR, hHR⟩ := hX
  have hSx : All w xb := ⟨(Array.getElem?_eq_some_iff.1 hrow).1, fun h => h⟩
  refine calls_of_st (n := 19) (args := [pt xb 0, vS s]) Tryd.func88 rfl Tryd.ntmps88 (Nat.le_of_ble_eq_true rfl) (Mem.all w) ?_
  refine st_seq ?_
  refine st_region ?_
  refine st_v (rv_assign rfl) (by decide) ?_
  refine st_nil ?_
  refine st_then ?_
  refine st_seq ?_
  refine st_heldStart 15 [false, false, false, false, false, false, false, false, false, false, false, false, false, false, false] mixed rfl rfl ?_
  refine st_heldTake 0 rfl rfl (by kernel_rfl) rfl (fun _ _ _ h => h) rfl (by decide) (rv_move rfl) ?_
  refine st_heldTake 1 rfl rfl (by kernel_rfl) rfl (fun _ _ _ h => h) rfl (by decide) (rv_nilCheck rfl) ?_
  refine st_heldTake 2 rfl rfl (by kernel_rfl) rfl (fun _ _ _ h => h) rfl (by decide) (rv_fieldAddr Tryd.underlying130 (fs := _) rfl sz48 rfl rfl) ?_
  refine st_heldTake 3 rfl rfl (by kernel_rfl) rfl (fun _ _ _ h => h) rfl (by decide) (rv_load_old tyS48 rfl hrow hSx rfl) ?_
  refine st_heldTake 4 rfl rfl (by kernel_rfl) rfl (fun _ _ _ h => h) rfl (by decide) (rv_move rfl) ?_
  refine st_heldTake 5 rfl rfl (by kernel_rfl) rfl (fun _ _ _ h => h) rfl (by decide) (rv_move rfl) ?_
  refine st_heldTake 6 rfl rfl (by kernel_rfl) rfl (fun _ _ _ h => h) rfl (by decide) (rv_nilCheck rfl) ?_
  refine st_heldTake 7 rfl rfl (by kernel_rfl) rfl (fun _ _ _ h => h) rfl (by decide) (rv_fieldAddr Tryd.underlying130 (fs := _) rfl sz121 rfl rfl) ?_
  refine st_heldTake 8 rfl rfl (by kernel_rfl) rfl (fun _ _ _ h => h) rfl (by decide) (rv_load_old tyS121 rfl hrow hSx rfl) ?_
  refine st_heldTake 9 rfl rfl (by kernel_rfl) rfl (fun _ _ _ h => h) rfl (by decide) (rv_move rfl) ?_
  refine st_heldTake 10 rfl rfl (by kernel_rfl) rfl (fun _ _ _ h => h) rfl (by decide) (rv_nilCheck rfl) ?_
  refine st_heldTake 11 rfl rfl (by kernel_rfl) rfl (fun _ _ _ h => h) rfl (by decide) (rv_fieldAddr Tryd.underlying130 (fs := _) rfl sz121 rfl rfl) ?_
  refine st_heldTake 12 rfl rfl (by kernel_rfl) rfl (fun _ _ _ h => h) rfl (by decide) (rv_load_old tyS121 rfl hrow hSx rfl) ?_
  refine st_heldOp 13 rfl (by kernel_rfl) rfl ?_
  refine st_call0 cal85 rfl (fun w hM => (withH1_calls s _ _ hs w ((rd_old hKR hKR.all) w hM) ((rd_old hHR hHR.all) w hM))) (by decide) ?_
  refine st_nil ?_
  refine st_thenH ?_
  refine st_heldOp 14 rfl (by kernel_rfl) rfl ?_
  refine st_v (rv_assign rfl) (by decide) ?_
  refine st_nil ?_
  refine st_thenH ?_
  refine st_heldDone (by kernel_rfl) ?_
  refine st_then ?_
  refine st_ret ?_
  exact st_done rfl rfl (fun w hM => ⟨rfl, hM.sublist (List.nil_sublist _)⟩)
set_option maxRecDepth 20000 in
theorem Make2_calls (w : World) : Calls Tryd.prog 40 #[vI (2 : Nat)] w (fun e w' => ∃ r : Nat × Value × Value, e = .returned (pt r.1 0) ∧ Mem (All w) w w' [hrA 2 r.1 r.2.1 r.2.2]) := by
  refine calls_of_st (n := 15) (args := [vI (2 : Nat)]) Tryd.func40 rfl Tryd.ntmps40 (Nat.le_of_ble_eq_true rfl) (Mem.all w) ?_
  refine st_seq ?_
  refine st_region ?_
  refine st_v (rv_assign rfl) (by decide) ?_
  refine st_nil ?_
  refine st_then ?_
  refine st_seq ?_
  refine st_region ?_
  refine st_v (rv_move rfl) (by decide) ?_
  refine st_call1 (ρ := Value × Value) (fun r => .tuple #[r.1, r.2]) (fun _ => True) (fun r => [own r.1 77 1 80 ((constK 80).map U64), own r.2 77 1 8 ((constH 0 8).map U64)]) cal84 rfl (fun w hM => ((Constants2_calls w)).mono fun e w' ⟨r, h1, h2⟩ => ⟨r, h1, trivial, h2⟩) (by decide) (fun r1 _ => ?_)
  refine st_v (rv_move rfl) (by decide) ?_
  refine st_v (rv_extract (v := r1.1) rfl rfl) (by decide) ?_
  refine st_v (rv_extract (v := r1.2) rfl rfl) (by decide) ?_
  refine st_v (rv_assign rfl) (by decide) ?_
  refine st_v (rv_assign rfl) (by decide) ?_
  refine st_nil ?_
  refine st_then ?_
  refine st_seq ?_
  refine st_region ?_
  refine st_v (rv_move rfl) (by decide) ?_
  refine st_v (rv_move rfl) (by decide) ?_
  refine st_v (rv_move rfl) (by decide) ?_
  refine St.know (fun w hM => cells_rd ((rd_own (i := 0) rfl) w hM)) (fun hcl23 => ?_)
  refine St.know (fun w hM => cells_rd ((rd_own (i := 1) rfl) w hM)) (fun hcl24 => ?_)
  refine st_v (rv_buildStruct_of Tryd.underlying130 tyZ130 (places := [(0, 1), (1, 1), (2, 1)]) (by kernel_rfl) rfl (cs := #[_, _, _]) (by first | rfl | (simp only [fillL, hcl23, hcl24] <;> rfl))) (by decide) ?_
  refine st_box rfl (by decide) rfl (fun b2 hb2 => ?_)
  refine st_v (rv_assign rfl) (by decide) ?_
  refine st_nil ?_
  refine st_then ?_
  refine st_ret ?_
  exact st_done rfl rfl (fun w hM => ⟨(b2, r1.1, r1.2), rfl, Mem.toHr (k := 2) hM⟩)
set_option maxRecDepth 20000 in
theorem rHS2_calls (xb : Nat) (vK vH : Value) (s : List (BitVec 8)) (hs : s.length ≤ 900000) (w : World) (hX : (hrA 2 xb vK vH).holds w) : Calls Tryd.prog 88 #[pt xb 0, vS s] w (fun r w' => r = .returned (vS (hsum 2 s)) ∧ Mem (All w) w w' []) := by
  obtain ⟨⟨fr, hrow⟩, hKR, hHR⟩ := hX
  have hSx : All w xb := ⟨(Array.getElem?_eq_some_iff.1 hrow).1, fun h => h⟩
  refine calls_of_st (n := 19) (args := [pt xb 0, vS s]) Tryd.func88 rfl Tryd.ntmps88 (Nat.le_of_ble_eq_true rfl) (Mem.all w) ?_
  refine st_seq ?_
  refine st_region ?_
  refine st_v (rv_assign rfl) (by decide) ?_
  refine st_nil ?_
  refine st_then ?_
  refine st_seq ?_
  refine st_heldStart 15 [false, false, false, false, false, false, false, false, false, false, false, false, false, false, false] mixed rfl rfl ?_
  refine st_heldTake 0 rfl rfl (by kernel_rfl) rfl (fun _ _ _ h => h) rfl (by decide) (rv_move rfl) ?_
  refine st_heldTake 1 rfl rfl (by kernel_rfl) rfl (fun _ _ _ h => h) rfl (by decide) (rv_nilCheck rfl) ?_
  refine st_heldTake 2 rfl rfl (by kernel_rfl) rfl (fun _ _ _ h => h) rfl (by decide) (rv_fieldAddr Tryd.underlying130 (fs := _) rfl sz48 rfl rfl) ?_
  refine st_heldTake 3 rfl rfl (by kernel_rfl) rfl (fun _ _ _ h => h) rfl (by decide) (rv_load_old tyS48 rfl hrow hSx rfl) ?_
  refine st_heldTake 4 rfl rfl (by kernel_rfl) rfl (fun _ _ _ h => h) rfl (by decide) (rv_move rfl) ?_
  refine st_heldTake 5 rfl rfl (by kernel_rfl) rfl (fun _ _ _ h => h) rfl (by decide) (rv_move rfl) ?_
  refine st_heldTake 6 rfl rfl (by kernel_rfl) rfl (fun _ _ _ h => h) rfl (by decide) (rv_nilCheck rfl) ?_
  refine st_heldTake 7 rfl rfl (by kernel_rfl) rfl (fun _ _ _ h => h) rfl (by decide) (rv_fieldAddr Tryd.underlying130 (fs := _) rfl sz121 rfl rfl) ?_
  refine st_heldTake 8 rfl rfl (by kernel_rfl) rfl (fun _ _ _ h => h) rfl (by decide) (rv_load_old tyS121 rfl hrow hSx rfl) ?_
  refine st_heldTake 9 rfl rfl (by kernel_rfl) rfl (fun _ _ _ h => h) rfl (by decide) (rv_move rfl) ?_
  refine st_heldTake 10 rfl rfl (by kernel_rfl) rfl (fun _ _ _ h => h) rfl (by decide) (rv_nilCheck rfl) ?_
  refine st_heldTake 11 rfl rfl (by kernel_rfl) rfl (fun _ _ _ h => h) rfl (by decide) (rv_fieldAddr Tryd.underlying130 (fs := _) rfl sz121 rfl rfl) ?_
  refine st_heldTake 12 rfl rfl (by kernel_rfl) rfl (fun _ _ _ h => h) rfl (by decide) (rv_load_old tyS121 rfl hrow hSx rfl) ?_
  refine st_heldOp 13 rfl (by kernel_rfl) rfl ?_
  refine st_call0 cal85 rfl (fun w hM => (withH2_calls s _ _ hs w ((rd_old hKR hKR.all) w hM) ((rd_old hHR hHR.all) w hM))) (by decide) ?_
  refine st_nil ?_
  refine st_thenH ?_
  refine st_heldOp 14 rfl (by kernel_rfl) rfl ?_
  refine st_v (rv_assign rfl) (by decide) ?_
  refine st_nil ?_
  refine st_thenH ?_
  refine st_heldDone (by kernel_rfl) ?_
  refine st_then ?_
  refine st_ret ?_
  exact st_done rfl rfl (fun w hM => ⟨rfl, hM.sublist (List.nil_sublist _)⟩)
theorem Make_calls (k : Nat) (hk : k ≤ 2) (w : World) : Calls Tryd.prog 40 #[vI (k : Nat)] w (fun e w' => ∃ r : Nat × Value × Value, e = .returned (pt r.1 0) ∧ Mem (All w) w w' [hrA k r.1 r.2.1 r.2.2]) := by
  match k, hk with
  | 0, _ => exact Make0_calls w
  | 1, _ => exact Make1_calls w
  | 2, _ => exact Make2_calls w
theorem rHS_calls (k : Nat) (hk : k ≤ 2) (xb : Nat) (vK vH : Value) (s : List (BitVec 8)) (hs : s.length ≤ 900000) (w : World) (hX : (hrA k xb vK vH).holds w) : Calls Tryd.prog 88 #[pt xb 0, vS s] w (fun r w' => r = .returned (vS (hsum k s)) ∧ Mem (All w) w w' []) := by
  match k, hk with
  | 0, _ => exact rHS0_calls xb vK vH s hs w hX
  | 1, _ => exact rHS1_calls xb vK vH s hs w hX
  | 2, _ => exact rHS2_calls xb vK vH s hs w hX
set_option maxRecDepth 20000 in
theorem mixed_calls (s : List (BitVec 8)) (b : BitVec 8) (hs : s.length ≤ 900000) (w : World) : Calls Tryd.prog 90 #[vS s, U8 b] w (fun r w' => r = .returned (vS (xorTo s b s.length)) ∧ Mem (All w) w w' []) := by
  refine calls_of_st (n := 26) (args := [vS s, U8 b]) Tryd.func90 rfl Tryd.ntmps90 (Nat.le_of_ble_eq_true rfl) (Mem.all w) ?_
  refine st_seq ?_
  refine st_region ?_
  refine st_v (rv_assign rfl) (by decide) ?_
  refine st_nil ?_
  refine st_then ?_
  refine st_seq ?_
  refine st_region ?_
  refine st_v (rv_move rfl) (by decide) ?_
  refine st_bytes Tryd.underlying9 Tryd.underlying22 Tryd.underlying5 rfl (by decide) (fun v1 => ?_)
  refine st_v (rv_assign rfl) (by decide) ?_
  refine st_nil ?_
  refine st_then ?_
  refine st_seq ?_
  refine st_seq ?_
  refine st_region ?_
  refine st_v (rv_assign rfl) (by decide) ?_
  refine st_nil ?_
  refine st_then ?_
  refine st_block ?_
  refine st_loopA (σ := Nat) [(1, kst _), (5, kst _), (6, fun i => vI i)] [fun i => own v1 5 1 s.length ((xorTo s b i).map U8)] (fun i => i ≤ s.length) (fun i => s.length - i) 0 (by omega) (.cons rfl (.cons rfl (.cons rfl (.nil _)))) (fun _ hM => hM) ?_
  intro i hI
  try dsimp only at hI
  dsimp only [List.map, kst]
  refine st_seq ?_
  refine st_seq ?_
  refine st_region ?_
  refine st_v (rv_move rfl) (by decide) ?_
  refine st_v (rv_move rfl) (by decide) ?_
  refine st_v (rv_lenR (rd_own (i := 0) rfl) Tryd.underlying22 rfl) (by decide) ?_
  refine st_v (rv_lssZ rfl rfl) (by decide) ?_
  refine st_nil ?_
  refine st_then ?_
  refine st_cond rfl (fun hc12 => ?_) (fun hc12 => ?_)
  · -- t12 True
    try simp only [z1, z2, z3, z4, z5, z6, z7, z8, z9, z10, z11, z12, z13, z14] at hc12
    refine st_skip ?_
    refine st_then ?_
    refine st_seq ?_
    refine st_block ?_
    refine st_region ?_
    refine st_v (rv_move rfl) (by decide) ?_
    refine st_v (rv_move rfl) (by decide) ?_
    refine st_v (rv_move rfl) (by decide) ?_
    refine st_v (rv_move rfl) (by decide) ?_
    refine st_v (rv_indexR1 (rd_own (i := 0) rfl) Tryd.underlying22 sz5 rfl rfl rfl (by first | omega | (simp [length_xorTo] <;> omega))) (by decide) ?_
    refine st_v (rv_load_rd (rd_own (i := 0) rfl) tyS5 rfl (get8 (by first | omega | (simp [length_xorTo] <;> omega)))) (by decide) ?_
    refine st_v (rv_move rfl) (by decide) ?_
    refine st_v (rv_xor8 rfl rfl) (by decide) ?_
    refine st_v (rv_indexR1 (rd_own (i := 0) rfl) Tryd.underlying22 sz5 rfl rfl rfl (by first | omega | (simp [length_xorTo] <;> omega))) (by decide) ?_
    refine st_storeOwn8 rfl rfl (i := 0) rfl sz5 (by first | omega | (simp [length_xorTo] <;> omega)) rfl ?_
    refine st_nil ?_
    refine st_in_normal ?_
    refine st_then ?_
    refine st_region ?_
    refine st_v (rv_move rfl) (by decide) ?_
    first | refine st_v (rv_addN (b := 1) rfl rfl (by first | omega | (simp; done) | (simp; omega))) (by decide) ?_ | refine st_v (rv_addZ rfl rfl (by first | omega | (simp; done) | (simp; omega))) (by decide) ?_
    refine st_v (rv_assign rfl) (by decide) ?_
    refine st_nil ?_
    refine st_then ?_
    exact st_again (i + 1) (by omega) (by omega) (.cons rfl (.cons rfl (.cons rfl (.nil _)))) (fun _ hM => hM)
  · -- t12 False
    try simp only [z1, z2, z3, z4, z5, z6, z7, z8, z9, z10, z11, z12, z13, z14] at hc12
    obtain rfl : i = s.length := by omega
    refine st_exit ?_
    refine st_then_exit ?_
    refine st_then_exit ?_
    refine st_in_exit ?_
    refine st_then ?_
    refine st_seq ?_
    refine st_region ?_
    refine st_v (rv_move rfl) (by decide) ?_
    refine st_v (rv_string (rd_own (i := 0) rfl) Tryd.underlying22 Tryd.underlying9 Tryd.underlying5 rfl) (by decide) ?_
    refine st_v (rv_assign rfl) (by decide) ?_
    refine st_nil ?_
    refine st_then ?_
    refine st_ret ?_
    exact st_done rfl rfl (fun w hM => ⟨rfl, hM.sublist (List.nil_sublist _)⟩)
set_option maxRecDepth 20000 in
theorem zeros_calls (n : Nat) (hn : n ≤ 900000) (w : World) : Calls Tryd.prog 89 #[vI (n : Nat)] w (fun r w' => r = .returned (vS (List.replicate n 0#8)) ∧ Mem (All w) w w' []) := by
  refine calls_of_st (n := 6) (args := [vI (n : Nat)]) Tryd.func89 rfl Tryd.ntmps89 (Nat.le_of_ble_eq_true rfl) (Mem.all w) ?_
  refine st_seq ?_
  refine st_region ?_
  refine st_v (rv_assign rfl) (by decide) ?_
  refine st_nil ?_
  refine st_then ?_
  refine st_seq ?_
  refine st_region ?_
  refine st_v (rv_move rfl) (by decide) ?_
  refine st_make8 Tryd.underlying22 tyZ5 rfl rfl (by omega) (by omega) (by omega) (by decide) (fun b1 hb1 => ?_)
  refine st_v (rv_string (rd_w8 (i := 0) rfl (by first | omega | (simp; done) | (simp <;> omega)) (by omega)) Tryd.underlying22 Tryd.underlying9 Tryd.underlying5 rfl) (by decide) ?_
  refine st_v (rv_assign rfl) (by decide) ?_
  refine st_nil ?_
  refine st_then ?_
  refine st_ret ?_
  exact st_done rfl rfl (fun w hM => ⟨rfl, hM.sublist (List.nil_sublist _)⟩)
set_option maxRecDepth 20000 in
set_option maxHeartbeats 1000000 in
theorem rHMAC_calls (k : Nat) (hk : k ≤ 2) (xb : Nat) (vK vH : Value) (key s : List (BitVec 8)) (hkey : key.length ≤ 800000) (hs : s.length ≤ 800000) (w : World) (hX : (hrA k xb vK vH).holds w) : Calls Tryd.prog 41 #[pt xb 0, vS key, vS s] w (fun r w' => r = .returned (vS (hmacW k key s)) ∧ Mem (All w) w w' []) := by
  have hX0 := hX
  obtain ⟨⟨fr, hrow⟩, hKR, hHR⟩ := hX
  have hSx : All w xb := ⟨(Array.getElem?_eq_some_iff.1 hrow).1, fun h => h⟩
  have hXS : ∀ b, (hrA k xb vK vH).foot b → All w b := fun b hb => ⟨(hrA k xb vK vH).live w hX0 b hb, id⟩
  have h128 := hbs_le k
  have hsb := hsize_le_hbs k
  have h64 := hsize_le k
  have hln : ∀ x, (hsum k x).length = hsize k := length_hsum hk
  have hlk := hln key
  refine calls_of_st (n := 40) (args := [pt xb 0, vS key, vS s]) Tryd.func41 rfl Tryd.ntmps41 (Nat.le_of_ble_eq_true rfl) (Mem.all w) ?_
  refine st_seq ?_
  refine st_region ?_
  refine st_v (rv_assign rfl) (by decide) ?_
  refine st_nil ?_
  refine st_then ?_
  refine st_seq ?_
  refine st_region ?_
  refine st_v (rv_move rfl) (by decide) ?_
  refine st_v (rv_nilCheck rfl) (by decide) ?_
  refine st_v (rv_fieldAddr Tryd.underlying130 (fs := _) rfl sz48 rfl rfl) (by decide) ?_
  refine st_v (rv_load_old tyS48 rfl hrow hSx rfl) (by decide) ?_
  refine st_call0 cal37 rfl (fun w hM => (rBlockSize_ok k hk w)) (by decide) ?_
  refine st_v (rv_assign rfl) (by decide) ?_
  refine st_nil ?_
  refine st_then ?_
  refine st_seq ?_
  refine st_seq ?_
  refine st_region ?_
  refine st_v (rv_move rfl) (by decide) ?_
  refine st_v (rv_lenB Tryd.underlying9 rfl) (by decide) ?_
  refine st_v (rv_move rfl) (by decide) ?_
  refine st_v (rv_gtrZ rfl rfl) (by decide) ?_
  refine st_nil ?_
  refine st_then ?_
  refine st_cond rfl (fun hc17 => ?_) (fun hc17 => ?_)
  · -- t17 True
    try simp only [z1, z2, z3, z4, z5, z6, z7, z8, z9, z10, z11, z12, z13, z14] at hc17
    have hkn : keyN k key = hsum k key := if_pos (by omega)
    refine st_region ?_
    refine st_v (rv_move rfl) (by decide) ?_
    refine st_v (rv_move rfl) (by decide) ?_
    refine st_call0 cal88 rfl (fun w hM => (rHS_calls k hk xb vK vH _ (by first | omega | (simp [length_xorTo, hln]; omega)) w (Asn.stays hX0 hXS hM))) (by decide) ?_
    refine st_v (rv_assign rfl) (by decide) ?_
    refine st_nil ?_
    refine st_then ?_
    refine st_seq ?_
    refine st_region ?_
    refine st_v (rv_move rfl) (by decide) ?_
    refine st_v (rv_move rfl) (by decide) ?_
    refine st_v (rv_move rfl) (by decide) ?_
    refine st_v (rv_lenB Tryd.underlying9 rfl) (by decide) ?_
    first | refine st_v (rv_subN rfl rfl (by first | omega | (simp; done) | (simp; omega))) (by decide) ?_ | refine st_v (rv_subZ rfl rfl (by first | omega | (simp; done) | (simp; omega))) (by decide) ?_
    refine st_call0 cal89 rfl (fun w hM => (zeros_calls _ (by omega) w)) (by decide) ?_
    refine st_v (rv_concat rfl rfl (by first | omega | (simp [length_xorTo, hln] <;> omega))) (by decide) ?_
    refine st_v (rv_assign rfl) (by decide) ?_
    refine st_nil ?_
    refine st_then ?_
    refine st_seq ?_
    refine st_region ?_
    refine st_v (rv_move rfl) (by decide) ?_
    refine st_v (rv_move rfl) (by decide) ?_
    refine st_call0 cal90 rfl (fun w hM => (mixed_calls _ 54#8 (by first | omega | (simp [hln]; omega)) w)) (by decide) ?_
    refine st_v (rv_move rfl) (by decide) ?_
    refine st_v (rv_concat rfl rfl (by first | omega | (simp [length_xorTo, hln] <;> omega))) (by decide) ?_
    refine st_call0 cal88 rfl (fun w hM => (rHS_calls k hk xb vK vH _ (by first | omega | (simp [length_xorTo, hln]; omega)) w (Asn.stays hX0 hXS hM))) (by decide) ?_
    refine st_v (rv_assign rfl) (by decide) ?_
    refine st_nil ?_
    refine st_then ?_
    refine st_seq ?_
    refine st_region ?_
    refine st_v (rv_move rfl) (by decide) ?_
    refine st_v (rv_move rfl) (by decide) ?_
    refine st_call0 cal90 rfl (fun w hM => (mixed_calls _ 92#8 (by first | omega | (simp [hln]; omega)) w)) (by decide) ?_
    refine st_v (rv_move rfl) (by decide) ?_
    refine st_v (rv_concat rfl rfl (by first | omega | (simp [length_xorTo, hln] <;> omega))) (by decide) ?_
    refine st_call0 cal88 rfl (fun w hM => (rHS_calls k hk xb vK vH _ (by first | omega | (simp [length_xorTo, hln]; omega)) w (Asn.stays hX0 hXS hM))) (by decide) ?_
    refine st_v (rv_assign rfl) (by decide) ?_
    refine st_nil ?_
    refine st_then ?_
    refine st_ret ?_
    exact st_done rfl rfl (fun w hM => ⟨by rw [hmacW, ← rpad hk, ← rpad hk, hkn], hM.sublist (List.nil_sublist _)⟩)
  · -- t17 False
    try simp only [z1, z2, z3, z4, z5, z6, z7, z8, z9, z10, z11, z12, z13, z14] at hc17
    have hkn : keyN k key = key := if_neg (by omega)
    refine st_skip ?_
    refine st_then ?_
    refine st_seq ?_
    refine st_region ?_
    refine st_v (rv_move rfl) (by decide) ?_
    refine st_v (rv_move rfl) (by decide) ?_
    refine st_v (rv_move rfl) (by decide) ?_
    refine st_v (rv_lenB Tryd.underlying9 rfl) (by decide) ?_
    first | refine st_v (rv_subN rfl rfl (by first | omega | (simp; done) | (simp; omega))) (by decide) ?_ | refine st_v (rv_subZ rfl rfl (by first | omega | (simp; done) | (simp; omega))) (by decide) ?_
    refine st_call0 cal89 rfl (fun w hM => (zeros_calls _ (by omega) w)) (by decide) ?_
    refine st_v (rv_concat rfl rfl (by first | omega | (simp [length_xorTo, hln] <;> omega))) (by decide) ?_
    refine st_v (rv_assign rfl) (by decide) ?_
    refine st_nil ?_
    refine st_then ?_
    refine st_seq ?_
    refine st_region ?_
    refine st_v (rv_move rfl) (by decide) ?_
    refine st_v (rv_move rfl) (by decide) ?_
    refine st_call0 cal90 rfl (fun w hM => (mixed_calls _ 54#8 (by first | omega | (simp [hln]; omega)) w)) (by decide) ?_
    refine st_v (rv_move rfl) (by decide) ?_
    refine st_v (rv_concat rfl rfl (by first | omega | (simp [length_xorTo, hln] <;> omega))) (by decide) ?_
    refine st_call0 cal88 rfl (fun w hM => (rHS_calls k hk xb vK vH _ (by first | omega | (simp [length_xorTo, hln]; omega)) w (Asn.stays hX0 hXS hM))) (by decide) ?_
    refine st_v (rv_assign rfl) (by decide) ?_
    refine st_nil ?_
    refine st_then ?_
    refine st_seq ?_
    refine st_region ?_
    refine st_v (rv_move rfl) (by decide) ?_
    refine st_v (rv_move rfl) (by decide) ?_
    refine st_call0 cal90 rfl (fun w hM => (mixed_calls _ 92#8 (by first | omega | (simp [hln]; omega)) w)) (by decide) ?_
    refine st_v (rv_move rfl) (by decide) ?_
    refine st_v (rv_concat rfl rfl (by first | omega | (simp [length_xorTo, hln] <;> omega))) (by decide) ?_
    refine st_call0 cal88 rfl (fun w hM => (rHS_calls k hk xb vK vH _ (by first | omega | (simp [length_xorTo, hln]; omega)) w (Asn.stays hX0 hXS hM))) (by decide) ?_
    refine st_v (rv_assign rfl) (by decide) ?_
    refine st_nil ?_
    refine st_then ?_
    refine st_ret ?_
    exact st_done rfl rfl (fun w hM => ⟨by rw [hmacW, ← rpad hk, ← rpad hk, hkn], hM.sublist (List.nil_sublist _)⟩)
set_option maxRecDepth 20000 in
set_option maxHeartbeats 1000000 in
theorem rExpand_calls (k : Nat) (hk : k ≤ 2) (xb : Nat) (vK vH : Value) (key q : List (BitVec 8)) (N : Nat) (hN : N ≤ 255 * hsize k) (hkey : key.length ≤ 700000) (hq : q.length ≤ 700000) (w : World) (hX : (hrA k xb vK vH).holds w) : Calls Tryd.prog 46 #[pt xb 0, vS key, vS q, vI (N : Nat)] w (fun r w' => r = .returned (vS (okmW k key q N)) ∧ Mem (All w) w w' []) := by
  have hX0 := hX
  obtain ⟨⟨fr, hrow⟩, hKR, hHR⟩ := hX
  have hSx : All w xb := ⟨(Array.getElem?_eq_some_iff.1 hrow).1, fun h => h⟩
  have hXS : ∀ b, (hrA k xb vK vH).foot b → All w b := fun b hb => ⟨(hrA k xb vK vH).live w hX0 b hb, id⟩
  have h64 := hsize_le k
  have h32 := hsize_ge k
  refine calls_of_st (n := 35) (args := [pt xb 0, vS key, vS q, vI (N : Nat)]) Tryd.func46 rfl Tryd.ntmps46 (Nat.le_of_ble_eq_true rfl) (Mem.all w) ?_
  refine st_seq ?_
  refine st_region ?_
  refine st_v (rv_assign rfl) (by decide) ?_
  refine st_nil ?_
  refine st_then ?_
  refine st_seq ?_
  refine st_region ?_
  refine st_v (rv_assign rfl) (by decide) ?_
  refine st_nil ?_
  refine st_then ?_
  refine st_seq ?_
  refine st_region ?_
  refine st_v (rv_assign rfl) (by decide) ?_
  refine st_nil ?_
  refine st_then ?_
  refine st_seq ?_
  refine st_seq ?_
  refine st_region ?_
  refine st_v (rv_assign rfl) (by decide) ?_
  refine st_nil ?_
  refine st_then ?_
  refine st_block ?_
  refine st_loopA (σ := Nat) [(0, kst _), (1, kst _), (2, kst _), (3, kst _), (9, fun j => vS (outW k key q j)), (10, fun j => vS (tW k key q j)), (11, fun j => vI (1 + j : Nat))] [] (fun j => j ≤ N) (fun j => N - (outW k key q j).length) 0 (by omega) (.cons rfl (.cons rfl (.cons rfl (.cons rfl (.cons rfl (.cons rfl (.cons rfl (.nil _)))))))) (fun _ hM => hM) ?_
  intro j hI
  try dsimp only at hI
  dsimp only [List.map, kst]
  have htl0 := length_tW hk key q j
  refine st_seq ?_
  refine st_seq ?_
  refine st_region ?_
  refine st_v (rv_move rfl) (by decide) ?_
  refine st_v (rv_lenB Tryd.underlying9 rfl) (by decide) ?_
  refine st_v (rv_move rfl) (by decide) ?_
  refine st_v (rv_lssZ rfl rfl) (by decide) ?_
  refine st_nil ?_
  refine st_then ?_
  refine st_cond rfl (fun hc15 => ?_) (fun hc15 => ?_)
  · -- t15 True
    try simp only [z1, z2, z3, z4, z5, z6, z7, z8, z9, z10, z11, z12, z13, z14] at hc15
    refine st_skip ?_
    refine st_then ?_
    refine st_seq ?_
    refine st_block ?_
    refine st_seq ?_
    refine st_region ?_
    refine st_v (rv_move rfl) (by decide) ?_
    refine st_v (rv_move rfl) (by decide) ?_
    refine st_v (rv_move rfl) (by decide) ?_
    refine st_v (rv_move rfl) (by decide) ?_
    refine st_v (rv_concat rfl rfl (by first | omega | (simp <;> omega))) (by decide) ?_
    refine st_v (rv_move rfl) (by decide) ?_
    refine st_v (rv_convIto8 Tryd.underlying3 Tryd.underlying5 rfl) (by decide) ?_
    refine st_buildSlice Tryd.underlying22 tyZ5 rfl rfl (by decide) (cs := #[_]) rfl (by decide) (fun b1 hb1 => ?_)
    refine st_v (rv_string (rd_l8 (q := [_]) (len := 1) (i := 0) rfl rfl rfl (by omega)) Tryd.underlying22 Tryd.underlying9 Tryd.underlying5 rfl) (by decide) ?_
    refine st_v (rv_concat rfl rfl (by first | omega | (simp <;> omega))) (by decide) ?_
    refine st_call0 cal41 rfl (fun w hM => (rHMAC_calls k hk xb vK vH key _ (by omega) (by have := length_tW hk key q j; simp; omega) w (Asn.stays hX0 hXS hM))) (by decide) ?_
    rw [tW_str]
    have htl := length_tW1 hk key q j
    have hol : (outW k key q (j + 1)).length = (outW k key q j).length + hsize k := by rw [outW, List.length_append, htl]
    refine st_v (rv_assign rfl) (by decide) ?_
    refine st_nil ?_
    refine st_then ?_
    refine st_region ?_
    refine st_v (rv_move rfl) (by decide) ?_
    refine st_v (rv_move rfl) (by decide) ?_
    refine st_v (rv_concat rfl rfl (by first | omega | (simp <;> omega))) (by decide) ?_
    refine st_v (rv_assign rfl) (by decide) ?_
    refine st_nil ?_
    refine st_in_normal ?_
    refine st_then ?_
    refine st_region ?_
    refine st_v (rv_move rfl) (by decide) ?_
    first | refine st_v (rv_addN (b := 1) rfl rfl (by first | omega | (simp; done) | (simp; omega))) (by decide) ?_ | refine st_v (rv_addZ rfl rfl (by first | omega | (simp; done) | (simp; omega))) (by decide) ?_
    refine st_v (rv_assign rfl) (by decide) ?_
    refine st_nil ?_
    refine st_then ?_
    exact st_again (j + 1) (by have := length_outW hk key q j; have : j ≤ j * hsize k := Nat.le_mul_of_pos_right j (by omega); omega) (by omega) (.cons rfl (.cons rfl (.cons rfl (.cons rfl (.cons rfl (.cons rfl (.cons rfl (.nil _)))))))) (fun _ hM => hM.sublist (List.Sublist.cons _ (List.Sublist.slnil)))
  · -- t15 False
    try simp only [z1, z2, z3, z4, z5, z6, z7, z8, z9, z10, z11, z12, z13, z14] at hc15
    refine st_exit ?_
    refine st_then_exit ?_
    refine st_then_exit ?_
    refine st_in_exit ?_
    refine st_then ?_
    refine st_seq ?_
    refine st_region ?_
    refine st_v (rv_move rfl) (by decide) ?_
    refine st_v (rv_move rfl) (by decide) ?_
    refine st_v (rv_sliceB Tryd.underlying9 rfl evB_none (evB_some rfl rfl) (by first | omega | (simp <;> omega)) (by first | omega | (simp <;> omega))) (by decide) ?_
    refine st_v (rv_assign rfl) (by decide) ?_
    refine st_nil ?_
    refine st_then ?_
    refine st_ret ?_
    exact st_done rfl rfl (fun w hM => ⟨by rw [← outW_take hk key q j N (by omega)]; rfl, hM.sublist (List.nil_sublist _)⟩)
end Go.Proofs.YtjhjjhpfjadjpaaDoor
