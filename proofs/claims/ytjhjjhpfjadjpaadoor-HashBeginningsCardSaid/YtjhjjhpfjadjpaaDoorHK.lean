/- Walks: what functions of the given program do, operation by operation. Written by wip/gen. -/
import Derived.Test.YtjhjjhpfjadjpaaDoorHF
import Derived.Test.YtjhjjhpfjadjpaaDoorMJ
namespace Go.Proofs.YtjhjjhpfjadjpaaDoor
set_option linter.all false
open Go
set_option maxRecDepth 20000 in
set_option maxHeartbeats 1000000 in
theorem short_calls (w : World) : Calls Tryd.prog 119 #[] w (fun e w' => ∃ r : Nat × Value, e = .returned (pt r.1 0) ∧ Mem (All w) w w' [famA U32 185 r.1 r.2 F256]) := by
  refine calls_of_st (n := 8) (args := []) Tryd.func119 rfl Tryd.ntmps119 (Nat.le_of_ble_eq_true rfl) (Mem.all w) ?_
  refine st_seq ?_
  refine st_region ?_
  refine st_v (rv_assign rfl) (by decide) ?_
  refine st_nil ?_
  refine st_then ?_
  refine st_seq ?_
  refine st_region ?_
  refine st_buildO Tryd.underlying35 tyZ91 rfl rfl (by decide) (cs := (k256.map U32).toArray) (by kernel_rfl) (by kernel_rfl) (by decide) (fun v1 => ?_)
  refine st_v (rv_buildArray_of Tryd.underlying119 tyZ119 sz3 rfl (cs := #[_, _, _]) (by rfl)) (by decide) ?_
  refine st_v (rv_buildArray_of Tryd.underlying119 tyZ119 sz3 rfl (cs := #[_, _, _]) (by rfl)) (by decide) ?_
  refine st_v (rv_buildArray_of Tryd.underlying119 tyZ119 sz3 rfl (cs := #[_, _, _]) (by rfl)) (by decide) ?_
  refine st_v (rv_buildArray_of Tryd.underlying119 tyZ119 sz3 rfl (cs := #[_, _, _]) (by rfl)) (by decide) ?_
  refine St.know (fun w hM => cells_rd ((rd_own (i := 0) rfl) w hM)) (fun hcl14 => ?_)
  refine st_v (rv_buildStruct_of Tryd.underlying185 tyZ185 (places := [(0, 1), (1, 3), (4, 3), (7, 3), (10, 3)]) (by kernel_rfl) rfl (cs := #[v1, vI F256.big0.1, vI F256.big0.2.1, vI F256.big0.2.2, vI F256.big1.1, vI F256.big1.2.1, vI F256.big1.2.2, vI F256.small0.1, vI F256.small0.2.1, vI F256.small0.2.2, vI F256.small1.1, vI F256.small1.2.1, vI F256.small1.2.2]) (by simp only [fillL, hcl14]; kernel_rfl)) (by decide) ?_
  refine st_box rfl (by decide) rfl (fun b2 hb2 => ?_)
  refine st_v (rv_assign rfl) (by decide) ?_
  refine st_nil ?_
  refine st_then ?_
  refine st_ret ?_
  exact st_done rfl rfl (fun w hM => ⟨(b2, v1), rfl, (Mem.toFam (F := F256) (lf := []) hM).sublist (List.Sublist.refl _)⟩)
set_option maxRecDepth 20000 in
set_option maxHeartbeats 1000000 in
theorem long_calls (w : World) : Calls Tryd.prog 120 #[] w (fun e w' => ∃ r : Nat × Value, e = .returned (pt r.1 0) ∧ Mem (All w) w w' [famA U64 187 r.1 r.2 F512]) := by
  refine calls_of_st (n := 8) (args := []) Tryd.func120 rfl Tryd.ntmps120 (Nat.le_of_ble_eq_true rfl) (Mem.all w) ?_
  refine st_seq ?_
  refine st_region ?_
  refine st_v (rv_assign rfl) (by decide) ?_
  refine st_nil ?_
  refine st_then ?_
  refine st_seq ?_
  refine st_region ?_
  refine st_buildO Tryd.underlying121 tyZ77 rfl rfl (by decide) (cs := (k512.map U64).toArray) (by kernel_rfl) (by kernel_rfl) (by decide) (fun v1 => ?_)
  refine st_v (rv_buildArray_of Tryd.underlying119 tyZ119 sz3 rfl (cs := #[_, _, _]) (by rfl)) (by decide) ?_
  refine st_v (rv_buildArray_of Tryd.underlying119 tyZ119 sz3 rfl (cs := #[_, _, _]) (by rfl)) (by decide) ?_
  refine st_v (rv_buildArray_of Tryd.underlying119 tyZ119 sz3 rfl (cs := #[_, _, _]) (by rfl)) (by decide) ?_
  refine st_v (rv_buildArray_of Tryd.underlying119 tyZ119 sz3 rfl (cs := #[_, _, _]) (by rfl)) (by decide) ?_
  refine St.know (fun w hM => cells_rd ((rd_own (i := 0) rfl) w hM)) (fun hcl14 => ?_)
  refine st_v (rv_buildStruct_of Tryd.underlying187 tyZ187 (places := [(0, 1), (1, 3), (4, 3), (7, 3), (10, 3)]) (by kernel_rfl) rfl (cs := #[v1, vI F512.big0.1, vI F512.big0.2.1, vI F512.big0.2.2, vI F512.big1.1, vI F512.big1.2.1, vI F512.big1.2.2, vI F512.small0.1, vI F512.small0.2.1, vI F512.small0.2.2, vI F512.small1.1, vI F512.small1.2.1, vI F512.small1.2.2]) (by simp only [fillL, hcl14]; kernel_rfl)) (by decide) ?_
  refine st_box rfl (by decide) rfl (fun b2 hb2 => ?_)
  refine st_v (rv_assign rfl) (by decide) ?_
  refine st_nil ?_
  refine st_then ?_
  refine st_ret ?_
  exact st_done rfl rfl (fun w hM => ⟨(b2, v1), rfl, (Mem.toFam (F := F512) (lf := []) hM).sublist (List.Sublist.refl _)⟩)
/-- a hash of kind k -/
def hashL {n : Nat} (U : BitVec n → Value) (TI ST TH : TypeId) (F : Fam n) (bs : Nat) (h0 : List (BitVec n)) (k hb sb fp : Nat) (vb : Value) (x : List (BitVec 8)) : List Asn :=
  [blk hb #[.iface TI (pt sb 0), vI (k : Nat)] TH, stM U ST F bs h0 sb fp vb x]
theorem stM_own {n : Nat} {U : BitVec n → Value} {T : TypeId} {F : Fam n} {bs : Nat} {h0 : List (BitVec n)} {sb fp : Nat} {vb : Value} {x : List (BitVec 8)} : ∀ b, (stM U T F bs h0 sb fp vb x).foot b → (stM U T F bs h0 sb fp vb x).turn b := fun b ⟨y, hy, hb⟩ => ⟨y, hy, stL_own y hy b hb⟩
theorem hashL_own {n : Nat} {U : BitVec n → Value} {TI ST TH : TypeId} {F : Fam n} {bs : Nat} {h0 : List (BitVec n)} {k hb sb fp : Nat} {vb : Value} {x : List (BitVec 8)} : ∀ a ∈ hashL U TI ST TH F bs h0 k hb sb fp vb x, ∀ b, a.foot b → a.turn b := by
  intro a ha b hb
  simp only [hashL, List.mem_cons, List.not_mem_nil, or_false] at ha
  rcases ha with rfl | rfl
  · exact hb
  · exact stM_own b hb
def hashM : Nat → Nat → Nat → Nat → Value → List (BitVec 8) → Asn
  | 0, hb, sb, fp, vb, x => sepA (hashL U32 154 159 117 F256 64 h256 0 hb sb fp vb x)
  | 1, hb, sb, fp, vb, x => sepA (hashL U64 160 165 117 F512 128 h384 1 hb sb fp vb x)
  | _, hb, sb, fp, vb, x => sepA (hashL U64 160 165 117 F512 128 h512 2 hb sb fp vb x)
def famM : Nat → Nat → Value → Asn
  | 0, fp, kv => famA U32 185 fp kv F256
  | _, fp, kv => famA U64 187 fp kv F512
def hsize : Nat → Nat | 0 => 32 | 1 => 48 | _ => 64
def hbs : Nat → Nat | 0 => 64 | _ => 128
def hsum : Nat → List (BitVec 8) → List (BitVec 8)
  | 0, x => (sumW F256 64 8 h256 x).take 32
  | 1, x => (sumW F512 128 16 h384 x).take 48
  | _, x => (sumW F512 128 16 h512 x).take 64
structure HP where
  hb : Nat
  sb : Nat
  fp : Nat
  vb : Value
  kv : Value
theorem famOk256 : FamOk F256 := by constructor <;> decide
theorem famOk512 : FamOk F512 := by constructor <;> decide
theorem LaidG.cell {w : World} {g : Nat} {cs : Array Value} (h : LaidG w g cs) {j : Nat} {v : Value} (hj : cs[j]? = some v) : w.cell? ⟨g, j, none⟩ = some v := by
  obtain ⟨T, fr, h⟩ := h
  simp [World.cell?, h, hj]
theorem metwrite32 : MethodOf Tryd.prog 154 "securelink/hash.write" 166 := ⟨⟨_, Tryd.underlying154⟩, by kernel_rfl⟩
theorem metsum32 : MethodOf Tryd.prog 154 "securelink/hash.sum" 165 := ⟨⟨_, Tryd.underlying154⟩, by kernel_rfl⟩
theorem metclone32 : MethodOf Tryd.prog 154 "securelink/hash.clone" 163 := ⟨⟨_, Tryd.underlying154⟩, by kernel_rfl⟩
theorem metsize32 : MethodOf Tryd.prog 154 "securelink/hash.size" 164 := ⟨⟨_, Tryd.underlying154⟩, by kernel_rfl⟩
theorem metwrite64 : MethodOf Tryd.prog 160 "securelink/hash.write" 176 := ⟨⟨_, Tryd.underlying160⟩, by kernel_rfl⟩
theorem metsum64 : MethodOf Tryd.prog 160 "securelink/hash.sum" 175 := ⟨⟨_, Tryd.underlying160⟩, by kernel_rfl⟩
theorem metclone64 : MethodOf Tryd.prog 160 "securelink/hash.clone" 173 := ⟨⟨_, Tryd.underlying160⟩, by kernel_rfl⟩
theorem metsize64 : MethodOf Tryd.prog 160 "securelink/hash.size" 174 := ⟨⟨_, Tryd.underlying160⟩, by kernel_rfl⟩
set_option maxRecDepth 20000 in
set_option maxHeartbeats 1000000 in
theorem begin0_calls (w : World) (hL : LaidH w) : Calls Tryd.prog 82 #[vI (0 : Nat)] w (fun e w' => ∃ r : HP, e = .returned (pt r.hb 0) ∧ Mem (All w) w w' [hashM 0 r.hb r.sb r.fp r.vb [], famM 0 r.fp r.kv]) := by
  obtain ⟨Tg, frg, hg⟩ := hL.g1
  have hS : All w 1 := ⟨hL.g1.lt, id⟩
  refine calls_of_st (n := 32) (args := [vI (0 : Nat)]) Tryd.func82 rfl Tryd.ntmps82 (Nat.le_of_ble_eq_true rfl) (Mem.all w) ?_
  refine st_seq ?_
  refine st_region ?_
  refine st_v (rv_assign rfl) (by decide) ?_
  refine st_nil ?_
  refine st_then ?_
  refine st_seq ?_
  refine st_seq ?_
  refine st_region ?_
  refine st_v (rv_move rfl) (by decide) ?_
  refine st_nil ?_
  refine st_then ?_
  refine st_block ?_
  refine st_seq ?_
  refine st_region ?_
  refine st_v (rv_eqlZ rfl rfl) (by decide) ?_
  refine st_v (rv_assign rfl) (by decide) ?_
  refine st_nil ?_
  refine st_then ?_
  refine st_true rfl ?_
  refine st_seq ?_
  refine st_heldStart 9 [false, false, false, false, false, false, false, false, false] mixed rfl rfl ?_
  refine st_heldTake 1 rfl rfl (by kernel_rfl) rfl (fun _ _ _ h => h) rfl (by decide) (rv_loadW_old tyA157 rfl hg hS (by rfl)) ?_
  refine st_heldTake 5 rfl rfl (by kernel_rfl) rfl (fun _ _ _ h => h) rfl (by decide) (rv_move rfl) ?_
  refine st_heldOp 0 rfl (by kernel_rfl) rfl ?_
  refine st_call1 (ρ := Nat × Value) (fun r => pt r.1 0) (fun _ => True) (fun r => [famA U32 185 r.1 r.2 F256]) cal119 rfl (fun w hM => ((short_calls w)).mono fun e w' ⟨r, h1, h2⟩ => ⟨r, h1, trivial, h2⟩) (by decide) (fun r1 _ => ?_)
  refine st_nil ?_
  refine st_thenH ?_
  refine st_heldOp 2 rfl (by kernel_rfl) rfl ?_
  refine st_v (rv_buildStruct_of Tryd.underlying159 tyZ159 (places := [(0, 1), (1, 8), (9, 1), (10, 1)]) (by kernel_rfl) rfl (cs := stC U32 r1.1 h256 nilS 0#64) (by kernel_rfl)) (by decide) ?_
  refine st_nil ?_
  refine st_thenH ?_
  refine st_heldOp 3 rfl (by kernel_rfl) rfl ?_
  refine st_box rfl (by decide) rfl (fun b2 hb2 => ?_)
  refine st_nil ?_
  refine st_thenH ?_
  refine st_heldOp 4 rfl (by kernel_rfl) rfl ?_
  refine st_v (rv_makeIface Tryd.underlying154 rfl) (by decide) ?_
  refine st_nil ?_
  refine st_thenH ?_
  refine st_heldOp 6 rfl (by kernel_rfl) rfl ?_
  refine st_v (rv_buildStruct_of Tryd.underlying117 tyZ117 (places := [(0, 1), (1, 1)]) (by kernel_rfl) rfl (cs := #[_, _]) (by rfl)) (by decide) ?_
  refine st_nil ?_
  refine st_thenH ?_
  refine st_heldOp 7 rfl (by kernel_rfl) rfl ?_
  refine st_box rfl (by decide) rfl (fun b3 hb3 => ?_)
  refine st_nil ?_
  refine st_thenH ?_
  refine st_heldOp 8 rfl (by kernel_rfl) rfl ?_
  refine st_v (rv_assign rfl) (by decide) ?_
  refine st_nil ?_
  refine st_thenH ?_
  refine st_heldDone (by kernel_rfl) ?_
  refine st_then ?_
  refine st_ret ?_
  refine st_in_ret ?_
  refine st_then_ret ?_
  exact st_done rfl rfl (fun w hM => ⟨⟨b3, b2, r1.1, nilS, r1.2⟩, rfl, by
    have hM := Mem.front (hM.ownNil 5 1) (i := 2) rfl
    have hM := Mem.pack (lm := stL U32 159 F256 64 h256 b2 r1.1 nilS []) (lf := [_, _]) hM
    have hM := Mem.front hM (i := 1) rfl
    exact (Mem.pack (lm := hashL U32 154 159 117 F256 64 h256 0 b3 b2 r1.1 nilS []) (lf := [_]) hM)⟩)
set_option maxRecDepth 20000 in
set_option maxHeartbeats 1000000 in
theorem begin1_calls (w : World) (hL : LaidH w) : Calls Tryd.prog 82 #[vI (1 : Nat)] w (fun e w' => ∃ r : HP, e = .returned (pt r.hb 0) ∧ Mem (All w) w w' [hashM 1 r.hb r.sb r.fp r.vb [], famM 1 r.fp r.kv]) := by
  obtain ⟨Tg, frg, hg⟩ := hL.g2
  have hS : All w 2 := ⟨hL.g2.lt, id⟩
  refine calls_of_st (n := 32) (args := [vI (1 : Nat)]) Tryd.func82 rfl Tryd.ntmps82 (Nat.le_of_ble_eq_true rfl) (Mem.all w) ?_
  refine st_seq ?_
  refine st_region ?_
  refine st_v (rv_assign rfl) (by decide) ?_
  refine st_nil ?_
  refine st_then ?_
  refine st_seq ?_
  refine st_seq ?_
  refine st_region ?_
  refine st_v (rv_move rfl) (by decide) ?_
  refine st_nil ?_
  refine st_then ?_
  refine st_block ?_
  refine st_seq ?_
  refine st_region ?_
  refine st_v (rv_eqlZ rfl rfl) (by decide) ?_
  refine st_v (rv_assign rfl) (by decide) ?_
  refine st_nil ?_
  refine st_then ?_
  refine st_false rfl ?_
  refine st_seq ?_
  refine st_region ?_
  refine st_v (rv_eqlZ rfl rfl) (by decide) ?_
  refine st_v (rv_assign rfl) (by decide) ?_
  refine st_nil ?_
  refine st_then ?_
  refine st_true rfl ?_
  refine st_seq ?_
  refine st_heldStart 9 [false, false, false, false, false, false, false, false, false] mixed rfl rfl ?_
  refine st_heldTake 1 rfl rfl (by kernel_rfl) rfl (fun _ _ _ h => h) rfl (by decide) (rv_loadW_old tyA163 rfl hg hS (by rfl)) ?_
  refine st_heldTake 5 rfl rfl (by kernel_rfl) rfl (fun _ _ _ h => h) rfl (by decide) (rv_move rfl) ?_
  refine st_heldOp 0 rfl (by kernel_rfl) rfl ?_
  refine st_call1 (ρ := Nat × Value) (fun r => pt r.1 0) (fun _ => True) (fun r => [famA U64 187 r.1 r.2 F512]) cal120 rfl (fun w hM => ((long_calls w)).mono fun e w' ⟨r, h1, h2⟩ => ⟨r, h1, trivial, h2⟩) (by decide) (fun r1 _ => ?_)
  refine st_nil ?_
  refine st_thenH ?_
  refine st_heldOp 2 rfl (by kernel_rfl) rfl ?_
  refine st_v (rv_buildStruct_of Tryd.underlying165 tyZ165 (places := [(0, 1), (1, 8), (9, 1), (10, 1)]) (by kernel_rfl) rfl (cs := stC U64 r1.1 h384 nilS 0#64) (by kernel_rfl)) (by decide) ?_
  refine st_nil ?_
  refine st_thenH ?_
  refine st_heldOp 3 rfl (by kernel_rfl) rfl ?_
  refine st_box rfl (by decide) rfl (fun b2 hb2 => ?_)
  refine st_nil ?_
  refine st_thenH ?_
  refine st_heldOp 4 rfl (by kernel_rfl) rfl ?_
  refine st_v (rv_makeIface Tryd.underlying160 rfl) (by decide) ?_
  refine st_nil ?_
  refine st_thenH ?_
  refine st_heldOp 6 rfl (by kernel_rfl) rfl ?_
  refine st_v (rv_buildStruct_of Tryd.underlying117 tyZ117 (places := [(0, 1), (1, 1)]) (by kernel_rfl) rfl (cs := #[_, _]) (by rfl)) (by decide) ?_
  refine st_nil ?_
  refine st_thenH ?_
  refine st_heldOp 7 rfl (by kernel_rfl) rfl ?_
  refine st_box rfl (by decide) rfl (fun b3 hb3 => ?_)
  refine st_nil ?_
  refine st_thenH ?_
  refine st_heldOp 8 rfl (by kernel_rfl) rfl ?_
  refine st_v (rv_assign rfl) (by decide) ?_
  refine st_nil ?_
  refine st_thenH ?_
  refine st_heldDone (by kernel_rfl) ?_
  refine st_then ?_
  refine st_ret ?_
  refine st_in_ret ?_
  refine st_then_ret ?_
  exact st_done rfl rfl (fun w hM => ⟨⟨b3, b2, r1.1, nilS, r1.2⟩, rfl, by
    have hM := Mem.front (hM.ownNil 5 1) (i := 2) rfl
    have hM := Mem.pack (lm := stL U64 165 F512 128 h384 b2 r1.1 nilS []) (lf := [_, _]) hM
    have hM := Mem.front hM (i := 1) rfl
    exact (Mem.pack (lm := hashL U64 160 165 117 F512 128 h384 1 b3 b2 r1.1 nilS []) (lf := [_]) hM)⟩)
set_option maxRecDepth 20000 in
set_option maxHeartbeats 1000000 in
theorem begin2_calls (w : World) (hL : LaidH w) : Calls Tryd.prog 82 #[vI (2 : Nat)] w (fun e w' => ∃ r : HP, e = .returned (pt r.hb 0) ∧ Mem (All w) w w' [hashM 2 r.hb r.sb r.fp r.vb [], famM 2 r.fp r.kv]) := by
  obtain ⟨Tg, frg, hg⟩ := hL.g3
  have hS : All w 3 := ⟨hL.g3.lt, id⟩
  refine calls_of_st (n := 32) (args := [vI (2 : Nat)]) Tryd.func82 rfl Tryd.ntmps82 (Nat.le_of_ble_eq_true rfl) (Mem.all w) ?_
  refine st_seq ?_
  refine st_region ?_
  refine st_v (rv_assign rfl) (by decide) ?_
  refine st_nil ?_
  refine st_then ?_
  refine st_seq ?_
  refine st_seq ?_
  refine st_region ?_
  refine st_v (rv_move rfl) (by decide) ?_
  refine st_nil ?_
  refine st_then ?_
  refine st_block ?_
  refine st_seq ?_
  refine st_region ?_
  refine st_v (rv_eqlZ rfl rfl) (by decide) ?_
  refine st_v (rv_assign rfl) (by decide) ?_
  refine st_nil ?_
  refine st_then ?_
  refine st_false rfl ?_
  refine st_seq ?_
  refine st_region ?_
  refine st_v (rv_eqlZ rfl rfl) (by decide) ?_
  refine st_v (rv_assign rfl) (by decide) ?_
  refine st_nil ?_
  refine st_then ?_
  refine st_false rfl ?_
  refine st_skip ?_
  refine st_in_normal ?_
  refine st_then ?_
  refine st_seq ?_
  refine st_heldStart 9 [false, false, false, false, false, false, false, false, false] mixed rfl rfl ?_
  refine st_heldTake 1 rfl rfl (by kernel_rfl) rfl (fun _ _ _ h => h) rfl (by decide) (rv_loadW_old tyA163 rfl hg hS (by rfl)) ?_
  refine st_heldTake 5 rfl rfl (by kernel_rfl) rfl (fun _ _ _ h => h) rfl (by decide) (rv_move rfl) ?_
  refine st_heldOp 0 rfl (by kernel_rfl) rfl ?_
  refine st_call1 (ρ := Nat × Value) (fun r => pt r.1 0) (fun _ => True) (fun r => [famA U64 187 r.1 r.2 F512]) cal120 rfl (fun w hM => ((long_calls w)).mono fun e w' ⟨r, h1, h2⟩ => ⟨r, h1, trivial, h2⟩) (by decide) (fun r1 _ => ?_)
  refine st_nil ?_
  refine st_thenH ?_
  refine st_heldOp 2 rfl (by kernel_rfl) rfl ?_
  refine st_v (rv_buildStruct_of Tryd.underlying165 tyZ165 (places := [(0, 1), (1, 8), (9, 1), (10, 1)]) (by kernel_rfl) rfl (cs := stC U64 r1.1 h512 nilS 0#64) (by kernel_rfl)) (by decide) ?_
  refine st_nil ?_
  refine st_thenH ?_
  refine st_heldOp 3 rfl (by kernel_rfl) rfl ?_
  refine st_box rfl (by decide) rfl (fun b2 hb2 => ?_)
  refine st_nil ?_
  refine st_thenH ?_
  refine st_heldOp 4 rfl (by kernel_rfl) rfl ?_
  refine st_v (rv_makeIface Tryd.underlying160 rfl) (by decide) ?_
  refine st_nil ?_
  refine st_thenH ?_
  refine st_heldOp 6 rfl (by kernel_rfl) rfl ?_
  refine st_v (rv_buildStruct_of Tryd.underlying117 tyZ117 (places := [(0, 1), (1, 1)]) (by kernel_rfl) rfl (cs := #[_, _]) (by rfl)) (by decide) ?_
  refine st_nil ?_
  refine st_thenH ?_
  refine st_heldOp 7 rfl (by kernel_rfl) rfl ?_
  refine st_box rfl (by decide) rfl (fun b3 hb3 => ?_)
  refine st_nil ?_
  refine st_thenH ?_
  refine st_heldOp 8 rfl (by kernel_rfl) rfl ?_
  refine st_v (rv_assign rfl) (by decide) ?_
  refine st_nil ?_
  refine st_thenH ?_
  refine st_heldDone (by kernel_rfl) ?_
  refine st_then ?_
  refine st_ret ?_
  exact st_done rfl rfl (fun w hM => ⟨⟨b3, b2, r1.1, nilS, r1.2⟩, rfl, by
    have hM := Mem.front (hM.ownNil 5 1) (i := 2) rfl
    have hM := Mem.pack (lm := stL U64 165 F512 128 h512 b2 r1.1 nilS []) (lf := [_, _]) hM
    have hM := Mem.front hM (i := 1) rfl
    exact (Mem.pack (lm := hashL U64 160 165 117 F512 128 h512 2 b3 b2 r1.1 nilS []) (lf := [_]) hM)⟩)
set_option maxRecDepth 20000 in
theorem Write0_calls (hb sb fp : Nat) (vb kv v : Value) (x q : List (BitVec 8)) (hx : x.length + q.length ≤ 1000000) (w : World) (hX : (hashM 0 hb sb fp vb x).holds w) (hA : (famM 0 fp kv).holds w) (hAS : ∀ b, (famM 0 fp kv).foot b → Old w (hashM 0 hb sb fp vb x).turn b) (hQ : Rd w v q.length 1 (q.map U8)) (hQS : ∀ b, vfoot v b → Old w (hashM 0 hb sb fp vb x).turn b) : Calls Tryd.prog 29 #[pt hb 0, v] w (fun e w' => ∃ u, e = .returned (.tuple #[]) ∧ Mem (Old w (hashM 0 hb sb fp vb x).turn) w w' [hashM 0 hb sb fp u (x ++ q)]) := by
  refine calls_of_st (n := 10) (args := [pt hb 0, v]) Tryd.func29 rfl Tryd.ntmps29 (Nat.le_of_ble_eq_true rfl) (sepA_alone hX hashL_own) ?_
  refine st_region ?_
  refine st_v (rv_move rfl) (by decide) ?_
  refine st_v (rv_nilCheck rfl) (by decide) ?_
  refine st_v (rv_fieldAddr Tryd.underlying117 (fs := _) rfl sz115 rfl rfl) (by decide) ?_
  refine st_v (rv_load_blk tyS115 rfl (i := 0) rfl rfl) (by decide) ?_
  refine st_v (rv_move rfl) (by decide) ?_
  refine st_invE (ρ := Value) (fun _ => .tuple #[]) (fun _ => True) (fun u => stM U32 159 F256 64 h256 sb fp u (x ++ q)) (fun _ => []) (i := 1) metwrite32 cal166 rfl rfl rfl (fun w hM => (write32_calls sb fp vb kv v F256 famOk256 h256 x q rfl hx w (hM.at (i := 1) rfl) (famA_at hA hAS hM) (fun b hb => hM.offS (i := 1) rfl b (hAS b hb)) (rd_old hQ hQS w hM) (fun b hb => hM.offS (i := 1) rfl b (hQS b hb))).mono fun e w' ⟨u, h1, h2⟩ => ⟨u, h1, trivial, h2⟩) (by decide) (fun u1 _ => ?_)
  refine st_nil ?_
  exact st_done0' rfl (fun w hM => ⟨u1, rfl, Mem.pack (lm := hashL U32 154 159 117 F256 64 h256 0 hb sb fp u1 (x ++ q)) (lf := []) hM⟩)
set_option maxRecDepth 20000 in
theorem HSum0_calls (hb sb fp : Nat) (vb kv : Value) (x : List (BitVec 8)) (hx : x.length ≤ 900000) (w : World) (hL : LaidH w) (hX : (hashM 0 hb sb fp vb x).holds w) (hA : (famM 0 fp kv).holds w) : Calls Tryd.prog 31 #[pt hb 0] w (fun e w' => ∃ v, e = .returned v ∧ Mem (All w) w w' [own v 5 1 32 ((hsum 0 x).map U8)]) := by
  have hB := hX.1 _ (List.mem_cons_self)
  have hT : (stM U32 159 F256 64 h256 sb fp vb x).holds w := hX.1 _ (List.mem_cons_of_mem _ List.mem_cons_self)
  obtain ⟨fr, hrow, _⟩ := hB
  have hSb : All w hb := ⟨(Array.getElem?_eq_some_iff.1 hrow).1, fun h => h⟩
  have hAS : ∀ b, (famM 0 fp kv).foot b → All w b := fun b hb => ⟨(famM 0 fp kv).live w hA b hb, fun h => h⟩
  have hTS : ∀ b, (stM U32 159 F256 64 h256 sb fp vb x).foot b → All w b := fun b hb => ⟨(stM U32 159 F256 64 h256 sb fp vb x).live w hT b hb, fun h => h⟩
  have hS0 : All w 0 := ⟨hL.g0.lt, id⟩
  refine calls_of_st (n := 18) (args := [pt hb 0]) Tryd.func31 rfl Tryd.ntmps31 (Nat.le_of_ble_eq_true rfl) (Mem.all w) ?_
  refine st_seq ?_
  refine st_region ?_
  refine st_v (rv_assign rfl) (by decide) ?_
  refine st_nil ?_
  refine st_then ?_
  refine st_seq ?_
  refine st_region ?_
  refine st_v (rv_move rfl) (by decide) ?_
  refine st_v (rv_nilCheck rfl) (by decide) ?_
  refine st_v (rv_fieldAddr Tryd.underlying117 (fs := _) rfl sz48 rfl rfl) (by decide) ?_
  refine st_v (rv_load_old tyS48 rfl hrow hSb rfl) (by decide) ?_
  refine st_v (rv_indexA Tryd.underlying119 sz3 rfl rfl rfl (by first | omega | (simp <;> omega)) (by first | exact (Nat.zero_add _).trans (Nat.mul_one _) | exact congrArg _ (Nat.mul_one _) | exact Nat.zero_add _ | rfl)) (by decide) ?_
  refine st_v (rv_load_cell tyS3 rfl (hL.g0.cell (j := 0) rfl) hS0) (by decide) ?_
  refine st_v (rv_assign rfl) (by decide) ?_
  refine st_nil ?_
  refine st_then ?_
  refine st_seq ?_
  refine st_region ?_
  refine st_v (rv_move rfl) (by decide) ?_
  refine st_v (rv_nilCheck rfl) (by decide) ?_
  refine st_v (rv_fieldAddr Tryd.underlying117 (fs := _) rfl sz115 rfl rfl) (by decide) ?_
  refine st_v (rv_load_old tyS115 rfl hrow hSb rfl) (by decide) ?_
  refine st_inv1 (ρ := Value) (fun u => u) (fun _ => True) (fun u => [own u 5 1 (4 * 8) ((sumW F256 64 8 h256 x).map U8)]) metsum32 cal165 rfl rfl (fun w hM => (sum32_calls sb fp vb kv F256 famOk256 h256 x rfl hx w (Asn.stays hT hTS hM) (famA_at hA hAS hM)).mono fun e w' ⟨u, h1, h2⟩ => ⟨u, h1, trivial, h2⟩) (by decide) (fun v1 _ => ?_)
  refine st_v (rv_move rfl) (by decide) ?_
  refine st_v (rv_move rfl) (by decide) ?_
  refine st_cut3 (i := 0) (k := 32) rfl Tryd.underlying22 sz5 rfl rfl rfl (by decide) (by decide) ?_
  rw [← List.map_take]
  refine st_v (rv_assign rfl) (by decide) ?_
  refine st_nil ?_
  refine st_then ?_
  refine st_ret ?_
  exact st_done rfl rfl (fun w hM => ⟨_, rfl, hM⟩)
set_option maxRecDepth 20000 in
theorem HClone0_calls (hb sb fp : Nat) (vb kv : Value) (x : List (BitVec 8)) (hx : x.length ≤ 900000) (w : World) (hX : (hashM 0 hb sb fp vb x).holds w) (hA : (famM 0 fp kv).holds w) : Calls Tryd.prog 30 #[pt hb 0] w (fun e w' => ∃ r : Nat × Nat × Value, e = .returned (pt r.1 0) ∧ Mem (All w) w w' [hashM 0 r.1 r.2.1 fp r.2.2 x]) := by
  have hB := hX.1 _ (List.mem_cons_self)
  have hT : (stM U32 159 F256 64 h256 sb fp vb x).holds w := hX.1 _ (List.mem_cons_of_mem _ List.mem_cons_self)
  obtain ⟨fr, hrow, _⟩ := hB
  have hSb : All w hb := ⟨(Array.getElem?_eq_some_iff.1 hrow).1, fun h => h⟩
  have hAS : ∀ b, (famM 0 fp kv).foot b → All w b := fun b hb => ⟨(famM 0 fp kv).live w hA b hb, fun h => h⟩
  have hTS : ∀ b, (stM U32 159 F256 64 h256 sb fp vb x).foot b → All w b := fun b hb => ⟨(stM U32 159 F256 64 h256 sb fp vb x).live w hT b hb, fun h => h⟩
  refine calls_of_st (n := 14) (args := [pt hb 0]) Tryd.func30 rfl Tryd.ntmps30 (Nat.le_of_ble_eq_true rfl) (Mem.all w) ?_
  refine st_seq ?_
  refine st_region ?_
  refine st_v (rv_assign rfl) (by decide) ?_
  refine st_nil ?_
  refine st_then ?_
  refine st_seq ?_
  refine st_heldStart 12 [false, false, false, false, false, false, false, false, false, false, false, false] mixed rfl rfl ?_
  refine st_heldTake 5 rfl rfl (by kernel_rfl) rfl (fun _ _ _ h => h) rfl (by decide) (rv_move rfl) ?_
  refine st_heldTake 6 rfl rfl (by kernel_rfl) rfl (fun _ _ _ h => h) rfl (by decide) (rv_nilCheck rfl) ?_
  refine st_heldTake 7 rfl rfl (by kernel_rfl) rfl (fun _ _ _ h => h) rfl (by decide) (rv_fieldAddr Tryd.underlying117 (fs := _) rfl sz48 rfl rfl) ?_
  refine st_heldTake 8 rfl rfl (by kernel_rfl) rfl (fun _ _ _ h => h) rfl (by decide) (rv_load_old tyS48 rfl hrow hSb rfl) ?_
  refine st_heldOp 0 rfl (by kernel_rfl) rfl ?_
  refine st_v (rv_move rfl) (by decide) ?_
  refine st_nil ?_
  refine st_thenH ?_
  refine st_heldOp 1 rfl (by kernel_rfl) rfl ?_
  refine st_v (rv_nilCheck rfl) (by decide) ?_
  refine st_nil ?_
  refine st_thenH ?_
  refine st_heldOp 2 rfl (by kernel_rfl) rfl ?_
  refine st_v (rv_fieldAddr Tryd.underlying117 (fs := _) rfl sz115 rfl rfl) (by decide) ?_
  refine st_nil ?_
  refine st_thenH ?_
  refine st_heldOp 3 rfl (by kernel_rfl) rfl ?_
  refine st_v (rv_load_old tyS115 rfl hrow hSb rfl) (by decide) ?_
  refine st_nil ?_
  refine st_thenH ?_
  refine st_heldOp 4 rfl (by kernel_rfl) rfl ?_
  refine st_inv1 (ρ := Nat × Value) (fun r => .iface 154 (pt r.1 0)) (fun _ => True) (fun r => [stM U32 159 F256 64 h256 r.1 fp r.2 x]) metclone32 cal163 rfl rfl (fun w hM => (clone32_calls sb fp vb kv F256 famOk256 h256 x rfl hx w (Asn.stays hT hTS hM) (famA_at hA hAS hM)).mono fun e w' ⟨u, h1, h2⟩ => ⟨u, h1, trivial, h2⟩) (by decide) (fun r1 _ => ?_)
  refine st_nil ?_
  refine st_thenH ?_
  refine st_heldOp 9 rfl (by kernel_rfl) rfl ?_
  refine st_v (rv_buildStruct_of Tryd.underlying117 tyZ117 (places := [(0, 1), (1, 1)]) (by kernel_rfl) rfl (cs := #[_, _]) (by rfl)) (by decide) ?_
  refine st_nil ?_
  refine st_thenH ?_
  refine st_heldOp 10 rfl (by kernel_rfl) rfl ?_
  refine st_box rfl (by decide) rfl (fun b2 hb2 => ?_)
  refine st_nil ?_
  refine st_thenH ?_
  refine st_heldOp 11 rfl (by kernel_rfl) rfl ?_
  refine st_v (rv_assign rfl) (by decide) ?_
  refine st_nil ?_
  refine st_thenH ?_
  refine st_heldDone (by kernel_rfl) ?_
  refine st_then ?_
  refine st_ret ?_
  exact st_done rfl rfl (fun w hM => ⟨(b2, r1.1, r1.2), rfl, Mem.pack (lm := hashL U32 154 159 117 F256 64 h256 0 b2 r1.1 fp r1.2 x) (lf := []) hM⟩)
set_option maxRecDepth 20000 in
theorem Write1_calls (hb sb fp : Nat) (vb kv v : Value) (x q : List (BitVec 8)) (hx : x.length + q.length ≤ 1000000) (w : World) (hX : (hashM 1 hb sb fp vb x).holds w) (hA : (famM 1 fp kv).holds w) (hAS : ∀ b, (famM 1 fp kv).foot b → Old w (hashM 1 hb sb fp vb x).turn b) (hQ : Rd w v q.length 1 (q.map U8)) (hQS : ∀ b, vfoot v b → Old w (hashM 1 hb sb fp vb x).turn b) : Calls Tryd.prog 29 #[pt hb 0, v] w (fun e w' => ∃ u, e = .returned (.tuple #[]) ∧ Mem (Old w (hashM 1 hb sb fp vb x).turn) w w' [hashM 1 hb sb fp u (x ++ q)]) := by
  refine calls_of_st (n := 10) (args := [pt hb 0, v]) Tryd.func29 rfl Tryd.ntmps29 (Nat.le_of_ble_eq_true rfl) (sepA_alone hX hashL_own) ?_
  refine st_region ?_
  refine st_v (rv_move rfl) (by decide) ?_
  refine st_v (rv_nilCheck rfl) (by decide) ?_
  refine st_v (rv_fieldAddr Tryd.underlying117 (fs := _) rfl sz115 rfl rfl) (by decide) ?_
  refine st_v (rv_load_blk tyS115 rfl (i := 0) rfl rfl) (by decide) ?_
  refine st_v (rv_move rfl) (by decide) ?_
  refine st_invE (ρ := Value) (fun _ => .tuple #[]) (fun _ => True) (fun u => stM U64 165 F512 128 h384 sb fp u (x ++ q)) (fun _ => []) (i := 1) metwrite64 cal176 rfl rfl rfl (fun w hM => (write64_calls sb fp vb kv v F512 famOk512 h384 x q rfl hx w (hM.at (i := 1) rfl) (famA_at hA hAS hM) (fun b hb => hM.offS (i := 1) rfl b (hAS b hb)) (rd_old hQ hQS w hM) (fun b hb => hM.offS (i := 1) rfl b (hQS b hb))).mono fun e w' ⟨u, h1, h2⟩ => ⟨u, h1, trivial, h2⟩) (by decide) (fun u1 _ => ?_)
  refine st_nil ?_
  exact st_done0' rfl (fun w hM => ⟨u1, rfl, Mem.pack (lm := hashL U64 160 165 117 F512 128 h384 1 hb sb fp u1 (x ++ q)) (lf := []) hM⟩)
set_option maxRecDepth 20000 in
theorem HSum1_calls (hb sb fp : Nat) (vb kv : Value) (x : List (BitVec 8)) (hx : x.length ≤ 900000) (w : World) (hL : LaidH w) (hX : (hashM 1 hb sb fp vb x).holds w) (hA : (famM 1 fp kv).holds w) : Calls Tryd.prog 31 #[pt hb 0] w (fun e w' => ∃ v, e = .returned v ∧ Mem (All w) w w' [own v 5 1 48 ((hsum 1 x).map U8)]) := by
  have hB := hX.1 _ (List.mem_cons_self)
  have hT : (stM U64 165 F512 128 h384 sb fp vb x).holds w := hX.1 _ (List.mem_cons_of_mem _ List.mem_cons_self)
  obtain ⟨fr, hrow, _⟩ := hB
  have hSb : All w hb := ⟨(Array.getElem?_eq_some_iff.1 hrow).1, fun h => h⟩
  have hAS : ∀ b, (famM 1 fp kv).foot b → All w b := fun b hb => ⟨(famM 1 fp kv).live w hA b hb, fun h => h⟩
  have hTS : ∀ b, (stM U64 165 F512 128 h384 sb fp vb x).foot b → All w b := fun b hb => ⟨(stM U64 165 F512 128 h384 sb fp vb x).live w hT b hb, fun h => h⟩
  have hS0 : All w 0 := ⟨hL.g0.lt, id⟩
  refine calls_of_st (n := 18) (args := [pt hb 0]) Tryd.func31 rfl Tryd.ntmps31 (Nat.le_of_ble_eq_true rfl) (Mem.all w) ?_
  refine st_seq ?_
  refine st_region ?_
  refine st_v (rv_assign rfl) (by decide) ?_
  refine st_nil ?_
  refine st_then ?_
  refine st_seq ?_
  refine st_region ?_
  refine st_v (rv_move rfl) (by decide) ?_
  refine st_v (rv_nilCheck rfl) (by decide) ?_
  refine st_v (rv_fieldAddr Tryd.underlying117 (fs := _) rfl sz48 rfl rfl) (by decide) ?_
  refine st_v (rv_load_old tyS48 rfl hrow hSb rfl) (by decide) ?_
  refine st_v (rv_indexA Tryd.underlying119 sz3 rfl rfl rfl (by first | omega | (simp <;> omega)) (by first | exact (Nat.zero_add _).trans (Nat.mul_one _) | exact congrArg _ (Nat.mul_one _) | exact Nat.zero_add _ | rfl)) (by decide) ?_
  refine st_v (rv_load_cell tyS3 rfl (hL.g0.cell (j := 1) rfl) hS0) (by decide) ?_
  refine st_v (rv_assign rfl) (by decide) ?_
  refine st_nil ?_
  refine st_then ?_
  refine st_seq ?_
  refine st_region ?_
  refine st_v (rv_move rfl) (by decide) ?_
  refine st_v (rv_nilCheck rfl) (by decide) ?_
  refine st_v (rv_fieldAddr Tryd.underlying117 (fs := _) rfl sz115 rfl rfl) (by decide) ?_
  refine st_v (rv_load_old tyS115 rfl hrow hSb rfl) (by decide) ?_
  refine st_inv1 (ρ := Value) (fun u => u) (fun _ => True) (fun u => [own u 5 1 (8 * 8) ((sumW F512 128 16 h384 x).map U8)]) metsum64 cal175 rfl rfl (fun w hM => (sum64_calls sb fp vb kv F512 famOk512 h384 x rfl hx w (Asn.stays hT hTS hM) (famA_at hA hAS hM)).mono fun e w' ⟨u, h1, h2⟩ => ⟨u, h1, trivial, h2⟩) (by decide) (fun v1 _ => ?_)
  refine st_v (rv_move rfl) (by decide) ?_
  refine st_v (rv_move rfl) (by decide) ?_
  refine st_cut3 (i := 0) (k := 48) rfl Tryd.underlying22 sz5 rfl rfl rfl (by decide) (by decide) ?_
  rw [← List.map_take]
  refine st_v (rv_assign rfl) (by decide) ?_
  refine st_nil ?_
  refine st_then ?_
  refine st_ret ?_
  exact st_done rfl rfl (fun w hM => ⟨_, rfl, hM⟩)
set_option maxRecDepth 20000 in
theorem HClone1_calls (hb sb fp : Nat) (vb kv : Value) (x : List (BitVec 8)) (hx : x.length ≤ 900000) (w : World) (hX : (hashM 1 hb sb fp vb x).holds w) (hA : (famM 1 fp kv).holds w) : Calls Tryd.prog 30 #[pt hb 0] w (fun e w' => ∃ r : Nat × Nat × Value, e = .returned (pt r.1 0) ∧ Mem (All w) w w' [hashM 1 r.1 r.2.1 fp r.2.2 x]) := by
  have hB := hX.1 _ (List.mem_cons_self)
  have hT : (stM U64 165 F512 128 h384 sb fp vb x).holds w := hX.1 _ (List.mem_cons_of_mem _ List.mem_cons_self)
  obtain ⟨fr, hrow, _⟩ := hB
  have hSb : All w hb := ⟨(Array.getElem?_eq_some_iff.1 hrow).1, fun h => h⟩
  have hAS : ∀ b, (famM 1 fp kv).foot b → All w b := fun b hb => ⟨(famM 1 fp kv).live w hA b hb, fun h => h⟩
  have hTS : ∀ b, (stM U64 165 F512 128 h384 sb fp vb x).foot b → All w b := fun b hb => ⟨(stM U64 165 F512 128 h384 sb fp vb x).live w hT b hb, fun h => h⟩
  refine calls_of_st (n := 14) (args := [pt hb 0]) Tryd.func30 rfl Tryd.ntmps30 (Nat.le_of_ble_eq_true rfl) (Mem.all w) ?_
  refine st_seq ?_
  refine st_region ?_
  refine st_v (rv_assign rfl) (by decide) ?_
  refine st_nil ?_
  refine st_then ?_
  refine st_seq ?_
  refine st_heldStart 12 [false, false, false, false, false, false, false, false, false, false, false, false] mixed rfl rfl ?_
  refine st_heldTake 5 rfl rfl (by kernel_rfl) rfl (fun _ _ _ h => h) rfl (by decide) (rv_move rfl) ?_
  refine st_heldTake 6 rfl rfl (by kernel_rfl) rfl (fun _ _ _ h => h) rfl (by decide) (rv_nilCheck rfl) ?_
  refine st_heldTake 7 rfl rfl (by kernel_rfl) rfl (fun _ _ _ h => h) rfl (by decide) (rv_fieldAddr Tryd.underlying117 (fs := _) rfl sz48 rfl rfl) ?_
  refine st_heldTake 8 rfl rfl (by kernel_rfl) rfl (fun _ _ _ h => h) rfl (by decide) (rv_load_old tyS48 rfl hrow hSb rfl) ?_
  refine st_heldOp 0 rfl (by kernel_rfl) rfl ?_
  refine st_v (rv_move rfl) (by decide) ?_
  refine st_nil ?_
  refine st_thenH ?_
  refine st_heldOp 1 rfl (by kernel_rfl) rfl ?_
  refine st_v (rv_nilCheck rfl) (by decide) ?_
  refine st_nil ?_
  refine st_thenH ?_
  refine st_heldOp 2 rfl (by kernel_rfl) rfl ?_
  refine st_v (rv_fieldAddr Tryd.underlying117 (fs := _) rfl sz115 rfl rfl) (by decide) ?_
  refine st_nil ?_
  refine st_thenH ?_
  refine st_heldOp 3 rfl (by kernel_rfl) rfl ?_
  refine st_v (rv_load_old tyS115 rfl hrow hSb rfl) (by decide) ?_
  refine st_nil ?_
  refine st_thenH ?_
  refine st_heldOp 4 rfl (by kernel_rfl) rfl ?_
  refine st_inv1 (ρ := Nat × Value) (fun r => .iface 160 (pt r.1 0)) (fun _ => True) (fun r => [stM U64 165 F512 128 h384 r.1 fp r.2 x]) metclone64 cal173 rfl rfl (fun w hM => (clone64_calls sb fp vb kv F512 famOk512 h384 x rfl hx w (Asn.stays hT hTS hM) (famA_at hA hAS hM)).mono fun e w' ⟨u, h1, h2⟩ => ⟨u, h1, trivial, h2⟩) (by decide) (fun r1 _ => ?_)
  refine st_nil ?_
  refine st_thenH ?_
  refine st_heldOp 9 rfl (by kernel_rfl) rfl ?_
  refine st_v (rv_buildStruct_of Tryd.underlying117 tyZ117 (places := [(0, 1), (1, 1)]) (by kernel_rfl) rfl (cs := #[_, _]) (by rfl)) (by decide) ?_
  refine st_nil ?_
  refine st_thenH ?_
  refine st_heldOp 10 rfl (by kernel_rfl) rfl ?_
  refine st_box rfl (by decide) rfl (fun b2 hb2 => ?_)
  refine st_nil ?_
  refine st_thenH ?_
  refine st_heldOp 11 rfl (by kernel_rfl) rfl ?_
  refine st_v (rv_assign rfl) (by decide) ?_
  refine st_nil ?_
  refine st_thenH ?_
  refine st_heldDone (by kernel_rfl) ?_
  refine st_then ?_
  refine st_ret ?_
  exact st_done rfl rfl (fun w hM => ⟨(b2, r1.1, r1.2), rfl, Mem.pack (lm := hashL U64 160 165 117 F512 128 h384 1 b2 r1.1 fp r1.2 x) (lf := []) hM⟩)
set_option maxRecDepth 20000 in
theorem Write2_calls (hb sb fp : Nat) (vb kv v : Value) (x q : List (BitVec 8)) (hx : x.length + q.length ≤ 1000000) (w : World) (hX : (hashM 2 hb sb fp vb x).holds w) (hA : (famM 2 fp kv).holds w) (hAS : ∀ b, (famM 2 fp kv).foot b → Old w (hashM 2 hb sb fp vb x).turn b) (hQ : Rd w v q.length 1 (q.map U8)) (hQS : ∀ b, vfoot v b → Old w (hashM 2 hb sb fp vb x).turn b) : Calls Tryd.prog 29 #[pt hb 0, v] w (fun e w' => ∃ u, e = .returned (.tuple #[]) ∧ Mem (Old w (hashM 2 hb sb fp vb x).turn) w w' [hashM 2 hb sb fp u (x ++ q)]) := by
  refine calls_of_st (n := 10) (args := [pt hb 0, v]) Tryd.func29 rfl Tryd.ntmps29 (Nat.le_of_ble_eq_true rfl) (sepA_alone hX hashL_own) ?_
  refine st_region ?_
  refine st_v (rv_move rfl) (by decide) ?_
  refine st_v (rv_nilCheck rfl) (by decide) ?_
  refine st_v (rv_fieldAddr Tryd.underlying117 (fs := _) rfl sz115 rfl rfl) (by decide) ?_
  refine st_v (rv_load_blk tyS115 rfl (i := 0) rfl rfl) (by decide) ?_
  refine st_v (rv_move rfl) (by decide) ?_
  refine st_invE (ρ := Value) (fun _ => .tuple #[]) (fun _ => True) (fun u => stM U64 165 F512 128 h512 sb fp u (x ++ q)) (fun _ => []) (i := 1) metwrite64 cal176 rfl rfl rfl (fun w hM => (write64_calls sb fp vb kv v F512 famOk512 h512 x q rfl hx w (hM.at (i := 1) rfl) (famA_at hA hAS hM) (fun b hb => hM.offS (i := 1) rfl b (hAS b hb)) (rd_old hQ hQS w hM) (fun b hb => hM.offS (i := 1) rfl b (hQS b hb))).mono fun e w' ⟨u, h1, h2⟩ => ⟨u, h1, trivial, h2⟩) (by decide) (fun u1 _ => ?_)
  refine st_nil ?_
  exact st_done0' rfl (fun w hM => ⟨u1, rfl, Mem.pack (lm := hashL U64 160 165 117 F512 128 h512 2 hb sb fp u1 (x ++ q)) (lf := []) hM⟩)
set_option maxRecDepth 20000 in
theorem HSum2_calls (hb sb fp : Nat) (vb kv : Value) (x : List (BitVec 8)) (hx : x.length ≤ 900000) (w : World) (hL : LaidH w) (hX : (hashM 2 hb sb fp vb x).holds w) (hA : (famM 2 fp kv).holds w) : Calls Tryd.prog 31 #[pt hb 0] w (fun e w' => ∃ v, e = .returned v ∧ Mem (All w) w w' [own v 5 1 64 ((hsum 2 x).map U8)]) := by
  have hB := hX.1 _ (List.mem_cons_self)
  have hT : (stM U64 165 F512 128 h512 sb fp vb x).holds w := hX.1 _ (List.mem_cons_of_mem _ List.mem_cons_self)
  obtain ⟨fr, hrow, _⟩ := hB
  have hSb : All w hb := ⟨(Array.getElem?_eq_some_iff.1 hrow).1, fun h => h⟩
  have hAS : ∀ b, (famM 2 fp kv).foot b → All w b := fun b hb => ⟨(famM 2 fp kv).live w hA b hb, fun h => h⟩
  have hTS : ∀ b, (stM U64 165 F512 128 h512 sb fp vb x).foot b → All w b := fun b hb => ⟨(stM U64 165 F512 128 h512 sb fp vb x).live w hT b hb, fun h => h⟩
  have hS0 : All w 0 := ⟨hL.g0.lt, id⟩
  refine calls_of_st (n := 18) (args := [pt hb 0]) Tryd.func31 rfl Tryd.ntmps31 (Nat.le_of_ble_eq_true rfl) (Mem.all w) ?_
  refine st_seq ?_
  refine st_region ?_
  refine st_v (rv_assign rfl) (by decide) ?_
  refine st_nil ?_
  refine st_then ?_
  refine st_seq ?_
  refine st_region ?_
  refine st_v (rv_move rfl) (by decide) ?_
  refine st_v (rv_nilCheck rfl) (by decide) ?_
  refine st_v (rv_fieldAddr Tryd.underlying117 (fs := _) rfl sz48 rfl rfl) (by decide) ?_
  refine st_v (rv_load_old tyS48 rfl hrow hSb rfl) (by decide) ?_
  refine st_v (rv_indexA Tryd.underlying119 sz3 rfl rfl rfl (by first | omega | (simp <;> omega)) (by first | exact (Nat.zero_add _).trans (Nat.mul_one _) | exact congrArg _ (Nat.mul_one _) | exact Nat.zero_add _ | rfl)) (by decide) ?_
  refine st_v (rv_load_cell tyS3 rfl (hL.g0.cell (j := 2) rfl) hS0) (by decide) ?_
  refine st_v (rv_assign rfl) (by decide) ?_
  refine st_nil ?_
  refine st_then ?_
  refine st_seq ?_
  refine st_region ?_
  refine st_v (rv_move rfl) (by decide) ?_
  refine st_v (rv_nilCheck rfl) (by decide) ?_
  refine st_v (rv_fieldAddr Tryd.underlying117 (fs := _) rfl sz115 rfl rfl) (by decide) ?_
  refine st_v (rv_load_old tyS115 rfl hrow hSb rfl) (by decide) ?_
  refine st_inv1 (ρ := Value) (fun u => u) (fun _ => True) (fun u => [own u 5 1 (8 * 8) ((sumW F512 128 16 h512 x).map U8)]) metsum64 cal175 rfl rfl (fun w hM => (sum64_calls sb fp vb kv F512 famOk512 h512 x rfl hx w (Asn.stays hT hTS hM) (famA_at hA hAS hM)).mono fun e w' ⟨u, h1, h2⟩ => ⟨u, h1, trivial, h2⟩) (by decide) (fun v1 _ => ?_)
  refine st_v (rv_move rfl) (by decide) ?_
  refine st_v (rv_move rfl) (by decide) ?_
  refine st_cut3 (i := 0) (k := 64) rfl Tryd.underlying22 sz5 rfl rfl rfl (by decide) (by decide) ?_
  rw [← List.map_take]
  refine st_v (rv_assign rfl) (by decide) ?_
  refine st_nil ?_
  refine st_then ?_
  refine st_ret ?_
  exact st_done rfl rfl (fun w hM => ⟨_, rfl, hM⟩)
set_option maxRecDepth 20000 in
theorem HClone2_calls (hb sb fp : Nat) (vb kv : Value) (x : List (BitVec 8)) (hx : x.length ≤ 900000) (w : World) (hX : (hashM 2 hb sb fp vb x).holds w) (hA : (famM 2 fp kv).holds w) : Calls Tryd.prog 30 #[pt hb 0] w (fun e w' => ∃ r : Nat × Nat × Value, e = .returned (pt r.1 0) ∧ Mem (All w) w w' [hashM 2 r.1 r.2.1 fp r.2.2 x]) := by
  have hB := hX.1 _ (List.mem_cons_self)
  have hT : (stM U64 165 F512 128 h512 sb fp vb x).holds w := hX.1 _ (List.mem_cons_of_mem _ List.mem_cons_self)
  obtain ⟨fr, hrow, _⟩ := hB
  have hSb : All w hb := ⟨(Array.getElem?_eq_some_iff.1 hrow).1, fun h => h⟩
  have hAS : ∀ b, (famM 2 fp kv).foot b → All w b := fun b hb => ⟨(famM 2 fp kv).live w hA b hb, fun h => h⟩
  have hTS : ∀ b, (stM U64 165 F512 128 h512 sb fp vb x).foot b → All w b := fun b hb => ⟨(stM U64 165 F512 128 h512 sb fp vb x).live w hT b hb, fun h => h⟩
  refine calls_of_st (n := 14) (args := [pt hb 0]) Tryd.func30 rfl Tryd.ntmps30 (Nat.le_of_ble_eq_true rfl) (Mem.all w) ?_
  refine st_seq ?_
  refine st_region ?_
  refine st_v (rv_assign rfl) (by decide) ?_
  refine st_nil ?_
  refine st_then ?_
  refine st_seq ?_
  refine st_heldStart 12 [false, false, false, false, false, false, false, false, false, false, false, false] mixed rfl rfl ?_
  refine st_heldTake 5 rfl rfl (by kernel_rfl) rfl (fun _ _ _ h => h) rfl (by decide) (rv_move rfl) ?_
  refine st_heldTake 6 rfl rfl (by kernel_rfl) rfl (fun _ _ _ h => h) rfl (by decide) (rv_nilCheck rfl) ?_
  refine st_heldTake 7 rfl rfl (by kernel_rfl) rfl (fun _ _ _ h => h) rfl (by decide) (rv_fieldAddr Tryd.underlying117 (fs := _) rfl sz48 rfl rfl) ?_
  refine st_heldTake 8 rfl rfl (by kernel_rfl) rfl (fun _ _ _ h => h) rfl (by decide) (rv_load_old tyS48 rfl hrow hSb rfl) ?_
  refine st_heldOp 0 rfl (by kernel_rfl) rfl ?_
  refine st_v (rv_move rfl) (by decide) ?_
  refine st_nil ?_
  refine st_thenH ?_
  refine st_heldOp 1 rfl (by kernel_rfl) rfl ?_
  refine st_v (rv_nilCheck rfl) (by decide) ?_
  refine st_nil ?_
  refine st_thenH ?_
  refine st_heldOp 2 rfl (by kernel_rfl) rfl ?_
  refine st_v (rv_fieldAddr Tryd.underlying117 (fs := _) rfl sz115 rfl rfl) (by decide) ?_
  refine st_nil ?_
  refine st_thenH ?_
  refine st_heldOp 3 rfl (by kernel_rfl) rfl ?_
  refine st_v (rv_load_old tyS115 rfl hrow hSb rfl) (by decide) ?_
  refine st_nil ?_
  refine st_thenH ?_
  refine st_heldOp 4 rfl (by kernel_rfl) rfl ?_
  refine st_inv1 (ρ := Nat × Value) (fun r => .iface 160 (pt r.1 0)) (fun _ => True) (fun r => [stM U64 165 F512 128 h512 r.1 fp r.2 x]) metclone64 cal173 rfl rfl (fun w hM => (clone64_calls sb fp vb kv F512 famOk512 h512 x rfl hx w (Asn.stays hT hTS hM) (famA_at hA hAS hM)).mono fun e w' ⟨u, h1, h2⟩ => ⟨u, h1, trivial, h2⟩) (by decide) (fun r1 _ => ?_)
  refine st_nil ?_
  refine st_thenH ?_
  refine st_heldOp 9 rfl (by kernel_rfl) rfl ?_
  refine st_v (rv_buildStruct_of Tryd.underlying117 tyZ117 (places := [(0, 1), (1, 1)]) (by kernel_rfl) rfl (cs := #[_, _]) (by rfl)) (by decide) ?_
  refine st_nil ?_
  refine st_thenH ?_
  refine st_heldOp 10 rfl (by kernel_rfl) rfl ?_
  refine st_box rfl (by decide) rfl (fun b2 hb2 => ?_)
  refine st_nil ?_
  refine st_thenH ?_
  refine st_heldOp 11 rfl (by kernel_rfl) rfl ?_
  refine st_v (rv_assign rfl) (by decide) ?_
  refine st_nil ?_
  refine st_thenH ?_
  refine st_heldDone (by kernel_rfl) ?_
  refine st_then ?_
  refine st_ret ?_
  exact st_done rfl rfl (fun w hM => ⟨(b2, r1.1, r1.2), rfl, Mem.pack (lm := hashL U64 160 165 117 F512 128 h512 2 b2 r1.1 fp r1.2 x) (lf := []) hM⟩)
theorem begin_calls (k : Nat) (hk : k ≤ 2) (w : World) (hL : LaidH w) : Calls Tryd.prog 82 #[vI (k : Nat)] w (fun e w' => ∃ r : HP, e = .returned (pt r.hb 0) ∧ Mem (All w) w w' [hashM k r.hb r.sb r.fp r.vb [], famM k r.fp r.kv]) := by
  match k, hk with
  | 0, _ => exact begin0_calls w hL
  | 1, _ => exact begin1_calls w hL
  | 2, _ => exact begin2_calls w hL
theorem Write_calls (k : Nat) (hk : k ≤ 2) (hb sb fp : Nat) (vb kv v : Value) (x q : List (BitVec 8)) (hx : x.length + q.length ≤ 1000000) (w : World) (hX : (hashM k hb sb fp vb x).holds w) (hA : (famM k fp kv).holds w) (hAS : ∀ b, (famM k fp kv).foot b → Old w (hashM k hb sb fp vb x).turn b) (hQ : Rd w v q.length 1 (q.map U8)) (hQS : ∀ b, vfoot v b → Old w (hashM k hb sb fp vb x).turn b) :
    Calls Tryd.prog 29 #[pt hb 0, v] w (fun e w' => ∃ u, e = .returned (.tuple #[]) ∧ Mem (Old w (hashM k hb sb fp vb x).turn) w w' [hashM k hb sb fp u (x ++ q)]) := by
  match k, hk with
  | 0, _ => exact Write0_calls hb sb fp vb kv v x q hx w hX hA hAS hQ hQS
  | 1, _ => exact Write1_calls hb sb fp vb kv v x q hx w hX hA hAS hQ hQS
  | 2, _ => exact Write2_calls hb sb fp vb kv v x q hx w hX hA hAS hQ hQS
theorem HSum_calls (k : Nat) (hk : k ≤ 2) (hb sb fp : Nat) (vb kv : Value) (x : List (BitVec 8)) (hx : x.length ≤ 900000) (w : World) (hL : LaidH w) (hX : (hashM k hb sb fp vb x).holds w) (hA : (famM k fp kv).holds w) :
    Calls Tryd.prog 31 #[pt hb 0] w (fun e w' => ∃ v, e = .returned v ∧ Mem (All w) w w' [own v 5 1 (hsize k) ((hsum k x).map U8)]) := by
  match k, hk with
  | 0, _ => exact HSum0_calls hb sb fp vb kv x hx w hL hX hA
  | 1, _ => exact HSum1_calls hb sb fp vb kv x hx w hL hX hA
  | 2, _ => exact HSum2_calls hb sb fp vb kv x hx w hL hX hA
theorem HClone_calls (k : Nat) (hk : k ≤ 2) (hb sb fp : Nat) (vb kv : Value) (x : List (BitVec 8)) (hx : x.length ≤ 900000) (w : World) (hX : (hashM k hb sb fp vb x).holds w) (hA : (famM k fp kv).holds w) :
    Calls Tryd.prog 30 #[pt hb 0] w (fun e w' => ∃ r : Nat × Nat × Value, e = .returned (pt r.1 0) ∧ Mem (All w) w w' [hashM k r.1 r.2.1 fp r.2.2 x]) := by
  match k, hk with
  | 0, _ => exact HClone0_calls hb sb fp vb kv x hx w hX hA
  | 1, _ => exact HClone1_calls hb sb fp vb kv x hx w hX hA
  | 2, _ => exact HClone2_calls hb sb fp vb kv x hx w hX hA
def knownZ (z : Int) : Bool := decide (0 ≤ z) && decide (z < 3)
theorem knownZ_true {z : Int} (h : knownZ z = true) : ∃ k : Nat, k ≤ 2 ∧ z = (k : Int) := by
  simp [knownZ] at h
  exact ⟨z.toNat, by omega, by omega⟩
theorem knownZ_of {k : Nat} (h : k ≤ 2) : knownZ (k : Int) = true := by simp [knownZ]; omega
theorem sizes_at {k : Nat} (hk : k ≤ 2) : #[vI (32 : Nat), vI (48 : Nat), vI (64 : Nat)][k]? = some (vI (hsize k : Nat)) := by
  match k, hk with
  | 0, _ => rfl
  | 1, _ => rfl
  | 2, _ => rfl
theorem getD_at {vs : List Value} {i : Nat} (h : i < vs.length) : vs[i]? = some (vs.getD i nilS) := by simp [h]
theorem rd_part {vs : List Value} {ls : List (List (BitVec 8))} {w0 : World} {l : List Asn} {i : Nat} (h : (rdAll vs ls).holds w0) (hi : i < vs.length) : ∀ w, Mem (All w0) w0 w l → Rd w (vs.getD i nilS) (ls.getD i []).length 1 ((ls.getD i []).map U8) := fun w M => by
  have h1 : (rdAll vs ls).holds w := (rdAll vs ls).keep w0 w (fun b hb => M.old b ⟨(rdAll vs ls).live w0 h b hb, id⟩) h
  exact h1.2 i _ _ (getD_at hi) (by have := h.1; simp [show i < ls.length by omega])
theorem rd_partS {vs : List Value} {ls : List (List (BitVec 8))} {w0 : World} {i : Nat} (h : (rdAll vs ls).holds w0) (hi : i < vs.length) : ∀ b, vfoot (vs.getD i nilS) b → All w0 b := fun b hb =>
  ⟨(rdAll vs ls).live w0 h b ⟨_, List.mem_of_getElem? (getD_at hi), hb⟩, id⟩
theorem flat_succ (ls : List (List (BitVec 8))) (i : Nat) (h : i < ls.length) : (ls.take i).flatten ++ ls.getD i [] = (ls.take (i + 1)).flatten := by
  rw [List.take_succ_eq_append_getElem h, List.flatten_append]
  simp [h]
theorem flat_le (ls : List (List (BitVec 8))) (i : Nat) (h : i < ls.length) : (ls.take i).flatten.length + (ls.getD i []).length ≤ ls.flatten.length := by
  rw [← List.length_append, flat_succ ls i h]
  have : ls.flatten = (ls.take (i + 1)).flatten ++ (ls.drop (i + 1)).flatten := by rw [← List.flatten_append, List.take_append_drop]
  rw [this, List.length_append]; omega
theorem rdAll_nil (w : World) : (rdAll [] []).holds w := ⟨rfl, fun k v x h => by simp at h⟩
theorem rdAll_cons {w : World} {v : Value} {x : List (BitVec 8)} {vs : List Value} {ls : List (List (BitVec 8))} (h : Rd w v x.length 1 (x.map U8)) (hr : (rdAll vs ls).holds w) : (rdAll (v :: vs) (x :: ls)).holds w := by
  refine ⟨by simp [hr.1], fun k u y hu hy => ?_⟩
  cases k with
  | zero => simp at hu hy; subst hu; subst hy; exact h
  | succ k => exact hr.2 k u y (by simpa using hu) (by simpa using hy)
set_option maxRecDepth 20000 in
theorem known_calls (z : Int) (w : World) : Calls Tryd.prog 81 #[vI z] w (fun r w' => r = .returned (.bool (knownZ z)) ∧ Mem (All w) w w' []) := by
  refine calls_of_st (n := 9) (args := [vI z]) Tryd.func81 rfl Tryd.ntmps81 (Nat.le_of_ble_eq_true rfl) (Mem.all w) ?_
  refine st_seq ?_
  refine st_region ?_
  refine st_v (rv_assign rfl) (by decide) ?_
  refine st_nil ?_
  refine st_then ?_
  refine st_seq ?_
  refine st_region ?_
  refine st_v (rv_move rfl) (by decide) ?_
  refine st_v (rv_geqZ rfl rfl) (by decide) ?_
  refine st_v (rv_move rfl) (by decide) ?_
  refine' st_and 3 (L := _) (s := 5) (d := 8) [2] rfl (fun hg3 => ?_) (fun _ => ?_) ?_; rotate_left
  · -- true
    try simp only [decide_eq_true_eq, decide_eq_false_iff_not, Bool.and_eq_true, Bool.not_eq_true] at hg3
    refine st_gon rfl rfl ?_
    refine st_v (rv_move rfl) (by decide) ?_
    refine st_gon rfl rfl ?_
    refine st_v (rv_lssZ rfl rfl) (by decide) ?_
    first | refine st_v (rv_pick_true rfl rfl) (by decide) ?_ | refine st_v (rv_pick_false rfl rfl) (by decide) ?_ | refine st_v (rv_pick rfl rfl rfl) (by decide) ?_
    refine st_nil ?_
    exact st_meet_b (.cons rfl (.cons rfl (.nil _)))
  · -- false
    refine st_gskip rfl rfl rfl (by decide) ?_
    refine st_gskip rfl rfl rfl (by decide) ?_
    first | refine st_v (rv_pick_true rfl rfl) (by decide) ?_ | refine st_v (rv_pick_false rfl rfl) (by decide) ?_ | refine st_v (rv_pick rfl rfl rfl) (by decide) ?_
    refine st_nil ?_
    exact st_meet_b (.cons rfl (.cons rfl (.nil _)))
  refine st_v (rv_assign rfl) (by decide) ?_
  refine st_nil ?_
  refine st_then ?_
  refine st_ret ?_
  exact st_done rfl rfl (fun w hM => ⟨by simp [knownZ], hM.sublist (List.nil_sublist _)⟩)
set_option maxRecDepth 20000 in
theorem of_calls (k : Nat) (hk : k ≤ 2) (v : Value) (vs : List Value) (ls : List (List (BitVec 8))) (ht : ls.flatten.length ≤ 900000) (hvs : vs.length ≤ 1000000) (w : World) (hL : LaidH w) (hV : Rd w v vs.length 1 vs) (hR : (rdAll vs ls).holds w) : Calls Tryd.prog 83 #[vI (k : Nat), v] w (fun e w' => ∃ v, e = .returned v ∧ Mem (All w) w w' [own v 5 1 (hsize k) ((hsum k ls.flatten).map U8)]) := by
  have hlen : vs.length = ls.length := hR.1
  refine calls_of_st (n := 22) (args := [vI (k : Nat), v]) Tryd.func83 rfl Tryd.ntmps83 (Nat.le_of_ble_eq_true rfl) (Mem.all w) ?_
  refine st_seq ?_
  refine st_region ?_
  refine st_v (rv_assign rfl) (by decide) ?_
  refine st_nil ?_
  refine st_then ?_
  refine st_seq ?_
  refine st_region ?_
  refine st_v (rv_move rfl) (by decide) ?_
  refine st_call1 (ρ := HP) (fun r => pt r.hb 0) (fun _ => True) (fun r => [hashM k r.hb r.sb r.fp r.vb [], famM k r.fp r.kv]) cal82 rfl (fun w hM => ((begin_calls _ hk w (hL.at hM))).mono fun e w' ⟨r, h1, h2⟩ => ⟨r, h1, trivial, h2⟩) (by decide) (fun r1 _ => ?_)
  refine st_v (rv_assign rfl) (by decide) ?_
  refine st_nil ?_
  refine st_then ?_
  refine st_seq ?_
  refine st_seq ?_
  refine st_region ?_
  refine st_v (rv_move rfl) (by decide) ?_
  refine st_v (rv_lenR (rd_old hV hV.all) Tryd.underlying166 rfl) (by decide) ?_
  refine st_v (rv_move rfl) (by decide) ?_
  refine st_nil ?_
  refine st_then ?_
  refine st_block ?_
  refine st_loopA (σ := Nat × Value) [(5, kst _), (10, kst _), (11, kst _), (12, fun (i, u) => vI i)] [fun (i, u) => hashM k r1.hb r1.sb r1.fp u (ls.take i).flatten, kst _] (fun (i, u) => i ≤ vs.length) (fun (i, u) => vs.length - i) (0, r1.vb) (by omega) (.cons rfl (.cons rfl (.cons rfl (.cons rfl (.nil _))))) (fun _ hM => hM) ?_
  intro ⟨i, u⟩ hI
  try dsimp only at hI
  dsimp only [List.map, kst]
  refine st_seq ?_
  refine st_region ?_
  refine st_v (rv_lssZ rfl rfl) (by decide) ?_
  refine st_nil ?_
  refine st_then ?_
  refine st_seq ?_
  refine st_cond rfl (fun hc13 => ?_) (fun hc13 => ?_)
  · -- t13 True
    try simp only [z1, z2, z3, z4, z5, z6, z7, z8, z9, z10, z11, z12, z13, z14] at hc13
    refine st_skip ?_
    refine st_then ?_
    refine st_seq ?_
    refine st_block ?_
    refine st_seq ?_
    refine st_region ?_
    refine st_v (rv_indexR1 (rd_old hV hV.all) Tryd.underlying166 sz22 rfl rfl rfl (by first | omega | (simp <;> omega))) (by decide) ?_
    refine st_v (rv_load_rd (rd_old hV hV.all) tyS22 rfl (getD_at (by omega))) (by decide) ?_
    refine st_v (rv_assign rfl) (by decide) ?_
    refine st_nil ?_
    refine st_then ?_
    refine st_region ?_
    refine st_v (rv_move rfl) (by decide) ?_
    refine st_v (rv_move rfl) (by decide) ?_
    refine st_callE (ρ := Value) (fun _ => .tuple #[]) (fun _ => True) (fun u => hashM _ _ _ _ u (_ ++ _)) (fun _ => []) (i := 0) cal29 rfl rfl (fun w hM => (Write_calls _ hk _ _ _ _ _ _ _ _ (by have := flat_le ls i (by omega); omega) w (hM.at (i := 0) rfl) (hM.at (i := 1) rfl) (hM.offOf (i := 0) (j := 1) rfl rfl (by decide)) ((rd_part hR (by omega)) w hM) (fun b hb => hM.offS (i := 0) rfl b ((rd_partS hR (by omega)) b hb))).mono fun e w' ⟨u, h1, h2⟩ => ⟨u, h1, trivial, h2⟩) (by decide) (fun u2 _ => ?_)
    rw [flat_succ ls i (by omega)]
    refine st_nil ?_
    refine st_in_normal ?_
    refine st_then ?_
    refine st_region ?_
    first | refine st_v (rv_addN (b := 1) rfl rfl (by first | omega | (simp; done) | (simp; omega))) (by decide) ?_ | refine st_v (rv_addZ rfl rfl (by first | omega | (simp; done) | (simp; omega))) (by decide) ?_
    refine st_v (rv_move rfl) (by decide) ?_
    refine st_nil ?_
    refine st_then ?_
    exact st_again (i + 1, _) (by omega) (by omega) (.cons rfl (.cons rfl (.cons rfl (.cons rfl (.nil _))))) (fun _ hM => hM)
  · -- t13 False
    try simp only [z1, z2, z3, z4, z5, z6, z7, z8, z9, z10, z11, z12, z13, z14] at hc13
    obtain rfl : i = vs.length := by omega
    rw [show ls.take vs.length = ls from List.take_of_length_le (by omega)]
    refine st_exit ?_
    refine st_then_exit ?_
    refine st_then_exit ?_
    refine st_in_exit ?_
    refine st_then ?_
    refine st_seq ?_
    refine st_region ?_
    refine st_v (rv_move rfl) (by decide) ?_
    refine st_callV cal31 rfl (fun w hM => (HSum_calls _ hk _ _ _ _ _ _ (by omega) w (hL.at hM) (hM.at (i := 0) rfl) (hM.at (i := 1) rfl))) (by decide) (fun v3 => ?_)
    refine st_v (rv_assign rfl) (by decide) ?_
    refine st_nil ?_
    refine st_then ?_
    refine st_ret ?_
    exact st_done rfl rfl (fun w hM => ⟨_, rfl, hM.sublist (List.cons_sublist_cons.2 (List.nil_sublist _))⟩)
theorem known_ok {k : Nat} (hk : k ≤ 2) (w : World) : Calls Tryd.prog 81 #[vI (k : Nat)] w (fun r w' => r = .returned (.bool true) ∧ Mem (All w) w w' []) := by
  have := known_calls (k : Int) w
  rwa [knownZ_of hk] at this
theorem known_bad {z : Int} (hz : knownZ z = false) (w : World) : Calls Tryd.prog 81 #[vI z] w (fun r w' => r = .returned (.bool false) ∧ Mem (All w) w w' []) := by
  have := known_calls z w
  rwa [hz] at this
theorem of1_calls (k : Nat) (hk : k ≤ 2) (u v : Value) (q : List (BitVec 8)) (hq : q.length ≤ 900000) (w : World) (hL : LaidH w) (hV : Rd w u 1 1 [v]) (hR : Rd w v q.length 1 (q.map U8)) :
    Calls Tryd.prog 83 #[vI (k : Nat), u] w (fun e w' => ∃ r, e = .returned r ∧ Mem (All w) w w' [own r 5 1 (hsize k) ((hsum k q).map U8)]) := by
  have := of_calls k hk u [v] [q] (by simpa using hq) (by simp) w hL hV (rdAll_cons hR (rdAll_nil w))
  simpa using this
theorem of2_calls (k : Nat) (hk : k ≤ 2) (u v1 v2 : Value) (q1 q2 : List (BitVec 8)) (hq : q1.length + q2.length ≤ 900000) (w : World) (hL : LaidH w) (hV : Rd w u 2 1 [v1, v2]) (h1 : Rd w v1 q1.length 1 (q1.map U8)) (h2 : Rd w v2 q2.length 1 (q2.map U8)) :
    Calls Tryd.prog 83 #[vI (k : Nat), u] w (fun e w' => ∃ r, e = .returned r ∧ Mem (All w) w w' [own r 5 1 (hsize k) ((hsum k (q1 ++ q2)).map U8)]) := by
  have := of_calls k hk u [v1, v2] [q1, q2] (by simpa using hq) (by simp) w hL hV (rdAll_cons h1 (rdAll_cons h2 (rdAll_nil w)))
  simpa using this
theorem length_hsum {k : Nat} (hk : k ≤ 2) (x : List (BitVec 8)) : (hsum k x).length = hsize k := by
  match k, hk with
  | 0, _ => simp [hsum, hsize, sumW, length_hout]
  | 1, _ => simp [hsum, hsize, sumW, length_hout]
  | 2, _ => simp [hsum, hsize, sumW, length_hout]
set_option maxRecDepth 20000 in
theorem New_bad (z : Int) (hz : knownZ z = false) (w : World) : Calls Tryd.prog 27 #[vI z] w (fun r w' => r = .returned (.tuple #[.pointer none, vI 2]) ∧ Mem (All w) w w' []) := by
  refine calls_of_st (n := 9) (args := [vI z]) Tryd.func27 rfl Tryd.ntmps27 (Nat.le_of_ble_eq_true rfl) (Mem.all w) ?_
  refine st_seq ?_
  refine st_region ?_
  refine st_v (rv_assign rfl) (by decide) ?_
  refine st_v (rv_assign rfl) (by decide) ?_
  refine st_nil ?_
  refine st_then ?_
  refine st_seq ?_
  refine st_seq ?_
  refine st_region ?_
  refine st_v (rv_move rfl) (by decide) ?_
  refine st_call0 cal81 rfl (fun w hM => (known_bad hz w)) (by decide) ?_
  refine st_v (rv_not rfl) (by decide) ?_
  refine st_nil ?_
  refine st_then ?_
  refine st_true rfl ?_
  refine st_seq ?_
  refine st_region ?_
  refine st_v (rv_assign rfl) (by decide) ?_
  refine st_v (rv_assign rfl) (by decide) ?_
  refine st_nil ?_
  refine st_then ?_
  refine st_ret ?_
  refine st_then_ret ?_
  exact st_done2 rfl rfl rfl (fun w hM => ⟨rfl, hM.sublist (List.nil_sublist _)⟩)
set_option maxRecDepth 20000 in
theorem New_ok (k : Nat) (hk : k ≤ 2) (w : World) (hL : LaidH w) : Calls Tryd.prog 27 #[vI (k : Nat)] w (fun e w' => ∃ r : HP, e = .returned (.tuple #[pt r.hb 0, vI 0]) ∧ Mem (All w) w w' [hashM k r.hb r.sb r.fp r.vb [], famM k r.fp r.kv]) := by
  refine calls_of_st (n := 9) (args := [vI (k : Nat)]) Tryd.func27 rfl Tryd.ntmps27 (Nat.le_of_ble_eq_true rfl) (Mem.all w) ?_
  refine st_seq ?_
  refine st_region ?_
  refine st_v (rv_assign rfl) (by decide) ?_
  refine st_v (rv_assign rfl) (by decide) ?_
  refine st_nil ?_
  refine st_then ?_
  refine st_seq ?_
  refine st_seq ?_
  refine st_region ?_
  refine st_v (rv_move rfl) (by decide) ?_
  refine st_call0 cal81 rfl (fun w hM => (known_ok hk w)) (by decide) ?_
  refine st_v (rv_not rfl) (by decide) ?_
  refine st_nil ?_
  refine st_then ?_
  refine st_false rfl ?_
  refine st_skip ?_
  refine st_then ?_
  refine st_seq ?_
  refine st_region ?_
  refine st_v (rv_move rfl) (by decide) ?_
  refine st_call1 (ρ := HP) (fun r => pt r.hb 0) (fun _ => True) (fun r => [hashM k r.hb r.sb r.fp r.vb [], famM k r.fp r.kv]) cal82 rfl (fun w hM => ((begin_calls _ hk w (hL.at hM))).mono fun e w' ⟨r, h1, h2⟩ => ⟨r, h1, trivial, h2⟩) (by decide) (fun r1 _ => ?_)
  refine st_v (rv_assign rfl) (by decide) ?_
  refine st_v (rv_assign rfl) (by decide) ?_
  refine st_nil ?_
  refine st_then ?_
  refine st_ret ?_
  exact st_done2 rfl rfl rfl (fun w hM => ⟨r1, rfl, hM⟩)
set_option maxRecDepth 20000 in
theorem Size_bad (z : Int) (hz : knownZ z = false) (w : World) : Calls Tryd.prog 34 #[vI z] w (fun r w' => r = .returned (vI 0) ∧ Mem (All w) w w' []) := by
  refine calls_of_st (n := 9) (args := [vI z]) Tryd.func34 rfl Tryd.ntmps34 (Nat.le_of_ble_eq_true rfl) (Mem.all w) ?_
  refine st_seq ?_
  refine st_region ?_
  refine st_v (rv_assign rfl) (by decide) ?_
  refine st_nil ?_
  refine st_then ?_
  refine st_seq ?_
  refine st_seq ?_
  refine st_region ?_
  refine st_v (rv_move rfl) (by decide) ?_
  refine st_call0 cal81 rfl (fun w hM => (known_bad hz w)) (by decide) ?_
  refine st_v (rv_not rfl) (by decide) ?_
  refine st_nil ?_
  refine st_then ?_
  refine st_true rfl ?_
  refine st_seq ?_
  refine st_region ?_
  refine st_v (rv_assign rfl) (by decide) ?_
  refine st_nil ?_
  refine st_then ?_
  refine st_ret ?_
  refine st_then_ret ?_
  exact st_done rfl rfl (fun w hM => ⟨rfl, hM.sublist (List.nil_sublist _)⟩)
set_option maxRecDepth 20000 in
theorem Size_ok (k : Nat) (hk : k ≤ 2) (w : World) (hL : LaidH w) : Calls Tryd.prog 34 #[vI (k : Nat)] w (fun r w' => r = .returned (vI (hsize k : Nat)) ∧ Mem (All w) w w' []) := by
  have hS0 : All w 0 := ⟨hL.g0.lt, id⟩
  refine calls_of_st (n := 9) (args := [vI (k : Nat)]) Tryd.func34 rfl Tryd.ntmps34 (Nat.le_of_ble_eq_true rfl) (Mem.all w) ?_
  refine st_seq ?_
  refine st_region ?_
  refine st_v (rv_assign rfl) (by decide) ?_
  refine st_nil ?_
  refine st_then ?_
  refine st_seq ?_
  refine st_seq ?_
  refine st_region ?_
  refine st_v (rv_move rfl) (by decide) ?_
  refine st_call0 cal81 rfl (fun w hM => (known_ok hk w)) (by decide) ?_
  refine st_v (rv_not rfl) (by decide) ?_
  refine st_nil ?_
  refine st_then ?_
  refine st_false rfl ?_
  refine st_skip ?_
  refine st_then ?_
  refine st_seq ?_
  refine st_region ?_
  refine st_v (rv_move rfl) (by decide) ?_
  refine st_v (rv_indexA Tryd.underlying119 sz3 rfl rfl rfl (by first | omega | (simp <;> omega)) (by first | exact (Nat.zero_add _).trans (Nat.mul_one _) | exact congrArg _ (Nat.mul_one _) | exact Nat.zero_add _ | rfl)) (by decide) ?_
  refine st_v (rv_load_cell tyS3 rfl (hL.g0.cell (sizes_at hk)) hS0) (by decide) ?_
  refine st_v (rv_assign rfl) (by decide) ?_
  refine st_nil ?_
  refine st_then ?_
  refine st_ret ?_
  exact st_done rfl rfl (fun w hM => ⟨rfl, hM.sublist (List.nil_sublist _)⟩)
set_option maxRecDepth 20000 in
theorem BlockSize_bad (z : Int) (hz : knownZ z = false) (w : World) : Calls Tryd.prog 35 #[vI z] w (fun r w' => r = .returned (vI 0) ∧ Mem (All w) w w' []) := by
  refine calls_of_st (n := 12) (args := [vI z]) Tryd.func35 rfl Tryd.ntmps35 (Nat.le_of_ble_eq_true rfl) (Mem.all w) ?_
  refine st_seq ?_
  refine st_region ?_
  refine st_v (rv_assign rfl) (by decide) ?_
  refine st_nil ?_
  refine st_then ?_
  refine st_seq ?_
  refine st_seq ?_
  refine st_region ?_
  refine st_v (rv_move rfl) (by decide) ?_
  refine st_call0 cal81 rfl (fun w hM => (known_bad hz w)) (by decide) ?_
  refine st_v (rv_not rfl) (by decide) ?_
  refine st_nil ?_
  refine st_then ?_
  refine st_true rfl ?_
  refine st_seq ?_
  refine st_region ?_
  refine st_v (rv_assign rfl) (by decide) ?_
  refine st_nil ?_
  refine st_then ?_
  refine st_ret ?_
  refine st_then_ret ?_
  exact st_done rfl rfl (fun w hM => ⟨rfl, hM.sublist (List.nil_sublist _)⟩)
set_option maxRecDepth 20000 in
theorem BlockSize0 (w : World) (hL : LaidH w) : Calls Tryd.prog 35 #[vI (0 : Nat)] w (fun r w' => r = .returned (vI (hbs 0 : Nat)) ∧ Mem (All w) w w' []) := by
  refine calls_of_st (n := 12) (args := [vI (0 : Nat)]) Tryd.func35 rfl Tryd.ntmps35 (Nat.le_of_ble_eq_true rfl) (Mem.all w) ?_
  refine st_seq ?_
  refine st_region ?_
  refine st_v (rv_assign rfl) (by decide) ?_
  refine st_nil ?_
  refine st_then ?_
  refine st_seq ?_
  refine st_seq ?_
  refine st_region ?_
  refine st_v (rv_move rfl) (by decide) ?_
  refine st_call0 cal81 rfl (fun w hM => (known_ok (k := 0) (by decide) w)) (by decide) ?_
  refine st_v (rv_not rfl) (by decide) ?_
  refine st_nil ?_
  refine st_then ?_
  refine st_false rfl ?_
  refine st_skip ?_
  refine st_then ?_
  refine st_seq ?_
  refine st_region ?_
  refine st_v (rv_move rfl) (by decide) ?_
  refine st_call1 (ρ := HP) (fun r => pt r.hb 0) (fun _ => True) (fun r => [hashM 0 r.hb r.sb r.fp r.vb [], famM 0 r.fp r.kv]) cal82 rfl (fun w hM => ((begin0_calls w (hL.at hM))).mono fun e w' ⟨r, h1, h2⟩ => ⟨r, h1, trivial, h2⟩) (by decide) (fun r1 _ => ?_)
  refine St.mem ?_ (fun w hM => Mem.unpack (lm := hashL U32 154 159 117 F256 64 h256 0 r1.hb r1.sb r1.fp r1.vb []) (lf := [_]) hM)
  refine st_v (rv_nilCheck rfl) (by decide) ?_
  refine st_v (rv_fieldAddr Tryd.underlying117 (fs := _) rfl sz115 rfl rfl) (by decide) ?_
  refine st_v (rv_load_blk tyS115 rfl (i := 0) rfl rfl) (by decide) ?_
  refine st_inv1 (ρ := Unit) (fun _ => vI (64 : Nat)) (fun _ => True) (fun _ => []) metsize32 cal164 rfl rfl (fun w hM => (size32_calls _ w).mono fun e w' ⟨h1, h2⟩ => ⟨(), h1, trivial, h2⟩) (by decide) (fun _ _ => ?_)
  refine st_v (rv_assign rfl) (by decide) ?_
  refine st_nil ?_
  refine st_then ?_
  refine st_ret ?_
  exact st_done rfl rfl (fun w hM => ⟨rfl, hM.sublist (List.nil_sublist _)⟩)
set_option maxRecDepth 20000 in
theorem BlockSize1 (w : World) (hL : LaidH w) : Calls Tryd.prog 35 #[vI (1 : Nat)] w (fun r w' => r = .returned (vI (hbs 1 : Nat)) ∧ Mem (All w) w w' []) := by
  refine calls_of_st (n := 12) (args := [vI (1 : Nat)]) Tryd.func35 rfl Tryd.ntmps35 (Nat.le_of_ble_eq_true rfl) (Mem.all w) ?_
  refine st_seq ?_
  refine st_region ?_
  refine st_v (rv_assign rfl) (by decide) ?_
  refine st_nil ?_
  refine st_then ?_
  refine st_seq ?_
  refine st_seq ?_
  refine st_region ?_
  refine st_v (rv_move rfl) (by decide) ?_
  refine st_call0 cal81 rfl (fun w hM => (known_ok (k := 1) (by decide) w)) (by decide) ?_
  refine st_v (rv_not rfl) (by decide) ?_
  refine st_nil ?_
  refine st_then ?_
  refine st_false rfl ?_
  refine st_skip ?_
  refine st_then ?_
  refine st_seq ?_
  refine st_region ?_
  refine st_v (rv_move rfl) (by decide) ?_
  refine st_call1 (ρ := HP) (fun r => pt r.hb 0) (fun _ => True) (fun r => [hashM 1 r.hb r.sb r.fp r.vb [], famM 1 r.fp r.kv]) cal82 rfl (fun w hM => ((begin1_calls w (hL.at hM))).mono fun e w' ⟨r, h1, h2⟩ => ⟨r, h1, trivial, h2⟩) (by decide) (fun r1 _ => ?_)
  refine St.mem ?_ (fun w hM => Mem.unpack (lm := hashL U64 160 165 117 F512 128 h384 1 r1.hb r1.sb r1.fp r1.vb []) (lf := [_]) hM)
  refine st_v (rv_nilCheck rfl) (by decide) ?_
  refine st_v (rv_fieldAddr Tryd.underlying117 (fs := _) rfl sz115 rfl rfl) (by decide) ?_
  refine st_v (rv_load_blk tyS115 rfl (i := 0) rfl rfl) (by decide) ?_
  refine st_inv1 (ρ := Unit) (fun _ => vI (128 : Nat)) (fun _ => True) (fun _ => []) metsize64 cal174 rfl rfl (fun w hM => (size64_calls _ w).mono fun e w' ⟨h1, h2⟩ => ⟨(), h1, trivial, h2⟩) (by decide) (fun _ _ => ?_)
  refine st_v (rv_assign rfl) (by decide) ?_
  refine st_nil ?_
  refine st_then ?_
  refine st_ret ?_
  exact st_done rfl rfl (fun w hM => ⟨rfl, hM.sublist (List.nil_sublist _)⟩)
set_option maxRecDepth 20000 in
theorem BlockSize2 (w : World) (hL : LaidH w) : Calls Tryd.prog 35 #[vI (2 : Nat)] w (fun r w' => r = .returned (vI (hbs 2 : Nat)) ∧ Mem (All w) w w' []) := by
  refine calls_of_st (n := 12) (args := [vI (2 : Nat)]) Tryd.func35 rfl Tryd.ntmps35 (Nat.le_of_ble_eq_true rfl) (Mem.all w) ?_
  refine st_seq ?_
  refine st_region ?_
  refine st_v (rv_assign rfl) (by decide) ?_
  refine st_nil ?_
  refine st_then ?_
  refine st_seq ?_
  refine st_seq ?_
  refine st_region ?_
  refine st_v (rv_move rfl) (by decide) ?_
  refine st_call0 cal81 rfl (fun w hM => (known_ok (k := 2) (by decide) w)) (by decide) ?_
  refine st_v (rv_not rfl) (by decide) ?_
  refine st_nil ?_
  refine st_then ?_
  refine st_false rfl ?_
  refine st_skip ?_
  refine st_then ?_
  refine st_seq ?_
  refine st_region ?_
  refine st_v (rv_move rfl) (by decide) ?_
  refine st_call1 (ρ := HP) (fun r => pt r.hb 0) (fun _ => True) (fun r => [hashM 2 r.hb r.sb r.fp r.vb [], famM 2 r.fp r.kv]) cal82 rfl (fun w hM => ((begin2_calls w (hL.at hM))).mono fun e w' ⟨r, h1, h2⟩ => ⟨r, h1, trivial, h2⟩) (by decide) (fun r1 _ => ?_)
  refine St.mem ?_ (fun w hM => Mem.unpack (lm := hashL U64 160 165 117 F512 128 h512 2 r1.hb r1.sb r1.fp r1.vb []) (lf := [_]) hM)
  refine st_v (rv_nilCheck rfl) (by decide) ?_
  refine st_v (rv_fieldAddr Tryd.underlying117 (fs := _) rfl sz115 rfl rfl) (by decide) ?_
  refine st_v (rv_load_blk tyS115 rfl (i := 0) rfl rfl) (by decide) ?_
  refine st_inv1 (ρ := Unit) (fun _ => vI (128 : Nat)) (fun _ => True) (fun _ => []) metsize64 cal174 rfl rfl (fun w hM => (size64_calls _ w).mono fun e w' ⟨h1, h2⟩ => ⟨(), h1, trivial, h2⟩) (by decide) (fun _ _ => ?_)
  refine st_v (rv_assign rfl) (by decide) ?_
  refine st_nil ?_
  refine st_then ?_
  refine st_ret ?_
  exact st_done rfl rfl (fun w hM => ⟨rfl, hM.sublist (List.nil_sublist _)⟩)
theorem BlockSize_ok (k : Nat) (hk : k ≤ 2) (w : World) (hL : LaidH w) : Calls Tryd.prog 35 #[vI (k : Nat)] w (fun r w' => r = .returned (vI (hbs k : Nat)) ∧ Mem (All w) w w' []) := by
  match k, hk with
  | 0, _ => exact BlockSize0 w hL
  | 1, _ => exact BlockSize1 w hL
  | 2, _ => exact BlockSize2 w hL
set_option maxRecDepth 20000 in
theorem Sum_bad (z : Int) (hz : knownZ z = false) (v : Value) (w : World) : Calls Tryd.prog 32 #[vI z, v] w (fun r w' => r = .returned (.tuple #[nilS, vI 2]) ∧ Mem (All w) w w' []) := by
  refine calls_of_st (n := 13) (args := [vI z, v]) Tryd.func32 rfl Tryd.ntmps32 (Nat.le_of_ble_eq_true rfl) (Mem.all w) ?_
  refine st_seq ?_
  refine st_region ?_
  refine st_v (rv_assign rfl) (by decide) ?_
  refine st_v (rv_assign rfl) (by decide) ?_
  refine st_nil ?_
  refine st_then ?_
  refine st_seq ?_
  refine st_seq ?_
  refine st_region ?_
  refine st_v (rv_move rfl) (by decide) ?_
  refine st_call0 cal81 rfl (fun w hM => (known_bad hz w)) (by decide) ?_
  refine st_v (rv_not rfl) (by decide) ?_
  refine st_nil ?_
  refine st_then ?_
  refine st_true rfl ?_
  refine st_seq ?_
  refine st_region ?_
  refine st_v (rv_assign rfl) (by decide) ?_
  refine st_v (rv_assign rfl) (by decide) ?_
  refine st_nil ?_
  refine st_then ?_
  refine st_ret ?_
  refine st_then_ret ?_
  exact st_done2 rfl rfl rfl (fun w hM => ⟨rfl, hM.sublist (List.nil_sublist _)⟩)
set_option maxRecDepth 20000 in
theorem Sum_ok (k : Nat) (hk : k ≤ 2) (v : Value) (q : List (BitVec 8)) (hq : q.length ≤ 900000) (w : World) (hL : LaidH w) (hR : Rd w v q.length 1 (q.map U8)) : Calls Tryd.prog 32 #[vI (k : Nat), v] w (fun e w' => ∃ r, e = .returned (.tuple #[r, vI 0]) ∧ Mem (All w) w w' [own r 5 1 (hsize k) ((hsum k q).map U8)]) := by
  refine calls_of_st (n := 13) (args := [vI (k : Nat), v]) Tryd.func32 rfl Tryd.ntmps32 (Nat.le_of_ble_eq_true rfl) (Mem.all w) ?_
  refine st_seq ?_
  refine st_region ?_
  refine st_v (rv_assign rfl) (by decide) ?_
  refine st_v (rv_assign rfl) (by decide) ?_
  refine st_nil ?_
  refine st_then ?_
  refine st_seq ?_
  refine st_seq ?_
  refine st_region ?_
  refine st_v (rv_move rfl) (by decide) ?_
  refine st_call0 cal81 rfl (fun w hM => (known_ok hk w)) (by decide) ?_
  refine st_v (rv_not rfl) (by decide) ?_
  refine st_nil ?_
  refine st_then ?_
  refine st_false rfl ?_
  refine st_skip ?_
  refine st_then ?_
  refine st_seq ?_
  refine st_region ?_
  refine st_v (rv_move rfl) (by decide) ?_
  refine st_v (rv_move rfl) (by decide) ?_
  refine st_buildO1 Tryd.underlying166 tyZ22 rfl rfl (fun w hM => cells_rd ((rd_old hR hR.all) w hM)) (by decide) (fun v1 => ?_)
  refine st_callV cal83 rfl (fun w hM => (of1_calls k hk _ v q hq w (hL.at hM) ((rd_own (i := 0) rfl) w hM) (rd_old hR hR.all w hM))) (by decide) (fun v2 => ?_)
  refine st_v (rv_assign rfl) (by decide) ?_
  refine st_v (rv_assign rfl) (by decide) ?_
  refine st_nil ?_
  refine st_then ?_
  refine st_ret ?_
  exact st_done2 rfl rfl rfl (fun w hM => ⟨_, rfl, hM.sublist (List.cons_sublist_cons.2 (List.nil_sublist _))⟩)
end Go.Proofs.YtjhjjhpfjadjpaaDoor
