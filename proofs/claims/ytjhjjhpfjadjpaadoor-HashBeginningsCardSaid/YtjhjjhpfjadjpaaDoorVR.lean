/- Helpers: arrays of words, held against one another. -/
import Derived.Test.YtjhjjhpfjadjpaaDoorVQ
namespace Go.Proofs.YtjhjjhpfjadjpaaDoor
set_option linter.all false
open Go
section
variable {P : Program}
theorem run_partI {e : TypeId} {w : World} {k : IntKind} {zs : List Int} {i : Nat} (he : P.underlying e = some (.int k)) (hi : i < zs.length) :
    (part e (zs.map (Value.int k)).toArray (i * 1)).run P w = .ok (.int k (zs.getD i 0)) w := by
  have h1 : (zs.map (Value.int k)).toArray[i]? = some (.int k (zs.getD i 0)) := by simp [hi]
  simp [part, isAgg, run_underlying he, h1]
theorem run_eqI {e : TypeId} {w : World} {d : Nat} {k : IntKind} {x y : Int} (he : P.underlying e = some (.int k)) : (Op.equalIn (d + 1) e (.int k x) (.int k y)).run P w = .ok (x == y) w := by
  simp [Op.equalIn, run_underlying he]
theorem run_eqLoop {e : TypeId} {w : World} {d : Nat} {k : IntKind} {zs ys : List Int} (he : P.underlying e = some (.int k)) (hl : ys.length = zs.length) : ∀ m j, j + m = zs.length →
    Sem.run P (forIn (List.range' j m) ((none, ()) : Option Bool × Unit) fun i __s => do
      let a ← part e (zs.map (Value.int k)).toArray (i * 1)
      let b ← part e (ys.map (Value.int k)).toArray (i * 1)
      let c ← Op.equalIn (d + 1) e a b
      if (!c) = true then pure (ForInStep.done (some false, ())) else pure (ForInStep.yield (none, ()))) w = .ok (if zs.drop j = ys.drop j then (none, ()) else (some false, ())) w
  | 0, j, h => by
    rw [List.drop_of_length_le (by omega), List.drop_of_length_le (by omega)]
    simp
  | m + 1, j, h => by
    have hz : zs.drop j = zs.getD j 0 :: zs.drop (j + 1) := by
      rw [List.drop_eq_getElem_cons (by omega)]; simp [show j < zs.length by omega]
    have hy : ys.drop j = ys.getD j 0 :: ys.drop (j + 1) := by
      rw [List.drop_eq_getElem_cons (by omega)]; simp [show j < ys.length by omega]
    rw [List.range'_succ, List.forIn_cons]
    simp only [Sem.run_bind, run_partI he (show j < zs.length by omega), run_partI he (show j < ys.length by omega), Result.andThen_ok, run_eqI he]
    rw [hz, hy]
    by_cases hxy : zs.getD j 0 = ys.getD j 0
    · have e1 : (zs.getD j 0 == ys.getD j 0) = true := by simpa using hxy
      simp only [e1, Bool.not_true, Bool.false_eq_true, if_false, Sem.run_pure, Result.andThen_ok]
      have ih := run_eqLoop (w := w) (d := d) he hl m (j + 1) (by omega)
      rw [ih, hxy]
      simp
    · have e1 : (zs.getD j 0 == ys.getD j 0) = false := by simpa using hxy
      simp only [e1, Bool.not_false, if_true, Sem.run_pure, Result.andThen_ok]
      rw [if_neg (fun e => hxy (List.cons.inj e).1)]
theorem run_eqArr {t e len : Nat} {w : World} {d : Nat} {k : IntKind} {zs ys : List Int} (ht : P.underlying t = some (.array len e)) (he : P.underlying e = some (.int k)) (hs : Sz P e 1) (hz : zs.length = len) (hy : ys.length = len) :
    (Op.equalIn (d + 2) t (.agg (zs.map (Value.int k)).toArray) (.agg (ys.map (Value.int k)).toArray)).run P w = .ok (decide (zs = ys)) w := by
  obtain ⟨i, hi, hs⟩ := hs
  unfold Op.equalIn
  simp only [Sem.run_bind, run_underlying ht, Result.andThen_ok, run_sizeOf hi, hs]
  have h := run_eqLoop (P := P) (w := w) (d := d) (zs := zs) (ys := ys) he (by omega) len 0 (by omega)
  rw [Std.Legacy.Range.forIn_eq_forIn_range']
  have e0 : Std.Legacy.Range.size [:len] = len := by simp [Std.Legacy.Range.size]
  rw [e0]
  rw [h]
  simp only [Result.andThen_ok, List.drop_zero]
  by_cases hzy : zs = ys
  · simp [hzy]
  · rw [if_neg hzy]; simp [hzy]
theorem map_toNat_inj {n : Nat} {a b : List (BitVec n)} : (a.map fun x => (x.toNat : Int)) = (b.map fun x => (x.toNat : Int)) ↔ a = b := by
  constructor
  · intro h
    refine List.map_inj_right (fun x y hxy => ?_) |>.1 h
    exact BitVec.eq_of_toNat_eq (Int.ofNat.inj hxy)
  · intro h; rw [h]
variable {n : Nat} {S : Nat → Prop} {w0 : World} {E : Env} {l : List Asn} {dst : Option Tmp} {ty xt yt : TypeId} {pos : String} {af : Array Edge} {g : Option (Nat × Bool)} {x y : Operand} {e len : Nat}
theorem run_eqV {wd : Nat} {k : IntKind} {a b : List (BitVec wd)} {w : World} (ht : P.underlying xt = some (.array len e)) (he : P.underlying e = some (.int k)) (hs : Sz P e 1) (ha : a.length = len) (hb : b.length = len) :
    (Op.equal xt (.agg (a.map fun x => Value.int k (x.toNat : Int)).toArray) (.agg (b.map fun x => Value.int k (x.toNat : Int)).toArray)).run P w = .ok (decide (a = b)) w := by
  have h := run_eqArr (P := P) (w := w) (d := 9998) (k := k) (zs := a.map fun x => (x.toNat : Int)) (ys := b.map fun x => (x.toNat : Int)) ht he hs (by simpa using ha) (by simpa using hb)
  rw [List.map_map, List.map_map] at h
  have e : decide ((a.map fun x => (x.toNat : Int)) = (b.map fun x => (x.toNat : Int))) = decide (a = b) := by
    rw [Bool.eq_iff_iff]; simp only [decide_eq_true_eq]; exact map_toNat_inj
  rw [e] at h
  exact h
theorem rv_eqlV {op : BinOp} {wd : Nat} {k : IntKind} {a b : List (BitVec wd)} (hop : op = .eql ∨ op = .neq) (ht : P.underlying xt = some (.array len e)) (he : P.underlying e = some (.int k)) (hs : Sz P e 1) (ha : a.length = len) (hb : b.length = len)
    (hg : P.eqGuardType P.depth xt = false) (hx : Env.ev E x = some (.agg (a.map fun x => Value.int k (x.toNat : Int)).toArray)) (hy : Env.ev E y = some (.agg (b.map fun x => Value.int k (x.toNat : Int)).toArray)) :
    RunsV P n S w0 ⟨dst, .binOp op xt x y yt, ty, pos, af, g⟩ E l (.bool (if op = .eql then decide (a = b) else !decide (a = b))) := fun t w hA _ => by
  have h := run_eqV (P := P) (w := w) (k := k) ht he hs ha hb
  have e0 : (eqGuard op xt x y (.agg (a.map fun x => Value.int k (x.toNat : Int)).toArray) (.agg (b.map fun x => Value.int k (x.toNat : Int)).toArray)).run P w = .ok () w := by
    rcases hop with rfl | rfl <;> simp [eqGuard, hg]
  rcases hop with rfl | rfl
  · simp only [execOp, hA.ev hx, hA.ev hy, binOp, Sem.run_bind, e0, Result.andThen_ok, h, Sem.run_pure, if_true]
  · simp only [execOp, hA.ev hx, hA.ev hy, binOp, Sem.run_bind, e0, Result.andThen_ok, h, Sem.run_pure]
    simp
end
section
variable {P : Program} {n : Nat} {S : Nat → Prop} {w0 : World} {E : Env} {l : List Asn} {dst : Option Tmp} {ty xt yt : TypeId} {pos : String} {af : Array Edge} {g : Option (Nat × Bool)} {x y : Operand} {e len : Nat}
theorem rv_eqlA8 {a b : List (BitVec 8)} (ht : P.underlying xt = some (.array len e)) (he : P.underlying e = some (.int .u8)) (hs : Sz P e 1) (ha : a.length = len) (hb : b.length = len) (hg : P.eqGuardType P.depth xt = false) (hx : Env.ev E x = some (.agg (c8 a))) (hy : Env.ev E y = some (.agg (c8 b))) :
    RunsV P n S w0 ⟨dst, .binOp .eql xt x y yt, ty, pos, af, g⟩ E l (.bool (decide (a = b))) := rv_eqlV (.inl rfl) ht he hs ha hb hg hx hy
theorem rv_neqA8 {a b : List (BitVec 8)} (ht : P.underlying xt = some (.array len e)) (he : P.underlying e = some (.int .u8)) (hs : Sz P e 1) (ha : a.length = len) (hb : b.length = len) (hg : P.eqGuardType P.depth xt = false) (hx : Env.ev E x = some (.agg (c8 a))) (hy : Env.ev E y = some (.agg (c8 b))) :
    RunsV P n S w0 ⟨dst, .binOp .neq xt x y yt, ty, pos, af, g⟩ E l (.bool (!decide (a = b))) := rv_eqlV (.inr rfl) ht he hs ha hb hg hx hy
theorem rv_eqlA64 {a b : List (BitVec 64)} (ht : P.underlying xt = some (.array len e)) (he : P.underlying e = some (.int .u64)) (hs : Sz P e 1) (ha : a.length = len) (hb : b.length = len) (hg : P.eqGuardType P.depth xt = false) (hx : Env.ev E x = some (.agg (c64 a))) (hy : Env.ev E y = some (.agg (c64 b))) :
    RunsV P n S w0 ⟨dst, .binOp .eql xt x y yt, ty, pos, af, g⟩ E l (.bool (decide (a = b))) := rv_eqlV (.inl rfl) ht he hs ha hb hg hx hy
theorem rv_neqA64 {a b : List (BitVec 64)} (ht : P.underlying xt = some (.array len e)) (he : P.underlying e = some (.int .u64)) (hs : Sz P e 1) (ha : a.length = len) (hb : b.length = len) (hg : P.eqGuardType P.depth xt = false) (hx : Env.ev E x = some (.agg (c64 a))) (hy : Env.ev E y = some (.agg (c64 b))) :
    RunsV P n S w0 ⟨dst, .binOp .neq xt x y yt, ty, pos, af, g⟩ E l (.bool (!decide (a = b))) := rv_eqlV (.inr rfl) ht he hs ha hb hg hx hy
end
theorem rv_negZ {P : Program} {n : Nat} {S : Nat → Prop} {w0 : World} {E : Env} {l : List Asn} {dst : Option Tmp} {ty xt : TypeId} {pos : String} {af : Array Edge} {g : Option (Nat × Bool)} {x : Operand} {a : Int} (hx : Env.ev E x = some (vI a)) (h : -9223372036854775808 ≤ -a ∧ -a ≤ 9223372036854775807) :
    RunsV P n S w0 ⟨dst, .unOp .neg xt x, ty, pos, af, g⟩ E l (vI (-a)) := fun t w hA _ => by
  have e : IntKind.i64.wrap (0 - a) = -a := by rw [Int.zero_sub]; exact wrap_i64 h.1 h.2
  simp only [execOp, hA.ev hx, Op.unary, Op.intArith, e]
  rfl
theorem st_buildO0 {P : Program} {n : Nat} {S : Nat → Prop} {w0 : World} {E : Env} {l : List Asn} {Q : Exit → Act → World → Prop} {ops : Array Oper} {rest : List Oper} {ty t e : TypeId} {z : Value} {bytes d : Nat} {pos : String} {af : Array Edge} (ht : P.underlying t = some (.slice e)) (hz : TyZ P e z 1 bytes) (hzc : z.cells = #[z]) (hd : d < n)
    (h : ∀ v, St n S w0 (wpList P ops Q rest) ((d, v) :: E) (own v e 1 0 (([] : List (BitVec 8)).map U8) :: l)) : St n S w0 (wpList P ops Q (⟨some d, .buildSlice t 0 #[], ty, pos, af, none⟩ :: rest)) E l :=
  st_buildO (ps := []) (vs := []) (cs := #[]) ht hz hzc rfl (by decide) rfl rfl hd h
theorem sub_cells {w : World} {v : Value} {n size : Nat} {xs : List Value} (h : Rd w v n size xs) : ∀ lo hi sz, (vsub v lo hi sz).cells = #[vsub v lo hi sz] ∧ (vsub v lo hi sz).oneCell' = true := fun lo hi sz => by
  rcases h.shape with ⟨h1, _⟩ | h1 <;> rw [h1] <;> exact ⟨rfl, rfl⟩
theorem Rd.n_eq {w : World} {v : Value} {n m size : Nat} {xs : List Value} (h : Rd w v n size xs) (e : n = m) : Rd w v m size xs := e ▸ h
/-- make([]byte, 0, cap) -/
theorem st_makeO0 {P : Program} {n : Nat} {S : Nat → Prop} {w0 : World} {E : Env} {l : List Asn} {Q : Exit → Act → World → Prop} {ops : Array Oper} {rest : List Oper} {ty : TypeId} {pos : String} {af : Array Edge} {d : Nat} {t e : TypeId} {x y : Operand} {bytes cap : Nat}
    (ht : P.underlying t = some (.slice e)) (hz : TyZ P e (.int .u8 0) 1 bytes) (hx : Env.ev E x = some (vI (0 : Nat))) (hy : Env.ev E y = some (vI cap))
    (hb : cap * bytes ≤ 281474976710656) (hc : cap ≤ 9223372036854775807) (hd : d < n)
    (h : ∀ v', St n S w0 (wpList P ops Q rest) ((d, v') :: E) (own v' e 1 0 (([] : List (BitVec 8)).map U8) :: l)) :
    St n S w0 (wpList P ops Q (⟨some d, .makeSlice t x y, ty, pos, af, none⟩ :: rest)) E l :=
  st_make8 ht hz hx hy (Nat.zero_le _) hb hc hd fun b _ => (h _).mem fun w hM => by
    have := hM.toOwn (i := 0) (off := 0) (n := 0) (cap := cap) (size := 1) (xs := ([] : List (BitVec 8)).map U8) rfl (by simp) (Nat.zero_le _) (by simp) (fun j u hj => by simp at hj)
    exact this
end Go.Proofs.YtjhjjhpfjadjpaaDoor
