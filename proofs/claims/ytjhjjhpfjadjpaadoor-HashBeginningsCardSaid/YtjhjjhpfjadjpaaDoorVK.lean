/- Helpers: the rules at lists of words. -/
import Derived.Test.YtjhjjhpfjadjpaaDoorVJ
namespace Go.Proofs.YtjhjjhpfjadjpaaDoor
set_option linter.all false
open Go
section
variable {P : Program} {n : Nat} {S : Nat → Prop} {w0 : World} {E E' : Env} {l l' : List Asn} {Q : Exit → Act → World → Prop} {K : Act → World → Prop} {ops : Array Oper} {rest : List Oper} {o : Oper}
  {dst : Option Tmp} {ty : TypeId} {pos : String} {af : Array Edge} {g : Option (Nat × Bool)} {v u : Value} {d : Nat} {op : Op} {x y : Operand} {t t2 T e : TypeId} {i b off k size bytes : Nat} {cs cs' : Array Value}
  {nn m cap : Nat} {xs news : List Value} {z : Value}
theorem rv_buildStruct_of {fs : Array Field} {ps : List (Nat × Operand)} {vs : List (Nat × Value)} {places : List (Nat × Nat)} (ht : P.underlying t = some (.struct fs)) (hz : TyZ P t z size bytes)
    (hpl : fs.toList.map (fun f => (P.info? f.type).map fun j => (f.offset, j.size)) = places.map some) (hp : evP E ps = some vs) (hf : fillL (fun k => places[k]?) z.cells vs = some cs) :
    RunsV P n S w0 ⟨dst, .build t ps.toArray, ty, pos, af, g⟩ E l (.agg cs) := by
  obtain ⟨i, hi, hz, _⟩ := hz
  exact rv_buildStruct ht hi hz hpl hp hf
theorem rv_buildArray_of {len : Nat} {ps : List (Nat × Operand)} {vs : List (Nat × Value)} {k2 b2 : Nat} (ht : P.underlying t = some (.array len e)) (hz : TyZ P t z k2 b2) (hj : Sz P e size)
    (hp : evP E ps = some vs) (hf : fillL (fun k => some (k * size, size)) z.cells vs = some cs) : RunsV P n S w0 ⟨dst, .build t ps.toArray, ty, pos, af, g⟩ E l (.agg cs) := by
  obtain ⟨i, hi, hz, _⟩ := hz
  obtain ⟨j, hj, hs⟩ := hj
  exact rv_buildArray ht hi hz hj hs hp hf
theorem st_ownNil (T size : Nat) (h : St n S w0 K E (own nilS T size 0 [] :: l)) : St n S w0 K E l := h.mem fun w hM => hM.ownNil T size
/-- the one result is a whole struct or array in memory -/
theorem st_doneC {fn : Func} {R : Ending → World → Prop} {r : Tmp} (ht : TyA P t k) (hr : fn.results = #[.cell r t]) (hv : Env.get E r = some (pt b 0)) (hl : l[i]? = some (blk b cs T)) (hk : cs.size = k)
    (h : ∀ w, Mem S w0 w l → R (.returned (.agg cs)) w) : St n S w0 (bodyPost P fn R .ret) E l := fun tt w hA hM => by
  obtain ⟨fr, hb, _⟩ := hM.blkAt hl
  have h1 := hA.get r _ hv
  refine bodyPost_ret (v := .agg cs) ?_ rfl (h w hM)
  have h2 := run_loadA (P := P) (w := w) (off := 0) ht hb (by omega)
  have h3 : cs.extract 0 (0 + k) = cs := by subst hk; simp
  rw [h3] at h2
  simp [results, hr, h1, asAddr, h2]
/-- a call that hands back a slice, or another value, of its own -/
theorem st_callV {f : FuncId} {as : List Operand} {vs : List Value} {ats : Array TypeId} {G : Value → Asn} (hf : Callable P f) (hv : evs E as = some vs)
    (C : ∀ w, Mem S w0 w l → Calls P f vs.toArray w fun e w' => ∃ v, e = .returned v ∧ Mem (All w) w w' [G v]) (hd : d < n)
    (h : ∀ v, St n S w0 (wpList P ops Q rest) ((d, v) :: E) (G v :: l)) :
    St n S w0 (wpList P ops Q (⟨some d, .call { callee := .value (.func f), args := as.toArray, argTypes := ats }, ty, pos, af, none⟩ :: rest)) E l :=
  st_call1 (ρ := Value) id (fun _ => True) (fun v => [G v]) hf hv (fun w hM => (C w hM).mono fun e w' ⟨v, h1, h2⟩ => ⟨v, h1, trivial, h2⟩) hd fun r _ => h r
theorem st_storeOwnV {vs : Value → Value} (hx : Env.ev E x = some (pt (vblk u) (voff u + k))) (hy : Env.ev E y = some v) (hl : l[i]? = some (own u T 1 nn xs)) (hi : Sz P t 1) (hk : k < xs.length) (h1 : v.oneCell' = true) (hv : v.cells = #[v])
    (hl' : l.set i (own u T 1 nn (xs.set k v)) = l') (h : St n S w0 (wpList P ops Q rest) E l') :
    St n S w0 (wpList P ops Q (⟨none, .store t x y, ty, pos, af, none⟩ :: rest)) E l := fun tt w hA hM => by
  subst hl'
  have ho := hM.holds _ (List.mem_of_getElem? hl)
  obtain ⟨hlen, hor⟩ := ho
  rcases hor with ⟨_, h0⟩ | ⟨cs, fr, hu, hcap, hfit, hblk, hfz, hcell⟩
  · rw [h0] at hlen; omega
  · have hkc : voff u + k < cs.size := by omega
    obtain ⟨w', hr, U⟩ := run_storeA (P := P) (w := w) (ty := t) (off := voff u + k) (vs := [v]) (v := v) hi hv hblk hfz (by simp; omega) (one1 h1)
    refine wpList_runU rfl (by simp [execOp, hA.ev hx, hA.ev hy, Instr.storeAt, Instr.sureAddr, hr]) (h tt w' hA ?_)
    refine hM.replace hl U.os U.tape U.output (by rw [U.size]; exact Nat.le_refl _) (fun b _ hb => U.old b (fun e => hb (by rw [hu, e]; rfl))) ⟨by simpa using hlen, .inr ?_⟩ (fun b hb => .inl hb)
    obtain ⟨fr', h2, h3⟩ := U.new
    refine ⟨_, fr', hu, hcap, by rw [size_spl]; exact hfit, h2, h3, fun j uu hj => ?_⟩
    rw [get_spl]
    by_cases hjk : j = k
    · subst hjk
      rw [if_pos (by simp; omega)]
      rw [List.getElem?_set_self hk] at hj
      simpa using hj
    · rw [if_neg (by simp; omega)]
      rw [List.getElem?_set_ne (Ne.symm hjk)] at hj
      exact hcell j uu hj

theorem all1 {l : List Value} (h : (l.all fun u => u.oneCell') = true) : ∀ u ∈ l, u.oneCell' = true := fun u hu => List.all_eq_true.1 h u hu

section W8
variable {a : BitVec 8} {q r : List (BitVec 8)}
theorem st_store8 (hx : Env.ev E x = some (pt b off)) (hy : Env.ev E y = some (U8 a)) (hl : l[i]? = some (blk b (c8 q) T)) (hi : Sz P t 1) (hk : off < q.length) (hl' : l.set i (blk b (c8 (q.set off a)) T) = l') (h : St n S w0 (wpList P ops Q rest) E l') :
    St n S w0 (wpList P ops Q (⟨none, .store t x y, ty, pos, af, none⟩ :: rest)) E l :=
  st_store (vs := [U8 a]) hx hy hl hi rfl (by simp; omega) (one1 rfl) (set8 q off a) hl' h
theorem st_storeA8 (hx : Env.ev E x = some (pt b off)) (hy : Env.ev E y = some (.agg (c8 r))) (hl : l[i]? = some (blk b (c8 q) T)) (hi : Sz P t k) (hk : r.length = k) (hkq : off + k ≤ q.length) (hl' : l.set i (blk b (c8 (over q off r)) T) = l') (h : St n S w0 (wpList P ops Q rest) E l') :
    St n S w0 (wpList P ops Q (⟨none, .store t x y, ty, pos, af, none⟩ :: rest)) E l :=
  st_store (vs := r.map U8) hx hy hl (by rw [List.length_map, hk]; exact hi) rfl (by simp; omega) (one8 r) (spl8 (by omega)) hl' h
theorem st_storeW8 (hx : Env.ev E x = some (pt b 0)) (hy : Env.ev E y = some (.agg (c8 r))) (hl : l[i]? = some (blk b (c8 q) T)) (hi : Sz P t k) (hk : r.length = k) (hkq : q.length = k) (hl' : l.set i (blk b (c8 r) T) = l') (h : St n S w0 (wpList P ops Q rest) E l') :
    St n S w0 (wpList P ops Q (⟨none, .store t x y, ty, pos, af, none⟩ :: rest)) E l :=
  st_storeA8 hx hy hl hi hk (by omega) (by rw [over_all (by omega)]; exact hl') h
theorem st_storeOwn8 (hx : Env.ev E x = some (pt (vblk u) (voff u + k))) (hy : Env.ev E y = some (U8 a)) (hl : l[i]? = some (own u T 1 nn (q.map U8))) (hi : Sz P t 1) (hk : k < q.length) (hl' : l.set i (own u T 1 nn ((q.set k a).map U8)) = l') (h : St n S w0 (wpList P ops Q rest) E l') :
    St n S w0 (wpList P ops Q (⟨none, .store t x y, ty, pos, af, none⟩ :: rest)) E l :=
  st_storeOwnV (vs := id) hx hy hl hi (by simpa using hk) rfl rfl (by rw [List.map_set] at hl'; exact hl') h
theorem st_copy8 {dstT srcT : TypeId} {dl dc : Nat} (ht : P.underlying dstT = some (.slice e)) (hi : Sz P e 1) (hx : Env.ev E x = some (sl b off dl dc)) (hy : Env.ev E y = some u)
    (hl : l[i]? = some (blk b (c8 q) T)) (hk : off + dl ≤ q.length) (hsrc : ∀ w, Mem S w0 w l → Src P w 1 m u (r.map U8)) (hl' : l.set i (blk b (c8 (over q off (r.take (min m dl)))) T) = l') (hd : d < n)
    (h : St n S w0 (wpList P ops Q rest) ((d, vI (min m dl : Nat)) :: E) l') :
    St n S w0 (wpList P ops Q (⟨some d, .call { callee := .builtin .copy, args := #[x, y], argTypes := #[dstT, srcT] }, ty, pos, af, none⟩ :: rest)) E l :=
  st_copy ht hi hx hy hl (by simpa using hk) hsrc (by rw [← List.map_take]; exact spl8 (by rw [List.length_take]; omega)) hl' hd h
theorem st_make8 {len cap : Nat} (ht : P.underlying t = some (.slice e)) (hz : TyZ P e (.int .u8 0) 1 bytes) (hx : Env.ev E x = some (vI len)) (hy : Env.ev E y = some (vI cap)) (hlc : len ≤ cap)
    (hb : cap * bytes ≤ 281474976710656) (hc : cap ≤ 9223372036854775807) (hd : d < n)
    (h : ∀ b, w0.heap.size ≤ b → St n S w0 (wpList P ops Q rest) ((d, sl b 0 len cap) :: E) (blk b (c8 (List.replicate cap 0#8)) e :: l)) :
    St n S w0 (wpList P ops Q (⟨some d, .makeSlice t x y, ty, pos, af, none⟩ :: rest)) E l :=
  st_make ht hz rfl hx hy hlc hb hc hd fun b hb => by
    have := h b hb
    have e1 : c8 (List.replicate cap 0#8) = (List.replicate cap (Value.int .u8 0)).toArray := by
      simp [c8]
    rwa [e1] at this
end W8

section W32
variable {a : BitVec 32} {q r : List (BitVec 32)}
theorem st_store32 (hx : Env.ev E x = some (pt b off)) (hy : Env.ev E y = some (U32 a)) (hl : l[i]? = some (blk b (c32 q) T)) (hi : Sz P t 1) (hk : off < q.length) (hl' : l.set i (blk b (c32 (q.set off a)) T) = l') (h : St n S w0 (wpList P ops Q rest) E l') :
    St n S w0 (wpList P ops Q (⟨none, .store t x y, ty, pos, af, none⟩ :: rest)) E l :=
  st_store (vs := [U32 a]) hx hy hl hi rfl (by simp; omega) (one1 rfl) (set32 q off a) hl' h
theorem st_storeA32 (hx : Env.ev E x = some (pt b off)) (hy : Env.ev E y = some (.agg (c32 r))) (hl : l[i]? = some (blk b (c32 q) T)) (hi : Sz P t k) (hk : r.length = k) (hkq : off + k ≤ q.length) (hl' : l.set i (blk b (c32 (over q off r)) T) = l') (h : St n S w0 (wpList P ops Q rest) E l') :
    St n S w0 (wpList P ops Q (⟨none, .store t x y, ty, pos, af, none⟩ :: rest)) E l :=
  st_store (vs := r.map U32) hx hy hl (by rw [List.length_map, hk]; exact hi) rfl (by simp; omega) (one32 r) (spl32 (by omega)) hl' h
theorem st_storeW32 (hx : Env.ev E x = some (pt b 0)) (hy : Env.ev E y = some (.agg (c32 r))) (hl : l[i]? = some (blk b (c32 q) T)) (hi : Sz P t k) (hk : r.length = k) (hkq : q.length = k) (hl' : l.set i (blk b (c32 r) T) = l') (h : St n S w0 (wpList P ops Q rest) E l') :
    St n S w0 (wpList P ops Q (⟨none, .store t x y, ty, pos, af, none⟩ :: rest)) E l :=
  st_storeA32 hx hy hl hi hk (by omega) (by rw [over_all (by omega)]; exact hl') h
theorem st_storeOwn32 (hx : Env.ev E x = some (pt (vblk u) (voff u + k))) (hy : Env.ev E y = some (U32 a)) (hl : l[i]? = some (own u T 1 nn (q.map U32))) (hi : Sz P t 1) (hk : k < q.length) (hl' : l.set i (own u T 1 nn ((q.set k a).map U32)) = l') (h : St n S w0 (wpList P ops Q rest) E l') :
    St n S w0 (wpList P ops Q (⟨none, .store t x y, ty, pos, af, none⟩ :: rest)) E l :=
  st_storeOwnV (vs := id) hx hy hl hi (by simpa using hk) rfl rfl (by rw [List.map_set] at hl'; exact hl') h
theorem st_copy32 {dstT srcT : TypeId} {dl dc : Nat} (ht : P.underlying dstT = some (.slice e)) (hi : Sz P e 1) (hx : Env.ev E x = some (sl b off dl dc)) (hy : Env.ev E y = some u)
    (hl : l[i]? = some (blk b (c32 q) T)) (hk : off + dl ≤ q.length) (hsrc : ∀ w, Mem S w0 w l → Src P w 1 m u (r.map U32)) (hl' : l.set i (blk b (c32 (over q off (r.take (min m dl)))) T) = l') (hd : d < n)
    (h : St n S w0 (wpList P ops Q rest) ((d, vI (min m dl : Nat)) :: E) l') :
    St n S w0 (wpList P ops Q (⟨some d, .call { callee := .builtin .copy, args := #[x, y], argTypes := #[dstT, srcT] }, ty, pos, af, none⟩ :: rest)) E l :=
  st_copy ht hi hx hy hl (by simpa using hk) hsrc (by rw [← List.map_take]; exact spl32 (by rw [List.length_take]; omega)) hl' hd h
theorem st_make32 {len cap : Nat} (ht : P.underlying t = some (.slice e)) (hz : TyZ P e (.int .u32 0) 1 bytes) (hx : Env.ev E x = some (vI len)) (hy : Env.ev E y = some (vI cap)) (hlc : len ≤ cap)
    (hb : cap * bytes ≤ 281474976710656) (hc : cap ≤ 9223372036854775807) (hd : d < n)
    (h : ∀ b, w0.heap.size ≤ b → St n S w0 (wpList P ops Q rest) ((d, sl b 0 len cap) :: E) (blk b (c32 (List.replicate cap 0#32)) e :: l)) :
    St n S w0 (wpList P ops Q (⟨some d, .makeSlice t x y, ty, pos, af, none⟩ :: rest)) E l :=
  st_make ht hz rfl hx hy hlc hb hc hd fun b hb => by
    have := h b hb
    have e1 : c32 (List.replicate cap 0#32) = (List.replicate cap (Value.int .u32 0)).toArray := by
      simp [c32]
    rwa [e1] at this
end W32

section W64
variable {a : BitVec 64} {q r : List (BitVec 64)}
theorem st_store64 (hx : Env.ev E x = some (pt b off)) (hy : Env.ev E y = some (U64 a)) (hl : l[i]? = some (blk b (c64 q) T)) (hi : Sz P t 1) (hk : off < q.length) (hl' : l.set i (blk b (c64 (q.set off a)) T) = l') (h : St n S w0 (wpList P ops Q rest) E l') :
    St n S w0 (wpList P ops Q (⟨none, .store t x y, ty, pos, af, none⟩ :: rest)) E l :=
  st_store (vs := [U64 a]) hx hy hl hi rfl (by simp; omega) (one1 rfl) (set64 q off a) hl' h
theorem st_storeA64 (hx : Env.ev E x = some (pt b off)) (hy : Env.ev E y = some (.agg (c64 r))) (hl : l[i]? = some (blk b (c64 q) T)) (hi : Sz P t k) (hk : r.length = k) (hkq : off + k ≤ q.length) (hl' : l.set i (blk b (c64 (over q off r)) T) = l') (h : St n S w0 (wpList P ops Q rest) E l') :
    St n S w0 (wpList P ops Q (⟨none, .store t x y, ty, pos, af, none⟩ :: rest)) E l :=
  st_store (vs := r.map U64) hx hy hl (by rw [List.length_map, hk]; exact hi) rfl (by simp; omega) (one64 r) (spl64 (by omega)) hl' h
theorem st_storeW64 (hx : Env.ev E x = some (pt b 0)) (hy : Env.ev E y = some (.agg (c64 r))) (hl : l[i]? = some (blk b (c64 q) T)) (hi : Sz P t k) (hk : r.length = k) (hkq : q.length = k) (hl' : l.set i (blk b (c64 r) T) = l') (h : St n S w0 (wpList P ops Q rest) E l') :
    St n S w0 (wpList P ops Q (⟨none, .store t x y, ty, pos, af, none⟩ :: rest)) E l :=
  st_storeA64 hx hy hl hi hk (by omega) (by rw [over_all (by omega)]; exact hl') h
theorem st_storeOwn64 (hx : Env.ev E x = some (pt (vblk u) (voff u + k))) (hy : Env.ev E y = some (U64 a)) (hl : l[i]? = some (own u T 1 nn (q.map U64))) (hi : Sz P t 1) (hk : k < q.length) (hl' : l.set i (own u T 1 nn ((q.set k a).map U64)) = l') (h : St n S w0 (wpList P ops Q rest) E l') :
    St n S w0 (wpList P ops Q (⟨none, .store t x y, ty, pos, af, none⟩ :: rest)) E l :=
  st_storeOwnV (vs := id) hx hy hl hi (by simpa using hk) rfl rfl (by rw [List.map_set] at hl'; exact hl') h
theorem st_copy64 {dstT srcT : TypeId} {dl dc : Nat} (ht : P.underlying dstT = some (.slice e)) (hi : Sz P e 1) (hx : Env.ev E x = some (sl b off dl dc)) (hy : Env.ev E y = some u)
    (hl : l[i]? = some (blk b (c64 q) T)) (hk : off + dl ≤ q.length) (hsrc : ∀ w, Mem S w0 w l → Src P w 1 m u (r.map U64)) (hl' : l.set i (blk b (c64 (over q off (r.take (min m dl)))) T) = l') (hd : d < n)
    (h : St n S w0 (wpList P ops Q rest) ((d, vI (min m dl : Nat)) :: E) l') :
    St n S w0 (wpList P ops Q (⟨some d, .call { callee := .builtin .copy, args := #[x, y], argTypes := #[dstT, srcT] }, ty, pos, af, none⟩ :: rest)) E l :=
  st_copy ht hi hx hy hl (by simpa using hk) hsrc (by rw [← List.map_take]; exact spl64 (by rw [List.length_take]; omega)) hl' hd h
theorem st_make64 {len cap : Nat} (ht : P.underlying t = some (.slice e)) (hz : TyZ P e (.int .u64 0) 1 bytes) (hx : Env.ev E x = some (vI len)) (hy : Env.ev E y = some (vI cap)) (hlc : len ≤ cap)
    (hb : cap * bytes ≤ 281474976710656) (hc : cap ≤ 9223372036854775807) (hd : d < n)
    (h : ∀ b, w0.heap.size ≤ b → St n S w0 (wpList P ops Q rest) ((d, sl b 0 len cap) :: E) (blk b (c64 (List.replicate cap 0#64)) e :: l)) :
    St n S w0 (wpList P ops Q (⟨some d, .makeSlice t x y, ty, pos, af, none⟩ :: rest)) E l :=
  st_make ht hz rfl hx hy hlc hb hc hd fun b hb => by
    have := h b hb
    have e1 : c64 (List.replicate cap 0#64) = (List.replicate cap (Value.int .u64 0)).toArray := by
      simp [c64]
    rwa [e1] at this
end W64
end
end Go.Proofs.YtjhjjhpfjadjpaaDoor
