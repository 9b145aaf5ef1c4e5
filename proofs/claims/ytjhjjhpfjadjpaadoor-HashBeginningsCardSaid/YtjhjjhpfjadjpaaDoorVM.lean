/- Helpers, more: whole arrays as values and in slices, tables, calls that write through a pointer. -/
import Derived.Test.YtjhjjhpfjadjpaaDoorVL
import Derived.Laws.Cover3
import Derived.Laws.StructEq
namespace Go.Proofs.YtjhjjhpfjadjpaaDoor
set_option linter.all false
open Go
section
variable {P : Program} {n : Nat} {S : Nat → Prop} {w0 : World} {E : Env} {l l' : List Asn} {Q : Exit → Act → World → Prop} {ops : Array Oper} {rest : List Oper}
  {dst : Option Tmp} {ty : TypeId} {pos : String} {af : Array Edge} {g : Option (Nat × Bool)} {v u : Value} {d : Nat} {x y : Operand} {t e T xt yt : TypeId} {b off i k nn size : Nat} {xs : List Value} {cs cs' : Array Value}
/-- a cell of which nothing but what it holds is known -/
theorem rv_load_cell (ht : TyS P t) (hx : Env.ev E x = some (pt b off)) (hc : w0.cell? ⟨b, off, none⟩ = some v) (hS : S b) : RunsV P n S w0 ⟨dst, .load t x, ty, pos, af, g⟩ E l v := fun tt w hA hM => by
  have e1 : w.cell? ⟨b, off, none⟩ = some v := (World.cell?_of_block (w := w0) (hM.old b hS)).trans hc
  simp [execOp, hA.ev hx, Instr.loadAt, Instr.sureAddr, run_load1 ht _ e1]
/-- a whole array out of a slice -/
theorem rv_loadA_rd {off : Nat} {as : List Value} (hr : ∀ w, Mem S w0 w l → Rd w u nn size xs) (ht : TyA P t k) (hx : Env.ev E x = some (pt (vblk u) (voff u + off))) (hk : (xs.drop off).take k = as) (hl : as.length = k) :
    RunsV P n S w0 ⟨dst, .load t x, ty, pos, af, g⟩ E l (.agg as.toArray) := fun tt w hA hM => by
  have hR := hr w hM
  have h1 := run_loadCells_list (P := P) w ⟨vblk u, voff u + off, none⟩ as (fun j a hj => by
    rw [Addr.add_lit, Nat.add_assoc]
    refine hR.cell _ _ ?_
    subst hk
    have hjk : j < k := by have := (List.getElem?_eq_some_iff.1 hj).1; omega
    rw [List.getElem?_take, if_pos hjk, List.getElem?_drop] at hj
    exact hj)
  rw [hl] at h1
  obtain ⟨⟨dd, hd, hagg⟩, ii, hi, hs⟩ := ht
  have h2 : (loadVar t ⟨vblk u, voff u + off, none⟩).run P w = .ok (.agg as.toArray) w := by
    simp [loadVar, run_isAgg hd, hagg, run_sizeOf hi, hs, h1]
  simp [execOp, hA.ev hx, Instr.loadAt, Instr.sureAddr, h2]
theorem rv_loadA_rd8 {off : Nat} {q : List (BitVec 8)} (hr : ∀ w, Mem S w0 w l → Rd w u nn size (q.map U8)) (ht : TyA P t k) (hx : Env.ev E x = some (pt (vblk u) (voff u + off))) (hl : off + k ≤ q.length) :
    RunsV P n S w0 ⟨dst, .load t x, ty, pos, af, g⟩ E l (.agg (c8 ((q.drop off).take k))) := by
  have h := rv_loadA_rd (P := P) (n := n) (S := S) (w0 := w0) (dst := dst) (ty := ty) (pos := pos) (af := af) (g := g) (as := ((q.drop off).take k).map U8) hr ht hx (by rw [List.map_take, List.map_drop]) (by simp; omega)
  exact h
/-- an element of an array that is a value -/
theorem rv_indexV {len : Nat} {kk : IntKind} {z : Int} {j : Nat} (ht : P.underlying t = some (.array len e)) (hi : TyS P e) (hx : Env.ev E x = some (.agg cs)) (hy : Env.ev E y = some (.int kk z)) (hz : z = (j : Int)) (hj : j < len) (hv : cs[j]? = some v) :
    RunsV P n S w0 ⟨dst, .index t x y, ty, pos, af, g⟩ E l v := fun tt w hA _ => by
  subst hz
  obtain ⟨⟨dd, hd, hagg⟩, ii, hi, hs⟩ := hi
  have h1 : (0 : Int) ≤ (j : Int) ∧ (j : Int) < (len : Int) := by omega
  have h2 : (part e cs (j * 1)).run P w = .ok v w := by
    unfold part
    simp [run_isAgg hd, hagg, hv]
  simp only [execOp, Instr.index, hA.ev hx, hA.ev hy, asIntOf, Sem.run_bind, Sem.run_pure, Result.andThen_ok, run_underlying ht, if_pos h1, run_sizeOf hi, hs, Int.toNat_natCast, h2]
/-- an array in memory, cut with three bounds -/
theorem rv_sliceA3 {len lo hi mx : Nat} {xl xh xm : Operand} {kl kh km : IntKind} {zl zh zm : Int} (ht : P.underlying t = some (.array len e)) (hi' : Sz P e 1) (hx : Env.ev E x = some (pt b off))
    (hl : Env.ev E xl = some (.int kl zl)) (hzl : zl = (lo : Int)) (hh : Env.ev E xh = some (.int kh zh)) (hzh : zh = (hi : Int)) (hm : Env.ev E xm = some (.int km zm)) (hzm : zm = (mx : Int)) (h1 : lo ≤ hi) (h2 : hi ≤ mx) (h3 : mx ≤ len) (h4 : lo < mx) {k c d : Nat} (hk : off + lo = k) (hc : hi - lo = c) (hd : mx - lo = d) :
    RunsV P n S w0 ⟨dst, .slice t x (some xl) (some xh) (some xm), ty, pos, af, g⟩ E l (sl b k c d) := fun tt w hA hM => by
  subst hk; subst hc; subst hd; subst hzl; subst hzh; subst hzm
  obtain ⟨it, hi', hs⟩ := hi'
  have e1 : (0 : Int) ≤ (mx : Int) ∧ (mx : Int) ≤ (len : Int) := by omega
  have e2 : (0 : Int) ≤ (hi : Int) ∧ (hi : Int) ≤ (mx : Int) := by omega
  have e3 : (0 : Int) ≤ (lo : Int) ∧ (lo : Int) ≤ (hi : Int) := by omega
  have hne : ¬ (mx = lo) := by omega
  simp only [execOp, Instr.sliceAt, Sem.run_bind, run_underlying ht, Result.andThen_ok, hA.ev hx, Instr.sureAddr, Option.map_some, hA.ev hl, hA.ev hh, hA.ev hm, Instr.sliceBounds, Instr.sliceBound, asIntOf, Sem.run_pure, if_pos e1, if_pos e2, if_pos e3, Int.toNat_natCast, run_sizeOf hi', hs, hne, if_false, Addr.add_lit, Nat.mul_one]
/-- the array under a slice -/
theorem rv_arrayAt {len : Nat} (hr : ∀ w, Mem S w0 w l → Rd w u nn size xs) (ht : P.underlying t = some (.array len e)) (hx : Env.ev E x = some u) (hn : len ≤ nn) (h0 : 0 < nn) :
    RunsV P n S w0 ⟨dst, .sliceToArrayPointer t x, ty, pos, af, g⟩ E l (pt (vblk u) (voff u)) := fun tt w hA hM => by
  rcases (hr w hM).shape with ⟨_, h1⟩ | h1
  · omega
  · rw [h1] at hx
    have hne : ¬ (nn < len) := by omega
    have e1 : vblk (sl (vblk u) (voff u) nn (vcap u)) = vblk u := rfl
    have h2 := hA.ev hx
    simp only [execOp, h2, Instr.arrayAt, Sem.run_bind, run_underlying ht, Result.andThen_ok, hne, if_false, Sem.run_pure]
/-- is a slice nil -/
theorem run_eq_nil {w : World} {a : Option Addr} {ln c : Nat} (h : P.underlying t = some (.slice e)) : (binOp .eql t (.slice a ln c) (.slice none 0 0)).run P w = .ok (.bool a.isNone) w := by
  simp [binOp, run_equal_slice_nil w t e a ln c h]
theorem rv_eqlNil {ln c : Nat} {a : Option Addr} (h : P.underlying xt = some (.slice e)) (hx : Env.ev E x = some (.slice a ln c)) (hy : Env.ev E y = some (.slice none 0 0)) : RunsV P n S w0 ⟨dst, .binOp .eql xt x y yt, ty, pos, af, g⟩ E l (.bool a.isNone) := fun tt w hA _ => by
  have e0 : eqGuard .eql xt x y (.slice a ln c) (.slice none 0 0) = pure () := by rfl
  simp [execOp, hA.ev hx, hA.ev hy, e0, run_eq_nil h]
theorem rv_neqNil {ln c : Nat} {a : Option Addr} (h : P.underlying xt = some (.slice e)) (hx : Env.ev E x = some (.slice a ln c)) (hy : Env.ev E y = some (.slice none 0 0)) : RunsV P n S w0 ⟨dst, .binOp .neq xt x y yt, ty, pos, af, g⟩ E l (.bool (!a.isNone)) := fun tt w hA _ => by
  have e0 : eqGuard .neq xt x y (.slice a ln c) (.slice none 0 0) = pure () := by rfl
  have e1 : (binOp .neq xt (.slice a ln c) (.slice none 0 0)).run P w = .ok (.bool (!a.isNone)) w := by simp [binOp, run_equal_slice_nil w xt e a ln c h]
  simp [execOp, hA.ev hx, hA.ev hy, e0, e1]
/-- a block that a parameter points to -/
theorem Mem.param {w : World} (h : (blk b cs T).holds w) : Mem (Old w (fun b' => b' = b)) w w [blk b cs T] :=
  ⟨rfl, rfl, rfl, Nat.le_refl _, fun b hb => hb.1, fun _ _ => rfl, fun x hx => by rw [List.mem_singleton.1 hx]; exact h, List.pairwise_singleton _ _, fun x hx b' hb hs => by
    rw [List.mem_singleton.1 hx] at hb; exact hs.2 hb⟩
/-- a call that writes one block -/
theorem st_callP {f : FuncId} {as : List Operand} {vs : List Value} {ats : Array TypeId} (hf : Callable P f) (hv : evs E as = some vs) (hl : l[i]? = some (blk b cs T))
    (C : ∀ w, Mem S w0 w l → Calls P f vs.toArray w fun e w' => e = .returned (.tuple #[]) ∧ Mem (Old w (fun b' => b' = b)) w w' [blk b cs' T]) (hd : d < n) (hl' : l.set i (blk b cs' T) = l')
    (h : St n S w0 (wpList P ops Q rest) ((d, .tuple #[]) :: E) l') :
    St n S w0 (wpList P ops Q (⟨some d, .call { callee := .value (.func f), args := as.toArray, argTypes := ats }, ty, pos, af, none⟩ :: rest)) E l := by
  subst hl'
  obtain ⟨p1, p2⟩ := perm_set (y := blk b cs' T) hl
  refine st_call (fun _ : Unit => .tuple #[]) (fun _ => True) (fun _ => [blk b cs' T]) (ms := fun _ b' => b' = b) (lm := [blk b cs T]) (lf := l.eraseIdx i) hf hv p1 (fun w hM => ⟨fun b' hb => ⟨_, List.mem_singleton.2 rfl, hb⟩, ?_⟩) hd fun _ _ => ?_
  · exact (C w hM).mono fun e w' he => ⟨(), he.1, trivial, he.2⟩
  · exact h.mem fun w hM => hM.perm p2
theorem Mem.holdsAt {w : World} (M : Mem S w0 w l) (hl : l[i]? = some (blk b cs T)) : (blk b cs T).holds w := M.holds _ (List.mem_of_getElem? hl)
/-- a slice of one element that is an array -/
theorem st_build1A {z : Value} {bytes : Nat} (ht : P.underlying t = some (.slice e)) (hz : TyZ P e z k bytes) (hk : 0 < k ∧ k ≤ 16777216) (hx : Env.ev E x = some (.agg cs)) (hcs : cs.size = k) (hd : d < n)
    (h : ∀ b, w0.heap.size ≤ b → St n S w0 (wpList P ops Q rest) ((d, sl b 0 1 1) :: E) (blk b cs e :: l)) :
    St n S w0 (wpList P ops Q (⟨some d, .buildSlice t 1 #[(0, x)], ty, pos, af, none⟩ :: rest)) E l := fun tt w hA hM => by
  obtain ⟨i, hi, hz, hs, rfl⟩ := hz
  have hr : (execOp (Act.eval ⟨tt, []⟩) ⟨some d, .buildSlice t 1 #[(0, x)], ty, pos, af, none⟩).run P w = .ok (.value (sl w.heap.size 0 1 1)) (w.alloc (.cells cs e)) := by
    have h24 : ¬ (1 * k > 2 ^ 24) := by omega
    have h0' : ¬ (1 * k = 0) := by omega
    have hfl : ∀ base : Array Value, base.size = k → Instr.fill (fun i => some (i * k, k)) base [(0, .agg cs)] = some cs := by
      intro base hb
      rw [fill_eq]
      have h1 : (Value.agg cs).cells = cs := rfl
      have h2 : ¬ (cs.size ≠ k ∨ 0 * k + cs.size > base.size) := by omega
      simp only [fillL, h1]
      rw [if_neg (by simp; omega)]
      congr 1
      apply Array.ext_getElem?
      intro j
      rw [get_spl]
      by_cases hj : j < k
      · rw [if_pos (by simp; omega)]; simp
      · rw [if_neg (by simp; omega), Array.getElem?_eq_none (by omega), Array.getElem?_eq_none (by omega)]
    have hev2 : (#[(0, x)].map fun (x : Nat × Operand) => (x.1, Act.eval ⟨tt, []⟩ x.2)).toList = [(0, .agg cs)] := by simp [hA.ev hx]
    simp only [execOp, Instr.buildSlice, Sem.run_bind, run_underlying ht, Result.andThen_ok, run_sizeOf hi, hs, hev2]
    have hf' := hfl ((Array.range (1 * k)).map (fun x => z.cells[x % z.cells.size]!)) (by simp)
    simp only [h24, h0', if_false, Sem.run_bind, Sem.run_pure, Result.andThen_ok, zeroValue, typeInfo, run_program, hi, hz, hf', newRow, run_newObj]
    rfl
  exact wpList_run rfl hr (h _ hM.size _ _ (hA.put hd _) (hM.alloc _ _))
theorem st_append8 {t2 : TypeId} {z : Value} {bytes m : Nat} {d2 : TypeDesc} {q r : List (BitVec 8)} (ht : P.underlying t = some (.slice e)) (ht2 : P.underlying t2 = some d2) (hd2 : d2 = .string ∨ ∃ e2, d2 = .slice e2) (hz : TyZ P e z size bytes) (hzs : z.cells.size = size)
    (hx : Env.ev E x = some v) (hy : Env.ev E y = some u) (hl : l[i]? = some (own v e size nn (q.map U8))) (hsrc : ∀ w, Mem S w0 w l → Src P w size m u (r.map U8))
    (hb : (nn + m) * bytes ≤ 140737488355328) (hm : nn + m ≤ 9223372036854775807) (hd : d < n) (h : ∀ v', St n S w0 (wpList P ops Q rest) ((d, v') :: E) (l.set i (own v' e size (nn + m) ((q ++ r).map U8)))) :
    St n S w0 (wpList P ops Q (⟨some d, .call { callee := .builtin .append, args := #[x, y], argTypes := #[t, t2] }, ty, pos, af, none⟩ :: rest)) E l :=
  st_append ht ht2 hd2 hz hzs hx hy hl (one8 q) hsrc hb hm hd fun v' => by
    have := h v'
    rwa [List.map_append] at this
theorem st_ownNil8 {K : Act → World → Prop} (T : TypeId) (size : Nat) (h : St n S w0 K E (own nilS T size 0 (([] : List (BitVec 8)).map U8) :: l)) : St n S w0 K E l := h.mem fun w hM => hM.ownNil T size
/-- a mask of low bits -/
theorem rv_andM {a m M : Nat} (k : Nat) (hx : Env.ev E x = some (vI a)) (hy : Env.ev E y = some (vI m)) (hm : m = 2 ^ k - 1) (hM : 2 ^ k = M) (hk : k ≤ 62) (ha : a ≤ 9223372036854775807) : RunsV P n S w0 ⟨dst, .binOp .and xt x y yt, ty, pos, af, g⟩ E l (vI (a % M : Nat)) :=
  rv_bin hx hy fun w => by
    subst hm; subst hM
    simp only [binOp_and]
    have hlt : a % 2 ^ k < 2 ^ 62 := Nat.lt_of_lt_of_le (Nat.mod_lt _ (Nat.two_pow_pos k)) (Nat.pow_le_pow_right (by decide) hk)
    have hp : 2 ^ k - 1 < 2 ^ 62 := by
      have := Nat.pow_le_pow_right (n := 2) (by decide) hk
      have := Nat.two_pow_pos k
      omega
    have e1 : (BitVec.ofInt 64 (a : Int)) = BitVec.ofNat 64 a := by rw [BitVec.ofInt_natCast]
    have e2 : (BitVec.ofInt 64 ((2 ^ k - 1 : Nat) : Int)) = BitVec.ofNat 64 (2 ^ k - 1) := by rw [BitVec.ofInt_natCast]
    have e3 : ((BitVec.ofNat 64 a) &&& (BitVec.ofNat 64 (2 ^ k - 1))).toNat = a % 2 ^ k := by
      rw [BitVec.toNat_and, BitVec.toNat_ofNat, BitVec.toNat_ofNat, Nat.mod_eq_of_lt (by omega : a < 2 ^ 64), Nat.mod_eq_of_lt (by omega : 2 ^ k - 1 < 2 ^ 64), Nat.and_two_pow_sub_one_eq_mod]
    show Result.ok (Value.int .i64 (IntKind.i64.wrap (((BitVec.ofInt 64 (a : Int)) &&& (BitVec.ofInt 64 ((2 ^ k - 1 : Nat) : Int))).toNat : Int))) w = _
    rw [e1, e2, e3, wrap_i64 (by omega) (by omega)]
/-- the lesser of two -/
theorem rv_minN {a c : Nat} {ats : Array TypeId} (hx : Env.ev E x = some (vI a)) (hy : Env.ev E y = some (vI c)) : RunsV P n S w0 ⟨dst, .call { callee := .builtin .min, args := #[x, y], argTypes := ats }, ty, pos, af, g⟩ E l (vI (min a c : Nat)) := fun tt w hA _ => by
  have e1 : (if (c : Int) < (a : Int) then (c : Int) else (a : Int)) = ((min a c : Nat) : Int) := by
    split <;> omega
  have e2 : Builtin.min_ ats ty #[vI a, vI c] = (Builtin.min2 (vI a) (vI c) >>= fun s => pure s) := by simp only [Builtin.min_, List.foldlM_cons, List.foldlM_nil]
  have e3 : Builtin.min2 (vI a) (vI c) = pure (vI (min a c : Nat)) := by simp only [Builtin.min2]; rw [e1]
  simp [execOp, resolve, invoke, builtin, hA.ev hx, hA.ev hy, e2, e3]
theorem rd_k8 {len cap size : Nat} {q : List (BitVec 8)} {T : TypeId} (h : l[i]? = some (blk b (c8 q) T)) (hq : q.length = len * size) (hc : len ≤ cap) : ∀ w, Mem S w0 w l → Rd w (sl b 0 len cap) len size (q.map U8) :=
  rd_blk h (by simp [hq]) hc fun j u hj => by rw [Nat.zero_add]; simpa [c8] using hj
end
end Go.Proofs.YtjhjjhpfjadjpaaDoor
