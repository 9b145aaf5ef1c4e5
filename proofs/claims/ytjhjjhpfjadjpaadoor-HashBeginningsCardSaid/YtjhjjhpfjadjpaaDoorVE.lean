/- Helpers: loads, stores, new blocks, addresses, lengths. -/
import Derived.Test.YtjhjjhpfjadjpaaDoorVD
namespace Go.Proofs.YtjhjjhpfjadjpaaDoor
set_option linter.all false
open Go

/-! ### storing some cells in a row -/
def spl (cs : Array Value) : Nat → List Value → Array Value
  | _, [] => cs
  | k, v :: r => spl (cs.setIfInBounds k v) (k + 1) r
@[simp] theorem size_spl (vs : List Value) : ∀ (cs : Array Value) (k : Nat), (spl cs k vs).size = cs.size := by
  induction vs with
  | nil => intro cs k; rfl
  | cons v r ih => intro cs k; simp [spl, ih]
theorem get_spl (vs : List Value) : ∀ (cs : Array Value) (k j : Nat), (spl cs k vs)[j]? = if k ≤ j ∧ j < k + vs.length ∧ j < cs.size then vs[j - k]? else cs[j]? := by
  induction vs with
  | nil => intro cs k j; simp [spl]; intro h1 h2; omega
  | cons v r ih =>
    intro cs k j
    simp only [spl, ih, Array.size_setIfInBounds, List.length_cons]
    by_cases h1 : k + 1 ≤ j ∧ j < k + 1 + r.length ∧ j < cs.size
    · rw [if_pos h1, if_pos (by omega), show j - k = (j - (k + 1)) + 1 by omega]; rfl
    · rw [if_neg h1]
      by_cases h2 : k = j
      · subst h2
        by_cases h3 : k < cs.size
        · rw [if_pos (by omega)]; simp [h3]
        · rw [if_neg (by omega)]; simp [h3]
      · rw [if_neg (by omega), Array.getElem?_setIfInBounds_ne h2]
def noFz (cs : Array Value) (fr : Nat × Nat) : Prop := ∀ i, i < cs.size → ¬ (fr.1 ≤ i ∧ i < fr.2)
theorem frozen_no {w : World} {b j : Nat} {cs : Array Value} {T : TypeId} {fr : Nat × Nat} (h : w.heap[b]? = some (.cells cs T fr)) (hf : noFz cs fr) (hj : j < cs.size) : w.frozen? ⟨b, j, none⟩ = false := by
  have := hf j hj
  simp only [World.frozen?, h]
  simp
  omega
theorem run_storeCells_upd {P : Program} {b off : Nat} {T : TypeId} : ∀ (vs : List Value) (i : Nat) (cs : Array Value) (fr : Nat × Nat) (w : World), w.heap[b]? = some (.cells cs T fr) → noFz cs fr →
    off + i + vs.length ≤ cs.size → (∀ v ∈ vs, v.oneCell' = true) → ∃ w', (storeCells ⟨b, off, none⟩ vs i).run P w = .ok () w' ∧ Upd w w' b (spl cs (off + i) vs) T
  | [], i, cs, fr, w, h, hf, _, _ => ⟨w, rfl, rfl, rfl, rfl, rfl, ⟨fr, h, hf⟩, fun _ _ => rfl⟩
  | v :: r, i, cs, fr, w, h, hf, hl, h1 => by
    simp only [List.length_cons] at hl
    have hc : (w.cell? ⟨b, off + i, none⟩).isSome = true := by
      rw [cell_of_row w b (off + i) cs T fr h]
      simp; omega
    have hfz : w.frozen? ⟨b, off + i, none⟩ = false := frozen_no h hf (by omega)
    have U1 : Upd w (w.setCell ⟨b, off + i, none⟩ v) b (cs.setIfInBounds (off + i) v) T := Upd.setCell h hf v
    obtain ⟨fr', h', hf'⟩ := U1.new
    obtain ⟨w', hr, U2⟩ := run_storeCells_upd (P := P) (b := b) (off := off) (T := T) r (i + 1) (cs.setIfInBounds (off + i) v) fr' (w.setCell ⟨b, off + i, none⟩ v) h' hf' (by simp; omega) (fun u hu => h1 u (List.mem_cons_of_mem _ hu))
    refine ⟨w', ?_, U1.trans U2⟩
    have hs : (store ((⟨b, off, none⟩ : Addr).add i) v).run P w = .ok () (w.setCell ⟨b, off + i, none⟩ v) := by
      rw [Addr.add_lit]
      obtain ⟨u, hu⟩ := Option.isSome_iff_exists.1 hc
      rw [run_store P w _ v .plain (h1 v List.mem_cons_self)]
      simp [hu, hfz]
    simp only [storeCells, Sem.run_bind, hs, Result.andThen_ok]
    exact hr
/-- types of one cell; structs and arrays of k cells -/
def aggB : TypeDesc → Bool | .struct _ | .array _ _ => true | _ => false
def TyS (P : Program) (ty : TypeId) : Prop := (∃ d, P.underlying ty = some d ∧ aggB d = false) ∧ ∃ i, P.info? ty = some i ∧ i.size = 1
def TyA (P : Program) (ty : TypeId) (k : Nat) : Prop := (∃ d, P.underlying ty = some d ∧ aggB d = true) ∧ ∃ i, P.info? ty = some i ∧ i.size = k
/-- how many cells -/
def Sz (P : Program) (ty : TypeId) (k : Nat) : Prop := ∃ i, P.info? ty = some i ∧ i.size = k
/-- the zero value of a type, its cells, its bytes -/
def TyZ (P : Program) (ty : TypeId) (z : Value) (size bytes : Nat) : Prop := ∃ i, P.info? ty = some i ∧ i.zero = some z ∧ i.size = size ∧ i.bytes = bytes
section
variable {P : Program} {w w' : World} {b off k : Nat} {cs : Array Value} {T ty : TypeId} {fr : Nat × Nat} {v : Value}
theorem run_isAgg {d : TypeDesc} (h : P.underlying ty = some d) : (isAgg ty).run P w = .ok (aggB d) w := by
  unfold isAgg
  simp only [Sem.run_bind, run_underlying h, Result.andThen_ok]
  cases d <;> rfl
theorem run_sizeOf {i : TypeInfo} (h : P.info? ty = some i) : (sizeOf ty).run P w = .ok i.size w := by simp [sizeOf, typeInfo, h]
theorem run_load1 (ht : TyS P ty) (a : Addr) (hc : w.cell? a = some v) : (loadVar ty a).run P w = .ok v w := by
  obtain ⟨⟨d, hd, hs⟩, _⟩ := ht
  simp [loadVar, run_isAgg hd, hs, hc]
theorem run_loadCells_row (h : w.heap[b]? = some (.cells cs T fr)) (hk : off + k ≤ cs.size) : (loadCells ⟨b, off, none⟩ k).run P w = .ok (cs.extract off (off + k)) w := by
  have hlen : (cs.extract off (off + k)).toList.length = k := by simp; omega
  have := run_loadCells_list (P := P) w ⟨b, off, none⟩ (cs.extract off (off + k)).toList (fun j u hj => by
    rw [Addr.add_lit, cell_of_row w b (off + j) cs T fr h]
    have hjk : j < k := by have := (List.getElem?_eq_some_iff.1 hj).1; omega
    rw [Array.getElem?_toList, Array.getElem?_extract] at hj
    split at hj
    · exact hj
    · cases hj)
  rw [hlen, Array.toArray_toList] at this
  exact this
theorem run_loadA (ht : TyA P ty k) (h : w.heap[b]? = some (.cells cs T fr)) (hk : off + k ≤ cs.size) : (loadVar ty ⟨b, off, none⟩).run P w = .ok (.agg (cs.extract off (off + k))) w := by
  obtain ⟨⟨d, hd, hs⟩, i, hi, rfl⟩ := ht
  simp [loadVar, run_isAgg hd, hs, run_sizeOf hi, run_loadCells_row h hk]
theorem run_storeA {vs : List Value} (hi : Sz P ty vs.length) (hv : v.cells = vs.toArray) (h : w.heap[b]? = some (.cells cs T fr)) (hf : noFz cs fr) (hk : off + vs.length ≤ cs.size)
    (h1 : ∀ u ∈ vs, u.oneCell' = true) : ∃ w', (storeVar ty ⟨b, off, none⟩ v).run P w = .ok () w' ∧ Upd w w' b (spl cs off vs) T := by
  obtain ⟨i, hi, hsz⟩ := hi
  obtain ⟨w', hr, U⟩ := run_storeCells_upd (P := P) vs 0 cs fr w h hf (by simpa using hk) h1
  refine ⟨w', ?_, by simpa using U⟩
  simp [storeVar, run_sizeOf hi, hv, hsz, hr]
end

section
variable {P : Program} {n : Nat} {S : Nat → Prop} {w0 : World} {E E' : Env} {l l' : List Asn} {Q : Exit → Act → World → Prop} {K : Act → World → Prop} {ops : Array Oper} {rest : List Oper} {o : Oper}
  {dst : Option Tmp} {ty : TypeId} {pos : String} {af : Array Edge} {g : Option (Nat × Bool)} {v u : Value} {d : Nat} {op : Op} {x y : Operand} {t T : TypeId} {i b off k : Nat} {cs cs' : Array Value}
/-! ### loads -/
theorem rv_load_blk (ht : TyS P t) (hx : Env.ev E x = some (pt b off)) (hl : l[i]? = some (blk b cs T)) (hv : cs[off]? = some v) : RunsV P n S w0 ⟨dst, .load t x, ty, pos, af, g⟩ E l v := fun tt w hA hM => by
  obtain ⟨fr, h1, _⟩ := hM.blkAt hl
  have hc : w.cell? ⟨b, off, none⟩ = some v := by rw [cell_of_row w b off cs T fr h1]; exact hv
  simp [execOp, hA.ev hx, Instr.loadAt, Instr.sureAddr, run_load1 ht _ hc]
theorem rv_load_old {fr : Nat × Nat} (ht : TyS P t) (hx : Env.ev E x = some (pt b off)) (hb : w0.heap[b]? = some (.cells cs T fr)) (hS : S b) (hv : cs[off]? = some v) : RunsV P n S w0 ⟨dst, .load t x, ty, pos, af, g⟩ E l v := fun tt w hA hM => by
  have hc : w.cell? ⟨b, off, none⟩ = some v := by rw [cell_of_row w b off cs T fr ((hM.old b hS).trans hb)]; exact hv
  simp [execOp, hA.ev hx, Instr.loadAt, Instr.sureAddr, run_load1 ht _ hc]
theorem rv_load_rd {nn size : Nat} {xs : List Value} {j : Nat} (hr : ∀ w, Mem S w0 w l → Rd w u nn size xs) (ht : TyS P t) (hx : Env.ev E x = some (pt (vblk u) (voff u + j))) (hv : xs[j]? = some v) :
    RunsV P n S w0 ⟨dst, .load t x, ty, pos, af, g⟩ E l v := fun tt w hA hM => by
  simp [execOp, hA.ev hx, Instr.loadAt, Instr.sureAddr, run_load1 ht _ ((hr w hM).cell j v hv)]
theorem rv_loadA_blk (ht : TyA P t k) (hx : Env.ev E x = some (pt b off)) (hl : l[i]? = some (blk b cs T)) (hk : off + k ≤ cs.size) (hv : cs.extract off (off + k) = cs') :
    RunsV P n S w0 ⟨dst, .load t x, ty, pos, af, g⟩ E l (.agg cs') := fun tt w hA hM => by
  obtain ⟨fr, h1, _⟩ := hM.blkAt hl
  subst hv
  simp [execOp, hA.ev hx, Instr.loadAt, Instr.sureAddr, run_loadA ht h1 hk]
theorem rv_loadA_old {fr : Nat × Nat} (ht : TyA P t k) (hx : Env.ev E x = some (pt b off)) (hb : w0.heap[b]? = some (.cells cs T fr)) (hS : S b) (hk : off + k ≤ cs.size) (hv : cs.extract off (off + k) = cs') :
    RunsV P n S w0 ⟨dst, .load t x, ty, pos, af, g⟩ E l (.agg cs') := fun tt w hA hM => by
  subst hv
  simp [execOp, hA.ev hx, Instr.loadAt, Instr.sureAddr, run_loadA ht ((hM.old b hS).trans hb) hk]
/-- a whole block -/
theorem rv_loadW_blk (ht : TyA P t k) (hx : Env.ev E x = some (pt b 0)) (hl : l[i]? = some (blk b cs T)) (hk : cs.size = k) : RunsV P n S w0 ⟨dst, .load t x, ty, pos, af, g⟩ E l (.agg cs) :=
  rv_loadA_blk ht hx hl (by omega) (by subst hk; simp)
theorem rv_loadW_old {fr : Nat × Nat} (ht : TyA P t k) (hx : Env.ev E x = some (pt b 0)) (hb : w0.heap[b]? = some (.cells cs T fr)) (hS : S b) (hk : cs.size = k) : RunsV P n S w0 ⟨dst, .load t x, ty, pos, af, g⟩ E l (.agg cs) :=
  rv_loadA_old ht hx hb hS (by omega) (by subst hk; simp)
/-! ### stores -/
theorem st_upd {w : World} {tt : Array Value} (hA : Ag n tt E) (hM : Mem S w0 w l) (hl : l[i]? = some (blk b cs T)) {vs : List Value} (hx : Env.ev E x = some (pt b off)) (hy : Env.ev E y = some v)
    (hi : Sz P t vs.length) (hv : v.cells = vs.toArray) (hk : off + vs.length ≤ cs.size) (h1 : ∀ u ∈ vs, u.oneCell' = true) :
    ∃ w', (execOp (Act.eval ⟨tt, []⟩) ⟨none, .store t x y, ty, pos, af, g⟩).run P w = .ok .skip w' ∧ Mem S w0 w' (l.set i (blk b (spl cs off vs) T)) := by
  obtain ⟨fr, hb, hf⟩ := hM.blkAt hl
  obtain ⟨w', hr, U⟩ := run_storeA (P := P) (ty := t) hi hv hb hf hk h1
  exact ⟨w', by simp [execOp, hA.ev hx, hA.ev hy, Instr.storeAt, Instr.sureAddr, hr], hM.upd hl U⟩
/-- store the cells vs of a value v -/
theorem st_store {vs : List Value} (hx : Env.ev E x = some (pt b off)) (hy : Env.ev E y = some v) (hl : l[i]? = some (blk b cs T)) (hi : Sz P t vs.length) (hv : v.cells = vs.toArray)
    (hk : off + vs.length ≤ cs.size) (h1 : ∀ u ∈ vs, u.oneCell' = true) (hcs : spl cs off vs = cs') (hl' : l.set i (blk b cs' T) = l') (h : St n S w0 (wpList P ops Q rest) E l') :
    St n S w0 (wpList P ops Q (⟨none, .store t x y, ty, pos, af, none⟩ :: rest)) E l := fun tt w hA hM => by
  obtain ⟨w', hr, hM'⟩ := st_upd (ty := ty) (pos := pos) (af := af) (g := none) hA hM hl hx hy hi hv hk h1
  subst hcs; subst hl'
  exact wpList_runU rfl hr (h tt w' hA hM')
/-! ### new blocks -/
theorem st_alloc {z : Value} {size bytes : Nat} (hz : TyZ P t z size bytes) (hd : d < n) (hc : z.cells = cs) (h : ∀ b, w0.heap.size ≤ b → St n S w0 (wpList P ops Q rest) ((d, pt b 0) :: E) (blk b cs t :: l)) :
    St n S w0 (wpList P ops Q (⟨some d, .alloc t, ty, pos, af, none⟩ :: rest)) E l := fun tt w hA hM => by
  obtain ⟨i, hi, hz, _⟩ := hz
  have hr : (execOp (Act.eval ⟨tt, []⟩) ⟨some d, .alloc t, ty, pos, af, none⟩).run P w = .ok (.value (pt w.heap.size 0)) (w.alloc (.cells cs t)) := by
    simp [execOp, Instr.alloc, zeroValue, typeInfo, hi, hz, newVar, newRow, hc]
  exact wpList_run rfl hr (h _ hM.size _ _ (hA.put hd _) (hM.alloc cs t))
theorem st_box (hx : Env.ev E x = some v) (hd : d < n) (hc : v.cells = cs) (h : ∀ b, w0.heap.size ≤ b → St n S w0 (wpList P ops Q rest) ((d, pt b 0) :: E) (blk b cs t :: l)) :
    St n S w0 (wpList P ops Q (⟨some d, .box t x, ty, pos, af, none⟩ :: rest)) E l := fun tt w hA hM => by
  have hr : (execOp (Act.eval ⟨tt, []⟩) ⟨some d, .box t x, ty, pos, af, none⟩).run P w = .ok (.value (pt w.heap.size 0)) (w.alloc (.cells cs t)) := by
    simp [execOp, Instr.box, hA.ev hx, newVar, newRow, hc]
  exact wpList_run rfl hr (h _ hM.size _ _ (hA.put hd _) (hM.alloc cs t))
/-! ### addresses -/
theorem rv_fieldAddr {fs : Array Field} {fd : Field} {f k size : Nat} (ht : P.underlying t = some (.struct fs)) (hf : fs[f]? = some fd) (hi : Sz P fd.type (size + 1)) (ho : off + fd.offset = k)
    (hx : Env.ev E x = some (pt b off)) : RunsV P n S w0 ⟨dst, .fieldAddr t x f, ty, pos, af, g⟩ E l (pt b k) := fun tt w hA _ => by
  subst ho
  obtain ⟨i, hi, hz⟩ := hi
  simp [execOp, Instr.fieldAt, run_underlying ht, hf, hA.ev hx, Instr.sureAddr, fieldPlace, run_sizeOf hi, hz, Addr.add_lit]
theorem rv_indexA {len e : Nat} {kk : IntKind} {z : Int} {j size : Nat} (ht : P.underlying t = some (.array len e)) (hi : Sz P e size) (hx : Env.ev E x = some (pt b off)) (hy : Env.ev E y = some (.int kk z))
    (hz : z = (j : Int)) (hj : j < len) {k : Nat} (hk : off + j * size = k) : RunsV P n S w0 ⟨dst, .indexAddr t x y, ty, pos, af, g⟩ E l (pt b k) := fun tt w hA _ => by
  subst hz; subst hk
  obtain ⟨it, hi, rfl⟩ := hi
  have h1 : (0 : Int) ≤ (j : Int) ∧ (j : Int) < (len : Int) := by omega
  simp only [execOp, Instr.indexAt, hA.ev hx, hA.ev hy, asIntOf, Sem.run_bind, Sem.run_pure, Result.andThen_ok, run_underlying ht, Instr.sureAddr, if_pos h1, run_sizeOf hi, Addr.add_lit, Int.toNat_natCast]
theorem rv_indexS {e len cap : Nat} {kk : IntKind} {z : Int} {j size : Nat} (ht : P.underlying t = some (.slice e)) (hi : Sz P e size) (hx : Env.ev E x = some (sl b off len cap)) (hy : Env.ev E y = some (.int kk z))
    (hz : z = (j : Int)) (hj : j < len) {k : Nat} (hk : off + j * size = k) : RunsV P n S w0 ⟨dst, .indexAddr t x y, ty, pos, af, g⟩ E l (pt b k) := fun tt w hA _ => by
  subst hz; subst hk
  obtain ⟨it, hi, rfl⟩ := hi
  have h1 : (0 : Int) ≤ (j : Int) ∧ (j : Int) < (len : Int) := by omega
  simp only [execOp, Instr.indexAt, hA.ev hx, hA.ev hy, asIntOf, Sem.run_bind, Sem.run_pure, Result.andThen_ok, run_underlying ht, if_pos h1, run_sizeOf hi, Addr.add_lit, Int.toNat_natCast]
theorem rv_indexR {nn e : Nat} {kk : IntKind} {z : Int} {j size : Nat} {xs : List Value} (hr : ∀ w, Mem S w0 w l → Rd w u nn size xs) (ht : P.underlying t = some (.slice e)) (hi : Sz P e size) (hx : Env.ev E x = some u) (hy : Env.ev E y = some (.int kk z))
    (hz : z = (j : Int)) (hj : j < nn) : RunsV P n S w0 ⟨dst, .indexAddr t x y, ty, pos, af, g⟩ E l (pt (vblk u) (voff u + j * size)) := fun tt w hA hM => by
  rcases (hr w hM).shape with ⟨_, h0⟩ | h1
  · omega
  · rw [h1] at hx
    exact rv_indexS (P := P) (n := n) (S := S) (w0 := w0) (dst := dst) (ty := ty) (pos := pos) (af := af) (g := g) (l := l) ht hi hx hy hz hj rfl tt w hA hM
theorem rv_indexR1 {nn e : Nat} {kk : IntKind} {z : Int} {j : Nat} {xs : List Value} (hr : ∀ w, Mem S w0 w l → Rd w u nn 1 xs) (ht : P.underlying t = some (.slice e)) (hi : Sz P e 1) (hx : Env.ev E x = some u) (hy : Env.ev E y = some (.int kk z))
    (hz : z = (j : Int)) (hj : j < nn) : RunsV P n S w0 ⟨dst, .indexAddr t x y, ty, pos, af, g⟩ E l (pt (vblk u) (voff u + j)) := by
  have := rv_indexR (P := P) (n := n) (S := S) (w0 := w0) (dst := dst) (ty := ty) (pos := pos) (af := af) (g := g) hr ht hi hx hy hz hj
  rwa [Nat.mul_one] at this
theorem rv_indexStr {s : ByteArray} {kk : IntKind} {z : Int} {j : Nat} {c : UInt8} (ht : P.underlying t = some .string) (hx : Env.ev E x = some (.string s)) (hy : Env.ev E y = some (.int kk z)) (hz : z = (j : Int)) (hj : s[j]? = some c) :
    RunsV P n S w0 ⟨dst, .index t x y, ty, pos, af, g⟩ E l (.int .u8 c.toNat) := fun tt w hA _ => by
  subst hz
  have h1 : (0 : Int) ≤ (j : Int) := by omega
  simp [execOp, Instr.index, hA.ev hx, hA.ev hy, asIntOf, run_underlying ht, h1, hj]
theorem vB_get {l : List (BitVec 8)} {j : Nat} (h : j < l.length) : (vB l)[j]? = some (UInt8.ofBitVec (l.getD j 0#8)) := by
  have h1 : j < (vB l).size := by simpa using h
  rw [getElem?_pos (vB l) j h1]
  congr 1
  have h2 : (List.map UInt8.ofBitVec l).toArray[j]'(by simpa using h) = UInt8.ofBitVec (l.getD j 0#8) := by simp [h]
  exact h2
theorem rv_indexB {s : List (BitVec 8)} {kk : IntKind} {z : Int} {j : Nat} (ht : P.underlying t = some .string) (hx : Env.ev E x = some (vS s)) (hy : Env.ev E y = some (.int kk z)) (hz : z = (j : Int)) (hj : j < s.length) :
    RunsV P n S w0 ⟨dst, .index t x y, ty, pos, af, g⟩ E l (U8 (s.getD j 0#8)) := rv_indexStr ht hx hy hz (vB_get hj)
/-! ### lists of words -/
theorem get8 {l : List (BitVec 8)} {j : Nat} (h : j < l.length) : (l.map U8)[j]? = some (U8 (l.getD j 0#8)) := by simp [h]
theorem get32 {l : List (BitVec 32)} {j : Nat} (h : j < l.length) : (l.map U32)[j]? = some (U32 (l.getD j 0#32)) := by simp [h]
theorem get64 {l : List (BitVec 64)} {j : Nat} (h : j < l.length) : (l.map U64)[j]? = some (U64 (l.getD j 0#64)) := by simp [h]
theorem cell8 {l : List (BitVec 8)} {j : Nat} (h : j < l.length) : (c8 l)[j]? = some (U8 (l.getD j 0#8)) := by simp [c8, h]
theorem cell32 {l : List (BitVec 32)} {j : Nat} (h : j < l.length) : (c32 l)[j]? = some (U32 (l.getD j 0#32)) := by simp [c32, h]
theorem cell64 {l : List (BitVec 64)} {j : Nat} (h : j < l.length) : (c64 l)[j]? = some (U64 (l.getD j 0#64)) := by simp [c64, h]
/-- l with m laid over it from k on -/
def over {α : Type} (l : List α) (k : Nat) (m : List α) : List α := l.take k ++ (m ++ l.drop (k + m.length))
theorem over_nil {α : Type} (l : List α) (k : Nat) : over l k [] = l := by simp [over]
theorem length_over {α : Type} {l m : List α} {k : Nat} (h : k + m.length ≤ l.length) : (over l k m).length = l.length := by simp [over]; omega
theorem over_all {α : Type} {l m : List α} (h : l.length = m.length) : over l 0 m = m := by simp [over, ← h]
theorem spl_map {α : Type} (f : α → Value) (m : List α) : ∀ (l : List α) (k : Nat), k + m.length ≤ l.length → spl (l.map f).toArray k (m.map f) = ((over l k m).map f).toArray := by
  intro l k h
  apply Array.ext_getElem?
  intro j
  rw [get_spl]
  simp only [List.length_map, List.size_toArray, List.getElem?_toArray, over, List.map_append, List.map_take, List.map_drop]
  by_cases h1 : j < k
  · rw [if_neg (by omega), List.getElem?_append_left (by simp; omega), List.getElem?_take, if_pos h1]
  · by_cases h2 : j < k + m.length
    · rw [if_pos (by omega), List.getElem?_append_right (by simp; omega), List.getElem?_append_left (by simp; omega)]
      congr 1
      simp; omega
    · rw [if_neg (by omega), List.getElem?_append_right (by simp; omega), List.getElem?_append_right (by simp; omega), List.getElem?_drop]
      congr 1
      simp; omega
theorem spl8 {l m : List (BitVec 8)} {k : Nat} (h : k + m.length ≤ l.length) : spl (c8 l) k (m.map U8) = c8 (over l k m) := spl_map U8 m l k h
theorem spl32 {l m : List (BitVec 32)} {k : Nat} (h : k + m.length ≤ l.length) : spl (c32 l) k (m.map U32) = c32 (over l k m) := spl_map U32 m l k h
theorem spl64 {l m : List (BitVec 64)} {k : Nat} (h : k + m.length ≤ l.length) : spl (c64 l) k (m.map U64) = c64 (over l k m) := spl_map U64 m l k h
theorem set_map {α : Type} (f : α → Value) (l : List α) (k : Nat) (x : α) : spl (l.map f).toArray k [f x] = ((l.set k x).map f).toArray := by
  simp only [spl]
  apply Array.ext'
  simp [List.map_set]
theorem set8 (l : List (BitVec 8)) (k : Nat) (x : BitVec 8) : spl (c8 l) k [U8 x] = c8 (l.set k x) := set_map U8 l k x
theorem set32 (l : List (BitVec 32)) (k : Nat) (x : BitVec 32) : spl (c32 l) k [U32 x] = c32 (l.set k x) := set_map U32 l k x
theorem set64 (l : List (BitVec 64)) (k : Nat) (x : BitVec 64) : spl (c64 l) k [U64 x] = c64 (l.set k x) := set_map U64 l k x
theorem ext8 (l : List (BitVec 8)) (a b : Nat) : (c8 l).extract a (a + b) = c8 ((l.drop a).take b) := by
  apply Array.ext'; simp [c8, List.map_take, List.map_drop, List.extract_eq_take_drop]
theorem ext64 (l : List (BitVec 64)) (a b : Nat) : (c64 l).extract a (a + b) = c64 ((l.drop a).take b) := by
  apply Array.ext'; simp [c64, List.map_take, List.map_drop, List.extract_eq_take_drop]
theorem ext32 (l : List (BitVec 32)) (a b : Nat) : (c32 l).extract a (a + b) = c32 ((l.drop a).take b) := by
  apply Array.ext'; simp [c32, List.map_take, List.map_drop, List.extract_eq_take_drop]
theorem one8 (l : List (BitVec 8)) : ∀ u ∈ l.map U8, u.oneCell' = true := fun u hu => by obtain ⟨a, _, rfl⟩ := List.mem_map.1 hu; rfl
theorem one32 (l : List (BitVec 32)) : ∀ u ∈ l.map U32, u.oneCell' = true := fun u hu => by obtain ⟨a, _, rfl⟩ := List.mem_map.1 hu; rfl
theorem one64 (l : List (BitVec 64)) : ∀ u ∈ l.map U64, u.oneCell' = true := fun u hu => by obtain ⟨a, _, rfl⟩ := List.mem_map.1 hu; rfl
theorem one1 {u : Value} (h : u.oneCell' = true) : ∀ u' ∈ [u], u'.oneCell' = true := fun u' hu => by rw [List.mem_singleton.1 hu]; exact h
/-! ### lengths -/
theorem resolve_builtin {ρ : Operand → Value} {bb : Builtin} {args : Array Operand} {ats : Array TypeId} {tt : TypeId} {w : World} :
    (resolve ρ { callee := .builtin bb, args, argTypes := ats } tt).run P w = .ok { target := .builtin bb ats tt (args.map fun | .const _ => true | _ => false), args := args.map ρ } w := rfl
theorem rv_lenS {e len cap : Nat} {a : Option Addr} (ht : P.underlying t = some (.slice e)) (hx : Env.ev E x = some (.slice a len cap)) : RunsV P n S w0 ⟨dst, .call { callee := .builtin .len, args := #[x], argTypes := #[t] }, ty, pos, af, g⟩ E l (vI len) := fun tt w hA _ => by
  simp [execOp, resolve, invoke, builtin, Builtin.len_, hA.ev hx, run_underlying ht, goInt]
theorem rv_lenR {nn size : Nat} {xs : List Value} {e : Nat} (hr : ∀ w, Mem S w0 w l → Rd w u nn size xs) (ht : P.underlying t = some (.slice e)) (hx : Env.ev E x = some u) : RunsV P n S w0 ⟨dst, .call { callee := .builtin .len, args := #[x], argTypes := #[t] }, ty, pos, af, g⟩ E l (vI nn) := fun tt w hA hM => by
  rcases (hr w hM).shape with ⟨h1, h0⟩ | h1
  · subst h0; rw [h1] at hx
    exact rv_lenS (P := P) (n := n) (S := S) (w0 := w0) (dst := dst) (ty := ty) (pos := pos) (af := af) (g := g) (l := l) ht hx tt w hA hM
  · rw [h1] at hx
    exact rv_lenS (P := P) (n := n) (S := S) (w0 := w0) (dst := dst) (ty := ty) (pos := pos) (af := af) (g := g) (l := l) ht hx tt w hA hM
theorem rv_lenB {s : List (BitVec 8)} (ht : P.underlying t = some .string) (hx : Env.ev E x = some (vS s)) : RunsV P n S w0 ⟨dst, .call { callee := .builtin .len, args := #[x], argTypes := #[t] }, ty, pos, af, g⟩ E l (vI s.length) := fun tt w hA _ => by
  simp [execOp, resolve, invoke, builtin, Builtin.len_, hA.ev hx, run_underlying ht, goInt]
end
end Go.Proofs.YtjhjjhpfjadjpaaDoor
