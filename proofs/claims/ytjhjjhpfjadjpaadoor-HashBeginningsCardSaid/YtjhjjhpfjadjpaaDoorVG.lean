/- Helpers: append, copy, make, parts of slices and strings, conversions, calls. -/
import Derived.Test.YtjhjjhpfjadjpaaDoorVF
namespace Go.Proofs.YtjhjjhpfjadjpaaDoor
set_option linter.all false
open Go
section
variable {P : Program} {n : Nat} {S : Nat → Prop} {w0 : World} {E E' : Env} {l l' : List Asn} {Q : Exit → Act → World → Prop} {K : Act → World → Prop} {ops : Array Oper} {rest : List Oper} {o : Oper}
  {dst : Option Tmp} {ty : TypeId} {pos : String} {af : Array Edge} {g : Option (Nat × Bool)} {v u : Value} {d : Nat} {op : Op} {x y : Operand} {t t2 T e : TypeId} {i b off k size bytes : Nat} {cs cs' : Array Value}
  {nn m cap : Nat} {xs news : List Value} {z : Value}
/-! ### append -/
theorem st_append {d2 : TypeDesc} (ht : P.underlying t = some (.slice e)) (ht2 : P.underlying t2 = some d2) (hd2 : d2 = .string ∨ ∃ e2, d2 = .slice e2) (hz : TyZ P e z size bytes) (hzs : z.cells.size = size)
    (hx : Env.ev E x = some v) (hy : Env.ev E y = some u) (hl : l[i]? = some (own v e size nn xs)) (hx1 : ∀ u ∈ xs, u.oneCell' = true) (hsrc : ∀ w, Mem S w0 w l → Src P w size m u news)
    (hb : (nn + m) * bytes ≤ 140737488355328) (hm : nn + m ≤ 9223372036854775807) (hd : d < n) (h : ∀ v', St n S w0 (wpList P ops Q rest) ((d, v') :: E) (l.set i (own v' e size (nn + m) (xs ++ news)))) :
    St n S w0 (wpList P ops Q (⟨some d, .call { callee := .builtin .append, args := #[x, y], argTypes := #[t, t2] }, ty, pos, af, none⟩ :: rest)) E l := fun tt w hA hM => by
  obtain ⟨v', w', hr, ho, h1, h2, h3, h4, h5, h6⟩ := run_append_own' (ty := ty) ht ht2 hd2 hz hzs (hM.holds _ (List.mem_of_getElem? hl)) hx1 (hsrc w hM) hb hm
  have hM' : Mem S w0 w' (l.set i (own v' e size (nn + m) (xs ++ news))) := hM.replace hl h1 h2 h3 h4 h5 ho h6
  refine wpList_run rfl ?_ (h v' _ w' (hA.put hd v') hM')
  simp [execOp, resolve, invoke, builtin, hA.ev hx, hA.ev hy, hr]
/-! ### copy into a block -/
theorem st_copy {dstT srcT : TypeId} {dl dc : Nat} (ht : P.underlying dstT = some (.slice e)) (hi : Sz P e 1) (hx : Env.ev E x = some (sl b off dl dc)) (hy : Env.ev E y = some u)
    (hl : l[i]? = some (blk b cs T)) (hk : off + dl ≤ cs.size) (hsrc : ∀ w, Mem S w0 w l → Src P w 1 m u news) (hcs : spl cs off (news.take (min m dl)) = cs') (hl' : l.set i (blk b cs' T) = l') (hd : d < n)
    (h : St n S w0 (wpList P ops Q rest) ((d, vI (min m dl : Nat)) :: E) l') :
    St n S w0 (wpList P ops Q (⟨some d, .call { callee := .builtin .copy, args := #[x, y], argTypes := #[dstT, srcT] }, ty, pos, af, none⟩ :: rest)) E l := fun tt w hA hM => by
  have hsr := hsrc w hM
  obtain ⟨it, hi, hs⟩ := hi
  obtain ⟨fr, hb, hf⟩ := hM.blkAt hl
  have hlen : (news.take (min m dl)).length = min m dl := by rw [List.length_take, hsr.size]; omega
  obtain ⟨w', hr, U⟩ := run_storeCells_upd (P := P) (b := b) (off := off) (T := T) (news.take (min m dl)) 0 cs fr w hb hf (by rw [hlen]; omega) (fun u hu => hsr.one u (List.mem_of_mem_take hu))
  have hc := hsr.cells (min m dl) (by omega) w rfl
  rw [Nat.mul_one] at hc
  have hM' := hM.upd hl U
  rw [Nat.add_zero, hcs, hl'] at hM'
  refine wpList_run rfl ?_ (h _ w' (hA.put hd _) hM')
  simp [execOp, resolve, invoke, builtin, Builtin.copy_, hA.ev hx, hA.ev hy, run_underlying ht, hsr.len, run_sizeOf hi, hs, show Nat.min m dl = min m dl from rfl, hc, hr, goInt]
/-! ### make -/
theorem madeCells_one (z : Value) (n : Nat) (hz : z.cells = #[z]) : (Array.range n).map (fun x => z.cells[x % z.cells.size]!) = (List.replicate n z).toArray := by
  rw [hz]
  apply Array.ext'
  simp only [Array.toList_map]
  apply List.ext_getElem?
  intro j
  simp
  by_cases h : j < n
  · simp [h, Nat.mod_one]
  · simp [h]
theorem st_make {len cap : Nat} (ht : P.underlying t = some (.slice e)) (hz : TyZ P e z 1 bytes) (hzc : z.cells = #[z]) (hx : Env.ev E x = some (vI len)) (hy : Env.ev E y = some (vI cap)) (hlc : len ≤ cap)
    (hb : cap * bytes ≤ 281474976710656) (hc : cap ≤ 9223372036854775807) (hd : d < n)
    (h : ∀ b, w0.heap.size ≤ b → St n S w0 (wpList P ops Q rest) ((d, sl b 0 len cap) :: E) (blk b (List.replicate cap z).toArray e :: l)) :
    St n S w0 (wpList P ops Q (⟨some d, .makeSlice t x y, ty, pos, af, none⟩ :: rest)) E l := fun tt w hA hM => by
  obtain ⟨i, hi, hz, hs, rfl⟩ := hz
  have hb' : (i.bytes : Int) * (cap : Int) ≤ 281474976710656 := by
    rw [← Int.natCast_mul, Nat.mul_comm]; omega
  have hr : (execOp (Act.eval ⟨tt, []⟩) ⟨some d, .makeSlice t x y, ty, pos, af, none⟩).run P w = .ok (.value (sl w.heap.size 0 len cap)) (w.alloc (.cells (List.replicate cap z).toArray e)) := by
    have hm := run_make (P := P) w t e i z ht hi hz .i64 .i64 len cap (by omega) (by omega) hb' (by omega)
    have e1 : madeCells z.cells ((cap : Int).toNat * i.size) = (List.replicate cap z).toArray := by
      rw [hs, Nat.mul_one, Int.toNat_natCast]; exact madeCells_one z cap hzc
    rw [e1] at hm
    simp [execOp, hA.ev hx, hA.ev hy, hm]
  exact wpList_run rfl hr (h _ hM.size _ _ (hA.put hd _) (hM.alloc _ _))
/-! ### literals -/
def fillL (place : Nat → Option (Nat × Nat)) (cells : Array Value) : List (Nat × Value) → Option (Array Value)
  | [] => some cells
  | (i, v) :: rest =>
    match place i with
    | none => none
    | some (off, size) => if v.cells.size ≠ size || off + v.cells.size > cells.size then none else fillL place (spl cells off v.cells.toList) rest
theorem foldl_spl (l : List Value) : ∀ (cs : Array Value) (off k : Nat), (l.zipIdx k).foldl (fun cs (p : Value × Nat) => cs.setIfInBounds (off + p.2) p.1) cs = spl cs (off + k) l := by
  induction l with
  | nil => intro cs off k; rfl
  | cons v r ih => intro cs off k; simp only [List.zipIdx_cons, List.foldl_cons, ih]; rfl
theorem fill_eq (place : Nat → Option (Nat × Nat)) (parts : List (Nat × Value)) : ∀ cells, Instr.fill place cells parts = fillL place cells parts := by
  induction parts with
  | nil => intro cells; rfl
  | cons p r ih =>
    intro cells
    obtain ⟨i, v⟩ := p
    simp only [Instr.fill, fillL]
    cases place i with
    | none => rfl
    | some q =>
      obtain ⟨off, size⟩ := q
      simp only []
      split
      · rfl
      · rw [ih]
        have e1 := foldl_spl v.cells.toList cells off 0
        rw [← Array.foldl_toList]
        simp only [Array.toList_zipIdx] at e1 ⊢
        rw [Nat.add_zero] at e1
        rw [e1]
def evP (E : Env) : List (Nat × Operand) → Option (List (Nat × Value))
  | [] => some []
  | (i, x) :: r => match Env.ev E x, evP E r with
    | some v, some l => some ((i, v) :: l)
    | _, _ => none
theorem evP_map {tt : Array Value} (hA : Ag n tt E) (ps : List (Nat × Operand)) : ∀ {l}, evP E ps = some l → ps.map (fun p => (p.1, Act.eval ⟨tt, []⟩ p.2)) = l := by
  induction ps with
  | nil => intro l h; simp [evP] at h; subst h; rfl
  | cons p r ih =>
    intro l h
    obtain ⟨i, x⟩ := p
    simp only [evP] at h
    cases hv : Env.ev E x with
    | none => simp [hv] at h
    | some v =>
      cases hr : evP E r with
      | none => simp [hv, hr] at h
      | some l' =>
        simp [hv, hr] at h
        subst h
        simp [ih hr, hA.ev hv]
/-- a slice written out, its elements of one cell -/
theorem st_buildSlice {len : Nat} {ps : List (Nat × Operand)} {vs : List (Nat × Value)} (ht : P.underlying t = some (.slice e)) (hz : TyZ P e z 1 bytes) (hzc : z.cells = #[z]) (hp : evP E ps = some vs) (hlen : len ≤ 16777216)
    (hf : fillL (fun i => some (i * 1, 1)) (List.replicate len z).toArray vs = some cs) (hd : d < n)
    (h : ∀ b, w0.heap.size ≤ b → St n S w0 (wpList P ops Q rest) ((d, sl b 0 len len) :: E) (blk b cs e :: l)) :
    St n S w0 (wpList P ops Q (⟨some d, .buildSlice t len ps.toArray, ty, pos, af, none⟩ :: rest)) E l := fun tt w hA hM => by
  obtain ⟨i, hi, hz, hs, rfl⟩ := hz
  have hev := evP_map hA ps hp
  have hev2 : (ps.toArray.map fun (x : Nat × Operand) => (x.1, Act.eval ⟨tt, []⟩ x.2)).toList = vs := by simpa using hev
  have hm := madeCells_one z len hzc
  have hr : (execOp (Act.eval ⟨tt, []⟩) ⟨some d, .buildSlice t len ps.toArray, ty, pos, af, none⟩).run P w = .ok (.value (sl w.heap.size 0 len len)) (w.alloc (.cells cs e)) := by
    have h24 : ¬ (len * 1 > 2 ^ 24) := by omega
    by_cases h0 : len = 0
    · subst h0
      have hf' : Instr.fill (fun i => some (i, 1)) #[] vs = some cs := by
        rw [fill_eq]; simpa using hf
      simp only [execOp, Instr.buildSlice, Sem.run_bind, run_underlying ht, Result.andThen_ok, run_sizeOf hi, hs, hev2]
      simp [hf', newRow, Array.range_zero']
    · have hf' : Instr.fill (fun i => some (i * 1, 1)) ((Array.range (len * 1)).map (fun x => z.cells[x % z.cells.size]!)) vs = some cs := by
        rw [fill_eq, Nat.mul_one, hm]; exact hf
      simp only [execOp, Instr.buildSlice, Sem.run_bind, run_underlying ht, Result.andThen_ok, run_sizeOf hi, hs, hev2]
      have h0' : ¬ (len * 1 = 0) := by omega
      simp only [h24, h0', if_false, Sem.run_bind, Sem.run_pure, Result.andThen_ok, zeroValue, typeInfo, run_program, hi, hz, hf', newRow, run_newObj]
      rfl
  exact wpList_run rfl hr (h _ hM.size _ _ (hA.put hd _) (hM.alloc _ _))
/-- a struct, written out -/
theorem rv_buildStruct {i : TypeInfo} {fs : Array Field} {ps : List (Nat × Operand)} {vs : List (Nat × Value)} {places : List (Nat × Nat)} (ht : P.underlying t = some (.struct fs)) (hi : P.info? t = some i) (hz : i.zero = some z)
    (hpl : fs.toList.map (fun f => (P.info? f.type).map fun j => (f.offset, j.size)) = places.map some) (hp : evP E ps = some vs) (hf : fillL (fun k => places[k]?) z.cells vs = some cs) :
    RunsV P n S w0 ⟨dst, .build t ps.toArray, ty, pos, af, g⟩ E l (.agg cs) := fun tt w hA _ => by
  have hev := evP_map hA ps hp
  have hev2 : (ps.toArray.map fun (x : Nat × Operand) => (x.1, Act.eval ⟨tt, []⟩ x.2)).toList = vs := by simpa using hev
  have hm : (fs.mapM fun f => do pure (f.offset, ← sizeOf f.type) : Sem (Array (Nat × Nat))).run P w = .ok places.toArray w := by
    have : ∀ (l : List Field) (pl : List (Nat × Nat)), l.map (fun f => (P.info? f.type).map fun j => (f.offset, j.size)) = pl.map some → (l.mapM fun f => do pure (f.offset, ← sizeOf f.type) : Sem (List (Nat × Nat))).run P w = .ok pl w := by
      intro l
      induction l with
      | nil => intro pl h; cases pl <;> simp_all
      | cons f r ih =>
        intro pl h
        cases pl with
        | nil => simp at h
        | cons q pl =>
          simp only [List.map_cons, List.cons.injEq] at h
          obtain ⟨h1, h2⟩ := h
          cases hq : P.info? f.type with
          | none => simp [hq] at h1
          | some j =>
            simp only [hq, Option.map_some, Option.some.injEq] at h1
            subst h1
            simp only [List.mapM_cons, Sem.run_bind, run_sizeOf hq, Result.andThen_ok, Sem.run_pure, ih pl h2]
    have h1 := this fs.toList places hpl
    rw [Array.mapM_eq_mapM_toList]
    simp only [Sem.run_map, h1, Result.andThen_ok]
  have hf' : Instr.fill (fun k => places.toArray[k]?) z.cells vs = some cs := by
    rw [fill_eq]; simpa using hf
  simp only [execOp, Instr.build, Sem.run_bind, zeroValue, typeInfo, run_program, Result.andThen_ok, hi, hz, Sem.run_pure, run_underlying ht, hm, hev2, hf']
/-- an array, written out -/
theorem rv_buildArray {i j : TypeInfo} {len : Nat} {ps : List (Nat × Operand)} {vs : List (Nat × Value)} (ht : P.underlying t = some (.array len e)) (hi : P.info? t = some i) (hz : i.zero = some z) (hj : P.info? e = some j) (hs : j.size = size)
    (hp : evP E ps = some vs) (hf : fillL (fun k => some (k * size, size)) z.cells vs = some cs) : RunsV P n S w0 ⟨dst, .build t ps.toArray, ty, pos, af, g⟩ E l (.agg cs) := fun tt w hA _ => by
  have hev := evP_map hA ps hp
  have hev2 : (ps.toArray.map fun (x : Nat × Operand) => (x.1, Act.eval ⟨tt, []⟩ x.2)).toList = vs := by simpa using hev
  have hf' : Instr.fill (fun k => some (k * size, size)) z.cells vs = some cs := by rw [fill_eq]; exact hf
  simp only [execOp, Instr.build, Sem.run_bind, zeroValue, typeInfo, run_program, Result.andThen_ok, hi, hz, Sem.run_pure, run_underlying ht, run_sizeOf hj, hs, hev2, hf']
end
end Go.Proofs.YtjhjjhpfjadjpaaDoor
