/- Helpers: parts of slices and strings, conversions, strings, calls. -/
import Derived.Test.YtjhjjhpfjadjpaaDoorVG
namespace Go.Proofs.YtjhjjhpfjadjpaaDoor
set_option linter.all false
open Go
section
variable {P : Program} {n : Nat} {S : Nat → Prop} {w0 : World} {E E' : Env} {l l' : List Asn} {Q : Exit → Act → World → Prop} {K : Act → World → Prop} {ops : Array Oper} {rest : List Oper} {o : Oper}
  {dst : Option Tmp} {ty : TypeId} {pos : String} {af : Array Edge} {g : Option (Nat × Bool)} {v u : Value} {d : Nat} {op : Op} {x y : Operand} {t t2 T e : TypeId} {i b off k size bytes : Nat} {cs cs' : Array Value}
  {nn m cap : Nat} {xs news : List Value} {z : Value}
/-! ### parts -/
/-- what an optional bound says: lo (else 0), hi (else the length) -/
def evB (E : Env) (dflt : Nat) : Option Operand → Nat → Prop
  | none, k => k = dflt
  | some x, k => ∃ kk, Env.ev E x = some (.int kk (k : Int))
theorem evB_none {k : Nat} : evB E k none k := rfl
theorem evB_some {dflt k : Nat} {x : Operand} {kk : IntKind} {zz : Int} (h : Env.ev E x = some (.int kk zz)) (hz : zz = (k : Int)) : evB E dflt (some x) k := ⟨kk, by rw [h, hz]⟩
theorem run_bound {w : World} {tt : Array Value} (hA : Ag n tt E) {dflt k y : Nat} {x : Option Operand} (h : evB E dflt x k) (hk : k ≤ y) (c : BoundsCode) :
    (match x.map (Act.eval ⟨tt, []⟩) with | some v => Instr.sliceBound v y c | none => pure dflt).run P w = .ok k w := by
  cases x with
  | none => obtain rfl : k = dflt := h; rfl
  | some x =>
    obtain ⟨kk, h⟩ := h
    have h1 : (0 : Int) ≤ (k : Int) ∧ (k : Int) ≤ (y : Int) := by omega
    simp only [Option.map_some, hA.ev h, Instr.sliceBound, asIntOf, Sem.run_bind, Sem.run_pure, Result.andThen_ok, if_pos h1, Int.toNat_natCast]
theorem run_bounds {w : World} {tt : Array Value} (hA : Ag n tt E) {lo hi len cap : Nat} {xl xh : Option Operand} {isS : Bool} (hl : evB E 0 xl lo) (hh : evB E len xh hi) (h1 : lo ≤ hi) (h2 : hi ≤ cap) (hlen : len ≤ cap) :
    (Instr.sliceBounds isS len cap (xl.map (Act.eval ⟨tt, []⟩)) (xh.map (Act.eval ⟨tt, []⟩)) none).run P w = .ok (lo, hi, cap) w := by
  have r1 : ∀ c, (match xh.map (Act.eval ⟨tt, []⟩) with | some v => Instr.sliceBound v cap c | none => pure len).run P w = .ok hi w := fun c => run_bound hA hh h2 c
  have r2 : ∀ c, (match xl.map (Act.eval ⟨tt, []⟩) with | some v => Instr.sliceBound v hi c | none => pure 0).run P w = .ok lo w := fun c => run_bound hA hl h1 c
  unfold Instr.sliceBounds
  cases xh with
  | none =>
    have e1 := r1 .sliceB
    cases xl with
    | none =>
      have e2 := r2 .sliceB
      simp_all
    | some x =>
      have e2 := r2 .sliceB
      simp_all
  | some y =>
    have e1 := r1 (if isS then .sliceAcap else .sliceAlen)
    cases xl with
    | none =>
      have e2 := r2 .sliceB
      simp_all
    | some x =>
      have e2 := r2 .sliceB
      simp_all
theorem vsub_eq (a : Option Addr) (len cap lo hi size : Nat) : vsub (.slice a len cap) lo hi size = .slice (if cap = lo then a else a.map (·.add (lo * size))) (hi - lo) (cap - lo) := rfl
/-- part of a slice that is read -/
theorem rv_sliceR {lo hi : Nat} {xl xh : Option Operand} (hr : ∀ w, Mem S w0 w l → Rd w u nn size xs) (ht : P.underlying t = some (.slice e)) (hi' : Sz P e size) (hx : Env.ev E x = some u)
    (hl : evB E 0 xl lo) (hh : evB E nn xh hi) (h1 : lo ≤ hi) (h2 : hi ≤ nn) : RunsV P n S w0 ⟨dst, .slice t x xl xh none, ty, pos, af, g⟩ E l (vsub u lo hi size) := fun tt w hA hM => by
  have hR := hr w hM
  obtain ⟨it, hi', hs⟩ := hi'
  have hcap := hR.cap
  have key : ∀ (a : Option Addr) (c : Nat), u = .slice a nn c → nn ≤ c → (execOp (Act.eval ⟨tt, []⟩) ⟨dst, .slice t x xl xh none, ty, pos, af, g⟩).run P w = .ok (.value (vsub u lo hi size)) w := by
    intro a c hu hc
    rw [hu] at hx ⊢
    have hb := run_bounds (P := P) (w := w) (isS := true) (cap := c) hA hl hh h1 (by omega) hc
    simp only [execOp, Instr.sliceAt, Sem.run_bind, run_underlying ht, Result.andThen_ok, hA.ev hx, Instr.slice, Option.map_none, hb, run_sizeOf hi', hs, Sem.run_pure, vsub_eq]
  rcases hR.shape with ⟨h3, h4⟩ | h3
  · exact key none 0 (by rw [h4]; exact h3) (by omega)
  · exact key _ _ h3 hcap
/-- part of an array in memory -/
theorem rv_sliceA {len lo hi : Nat} {xl xh : Option Operand} (ht : P.underlying t = some (.array len e)) (hi' : Sz P e size) (hx : Env.ev E x = some (pt b off))
    (hl : evB E 0 xl lo) (hh : evB E len xh hi) (h1 : lo ≤ hi) (h2 : hi ≤ len) (h3 : lo < len) {k : Nat} (hk : off + lo * size = k) : RunsV P n S w0 ⟨dst, .slice t x xl xh none, ty, pos, af, g⟩ E l (sl b k (hi - lo) (len - lo)) := fun tt w hA hM => by
  subst hk
  obtain ⟨it, hi', hs⟩ := hi'
  have hb := run_bounds (P := P) (w := w) (isS := false) (cap := len) hA hl hh h1 h2 (Nat.le_refl _)
  have hne : ¬ (len = lo) := by omega
  simp only [execOp, Instr.sliceAt, Sem.run_bind, run_underlying ht, Result.andThen_ok, hA.ev hx, Instr.sureAddr, Option.map_none, hb, run_sizeOf hi', hs, Sem.run_pure, hne, if_false, Addr.add_lit]
/-- part of a string -/
theorem rv_sliceB {s : List (BitVec 8)} {lo hi : Nat} {xl xh : Option Operand} (ht : P.underlying t = some .string) (hx : Env.ev E x = some (vS s))
    (hl : evB E 0 xl lo) (hh : evB E s.length xh hi) (h1 : lo ≤ hi) (h2 : hi ≤ s.length) : RunsV P n S w0 ⟨dst, .slice t x xl xh none, ty, pos, af, g⟩ E l (vS ((s.drop lo).take (hi - lo))) := fun tt w hA hM => by
  have hb := run_bounds (P := P) (w := w) (isS := false) (cap := s.length) hA hl hh h1 h2 (Nat.le_refl _)
  have e1 : (vB s).extract lo hi = vB ((s.drop lo).take (hi - lo)) := by
    apply ByteArray.ext
    rw [ByteArray.data_extract]
    apply Array.ext'
    simp only [vB, Array.toList_extract, List.extract_eq_take_drop, List.map_take, List.map_drop]
  simp only [execOp, Instr.sliceAt, Sem.run_bind, run_underlying ht, Result.andThen_ok, hA.ev hx, Instr.slice, Option.map_none, Option.isSome_none, Bool.false_eq_true, if_false, Sem.run_pure, size_vB, hb, e1]
/-- a[lo:hi:mx] of a slice that is read -/
def vsub3 (v : Value) (lo hi mx : Nat) (size : Nat) : Value :=
  match v with
  | .slice a _ _ => .slice (if mx = lo then a else a.map (·.add (lo * size))) (hi - lo) (mx - lo)
  | v => v
/-! ### conversions -/
theorem run_bytes {w : World} {s : List (BitVec 8)} (he : P.underlying e = some (.int .u8)) : ∃ w' cap, (Conv.stringToBytes e (vB s)).run P w = .ok (sl w.heap.size 0 s.length cap) w' ∧ s.length ≤ cap ∧
    (own (sl w.heap.size 0 s.length cap) e 1 s.length (s.map U8)).holds w' ∧ w'.os = w.os ∧ w'.tape = w.tape ∧ w'.output = w.output ∧ w.heap.size ≤ w'.heap.size ∧ ∀ b, b < w.heap.size → w'.heap[b]? = w.heap[b]? := by
  have hfo : ∀ a b c, (Question.appendCap a b c).forced = false := fun _ _ _ => rfl
  have hge := grownCap_ge w s.length 0 e
  have hcs : ((vB s).data.map fun b => Value.int .u8 b.toNat) = c8 s := by
    apply Array.ext'
    simp only [vB, c8, Array.toList_map, List.map_map]
    rfl
  let cs : Array Value := c8 s ++ Array.replicate (grownCap w s.length 0 e - s.length) (.int .u8 0)
  have hsz : cs.size = grownCap w s.length 0 e := by simp [cs]; omega
  let w1 := w.drew.alloc (.cells cs e)
  have hsh : w1.shape? w.heap.size = some (e, cs.size) := by
    have : w1.heap[w.heap.size]? = some (.cells cs e) := heap_alloc_new w.drew _
    simp [World.shape?, this]
  let w2 := w1.freeze { block := w.heap.size, off := cs.size } 1
  have hw2 : w2.heap[w.heap.size]? = some (.cells cs e (cs.size, cs.size + 1)) := by
    have : w1.heap[w.heap.size]? = some (.cells cs e) := heap_alloc_new w.drew _
    simp [w2, World.freeze, Array.getElem?_modify, this]
  have hold : ∀ b, b < w.heap.size → w2.heap[b]? = w.heap[b]? := fun b hb => by
    have h1 : w1.heap[b]? = w.heap[b]? := Go.RowKit.Below.heap_alloc w.drew _ b hb
    have h2 : w2.heap[b]? = w1.heap[b]? := by
      simp only [w2, World.freeze, Nat.one_ne_zero, if_false, Array.getElem?_modify]
      rw [if_neg (by omega)]
    exact h2.trans h1
  refine ⟨w2, grownCap w s.length 0 e, ?_, hge, ⟨by simp, .inr ⟨cs, _, rfl, hge, by simp [vcap, voff, hsz], hw2, fun i hi h => by omega, fun j uu hj => ?_⟩⟩, rfl, rfl, rfl, ?_, hold⟩
  · have hsh' : w1.shape? w.heap.size = some (e, cs.size) := hsh
    have e0 : (choose (.appendCap s.length 0 e)).run P w = .ok (grownCap w s.length 0 e) w.drew := by simp [run_choose, hfo, grownCap]
    have e2 : (newRow e cs).run P w.drew = .ok ⟨w.heap.size, 0, none⟩ w1 := rfl
    have e3 : (markStringish ⟨w.heap.size, 0, none⟩).run P w1 = .ok () w2 := by
      simp only [markStringish, Sem.run_bind, run_shape, hsh', Result.andThen_ok, run_freeze]
      rfl
    simp only [Conv.stringToBytes, Sem.run_bind, size_vB, e0, Result.andThen_ok, hcs]
    rw [show (c8 s ++ Array.replicate (grownCap w s.length 0 e - s.length) (.int .u8 0)) = cs from rfl, e2]
    simp only [Result.andThen_ok, e3, Sem.run_pure]
  · simp only [voff, Nat.zero_add]
    have hjl : j < s.length := by have := (List.getElem?_eq_some_iff.1 hj).1; simpa using this
    rw [Array.getElem?_append_left (by simpa using hjl)]
    simpa [c8] using hj
  · have : w2.heap.size = w.heap.size + 1 := by simp [w2, World.freeze, w1]
    omega
/-- []byte(s) -/
theorem st_bytes {s : List (BitVec 8)} (ht : P.underlying t = some .string) (ht2 : P.underlying t2 = some (.slice e)) (he : P.underlying e = some (.int .u8)) (hx : Env.ev E x = some (vS s)) (hd : d < n)
    (h : ∀ v', St n S w0 (wpList P ops Q rest) ((d, v') :: E) (own v' e 1 s.length (s.map U8) :: l)) :
    St n S w0 (wpList P ops Q (⟨some d, .convert t t2 x, ty, pos, af, none⟩ :: rest)) E l := fun tt w hA hM => by
  obtain ⟨w', cap, hr, _, ho, h1, h2, h3, h4, h5⟩ := run_bytes (P := P) (w := w) (s := s) he
  have hM' : Mem S w0 w' (own (sl w.heap.size 0 s.length cap) e 1 s.length (s.map U8) :: l) := hM.add h1 h2 h3 h4 h5 ho (fun b hb => Nat.le_of_eq hb.symm)
  refine wpList_run rfl ?_ (h _ _ w' (hA.put hd _) hM')
  have hc : (convert t t2 (vS s)).run P w = .ok (sl w.heap.size 0 s.length cap) w' := by
    unfold convert
    simp only [Sem.run_bind, run_underlying ht, run_underlying ht2, Result.andThen_ok, run_underlying he, hr]
  simp [execOp, hA.ev hx, hc]
/-- string(b) -/
theorem rv_string {s : List (BitVec 8)} (hr : ∀ w, Mem S w0 w l → Rd w u nn 1 (s.map U8)) (ht : P.underlying t = some (.slice e)) (ht2 : P.underlying t2 = some .string) (he : P.underlying e = some (.int .u8)) (hx : Env.ev E x = some u) :
    RunsV P n S w0 ⟨dst, .convert t t2 x, ty, pos, af, g⟩ E l (vS s) := fun tt w hA hM => by
  have hR := hr w hM
  have hlen : s.length = nn := by have := hR.len; simpa using this
  have hc : (convert t t2 u).run P w = .ok (vS s) w := by
    unfold convert
    simp only [Sem.run_bind, run_underlying ht, run_underlying ht2, Result.andThen_ok]
    rcases hR.shape with ⟨h3, h4⟩ | h3
    · subst h4
      have : s = [] := List.eq_nil_of_length_eq_zero hlen
      subst this
      rw [h3]
      simp only [Sem.run_bind, run_underlying he, Result.andThen_ok, Conv.bytesToString]
      rfl
    · have hlc := src_rd (P := P) hR (fun u hu => by obtain ⟨a, _, rfl⟩ := List.mem_map.1 hu; rfl)
      have h5 := src_one hlc (w' := w) rfl
      rw [h3] at h5 ⊢
      simp only [Builtin.firstCells, Nat.mul_one] at h5
      have h6 := run_bytesToString (P := P) w ⟨vblk u, voff u, none⟩ nn (vcap u) (s.map fun a => (a.toNat : Int)) (by
        rw [h5]; congr 1; rw [List.map_map]; rfl)
      have h7 : (s.map fun a => (a.toNat : Int)).foldl (fun r n => r.push (UInt8.ofNat n.toNat)) ByteArray.empty = vB s := by
        rw [foldl_push_bytes]
        apply ByteArray.ext
        apply Array.ext'
        simp only [vB, List.map_map]
        have : ((fun (n : Int) => UInt8.ofNat n.toNat) ∘ fun (a : BitVec 8) => (a.toNat : Int)) = UInt8.ofBitVec := by
          funext a
          apply UInt8.toNat_inj.1
          simp
        rw [this]
        simp
      rw [h7] at h6
      simp only [Sem.run_bind, run_underlying he, Result.andThen_ok]
      exact h6
  simp [execOp, hA.ev hx, hc]
/-! ### strings -/
theorem rv_concat {a c : List (BitVec 8)} {xt yt : TypeId} (hx : Env.ev E x = some (vS a)) (hy : Env.ev E y = some (vS c)) (h : a.length + c.length ≤ 9223372036854775807) : RunsV P n S w0 ⟨dst, .binOp .add xt x y yt, ty, pos, af, g⟩ E l (vS (a ++ c)) := fun tt w hA _ => by
  have e0 : eqGuard .add xt x y (vS a) (vS c) = pure () := rfl
  have e1 : vB a ++ vB c = vB (a ++ c) := by
    apply ByteArray.ext
    simp [vB, ByteArray.data_append]
  have h2 : ¬ ((((vB a).size + (vB c).size : Nat) : Int) > IntKind.i64.max) := by rw [IntKind.max_i64, size_vB, size_vB]; omega
  simp only [execOp, hA.ev hx, hA.ev hy, e0, binOp, Op.stringOp, h2, if_false, e1]
  rfl
theorem vB_eq (a c : List (BitVec 8)) : ((vB a).toList == (vB c).toList) = decide (a = c) := by
  have h1 : ∀ b : ByteArray, b.toList = b.data.toList := fun b => by rw [Go.ByteArray.toList_eq]
  rw [Bool.eq_iff_iff]
  simp only [beq_iff_eq, decide_eq_true_eq]
  constructor
  · intro h
    rw [h1, h1] at h
    exact vB_inj (ByteArray.ext (Array.ext' h))
  · intro h; rw [h]
theorem rv_eqlB {a c : List (BitVec 8)} {xt yt : TypeId} (hx : Env.ev E x = some (vS a)) (hy : Env.ev E y = some (vS c)) : RunsV P n S w0 ⟨dst, .binOp .eql xt x y yt, ty, pos, af, g⟩ E l (.bool (decide (a = c))) := fun tt w hA _ => by
  have e0 : eqGuard .eql xt x y (vS a) (vS c) = pure () := rfl
  simp only [execOp, hA.ev hx, hA.ev hy, e0, binOp, Op.stringOp, vB_eq]
  rfl
theorem rv_neqB {a c : List (BitVec 8)} {xt yt : TypeId} (hx : Env.ev E x = some (vS a)) (hy : Env.ev E y = some (vS c)) : RunsV P n S w0 ⟨dst, .binOp .neq xt x y yt, ty, pos, af, g⟩ E l (.bool (!decide (a = c))) := fun tt w hA _ => by
  have e0 : eqGuard .neq xt x y (vS a) (vS c) = pure () := rfl
  simp only [execOp, hA.ev hx, hA.ev hy, e0, binOp, Op.stringOp, vB_eq]
  rfl
/-! ### calls -/
def evs (E : Env) : List Operand → Option (List Value)
  | [] => some []
  | x :: r => match Env.ev E x, evs E r with
    | some v, some l => some (v :: l)
    | _, _ => none
theorem evs_map {tt : Array Value} (hA : Ag n tt E) (ps : List Operand) : ∀ {l}, evs E ps = some l → ps.map (Act.eval ⟨tt, []⟩) = l := by
  induction ps with
  | nil => intro l h; simp [evs] at h; subst h; rfl
  | cons x r ih =>
    intro l h
    simp only [evs] at h
    cases hv : Env.ev E x with
    | none => simp [hv] at h
    | some v =>
      cases hr : evs E r with
      | none => simp [hv, hr] at h
      | some l' =>
        simp [hv, hr] at h
        subst h
        simp [ih hr, hA.ev hv]
/-- a function that is called by its name -/
def Callable (P : Program) (f : FuncId) : Prop := ∃ fn, P.funcs[f]? = some fn ∧ (fn.name == "runtime.NumGoroutine") = false ∧ fn.body.isNone = false
theorem run_call {w : World} {tt : Array Value} {f : FuncId} {as : List Operand} {vs : List Value} {ats : Array TypeId} (hA : Ag n tt E) (hf : Callable P f) (hv : evs E as = some vs) :
    (execOp (Act.eval ⟨tt, []⟩) ⟨dst, .call { callee := .value (.func f), args := as.toArray, argTypes := ats }, ty, pos, af, g⟩).run P w = .ok (.enter f vs.toArray) w := by
  obtain ⟨fn, h1, h2, h3⟩ := hf
  have h4 := evs_map hA as hv
  have h5 : (callFunc f vs.toArray).run P w = .ok (.enter f vs.toArray) w := by
    simp only [callFunc, Sem.run_bind, run_program, Result.andThen_ok, h1, h2, h3, Bool.false_eq_true, if_false, Sem.run_pure]
  simp [execOp, resolve, Act.eval, Deferred.ofValue, invoke, h4, h5]
theorem wpList_call {a : Act} {w w' : World} {f : FuncId} {args : Array Value} (hg : o.guard = none) (hr : (execOp a.eval o).run P w = .ok (.enter f args) w')
    (h : Calls P f args w' fun e w'' => ∃ v, e = .returned v ∧ wpList P ops Q rest (a.put o.dst v) w'') : wpList P ops Q (o :: rest) a w := by
  refine wpList_plain hg fun K hK => ?_
  unfold Oper.wp
  rw [hr, Oper.upon_enter]
  refine h.mono fun e w'' he => ?_
  obtain ⟨v, rfl, hv⟩ := he
  exact hK _ _ hv
/-- WHAT A CALL LEAVES: a value V r, memory L r in the place of lm. -/
theorem st_call {ρ : Type} {f : FuncId} {as : List Operand} {vs : List Value} {ats : Array TypeId} (V : ρ → Value) (I : ρ → Prop) (L : ρ → List Asn) {ms : World → Nat → Prop} {lm lf : List Asn} (hf : Callable P f) (hv : evs E as = some vs) (hl : l.Perm (lm ++ lf))
    (C : ∀ w, Mem S w0 w l → (∀ b, ms w b → ∃ x ∈ lm, x.turn b) ∧ Calls P f vs.toArray w fun e w' => ∃ r, e = .returned (V r) ∧ I r ∧ Mem (Old w (ms w)) w w' (L r)) (hd : d < n)
    (h : ∀ r, I r → St n S w0 (wpList P ops Q rest) ((d, V r) :: E) (L r ++ lf)) :
    St n S w0 (wpList P ops Q (⟨some d, .call { callee := .value (.func f), args := as.toArray, argTypes := ats }, ty, pos, af, none⟩ :: rest)) E l := fun tt w hA hM => by
  obtain ⟨h1, h2⟩ := C w hM
  refine wpList_call rfl (run_call hA hf hv) (h2.mono fun e w' he => ?_)
  obtain ⟨r, rfl, hI, hM'⟩ := he
  exact ⟨_, rfl, h r hI _ w' (hA.put hd _) (Mem.frame (hM.perm hl) h1 hM')⟩
/-- a call that leaves memory as it was -/
theorem st_call0 {f : FuncId} {as : List Operand} {vs : List Value} {ats : Array TypeId} (hf : Callable P f) (hv : evs E as = some vs)
    (C : ∀ w, Mem S w0 w l → Calls P f vs.toArray w fun e w' => e = .returned v ∧ Mem (All w) w w' []) (hd : d < n)
    (h : St n S w0 (wpList P ops Q rest) ((d, v) :: E) l) :
    St n S w0 (wpList P ops Q (⟨some d, .call { callee := .value (.func f), args := as.toArray, argTypes := ats }, ty, pos, af, none⟩ :: rest)) E l := fun tt w hA hM => by
  refine wpList_call rfl (run_call hA hf hv) ((C w hM).mono fun e w' he => ?_)
  obtain ⟨rfl, hM'⟩ := he
  exact ⟨_, rfl, h _ w' (hA.put hd _) (hM.call hM')⟩
/-- a call that makes new memory -/
theorem st_call1 {ρ : Type} {f : FuncId} {as : List Operand} {vs : List Value} {ats : Array TypeId} (V : ρ → Value) (I : ρ → Prop) (L : ρ → List Asn) (hf : Callable P f) (hv : evs E as = some vs)
    (C : ∀ w, Mem S w0 w l → Calls P f vs.toArray w fun e w' => ∃ r, e = .returned (V r) ∧ I r ∧ Mem (All w) w w' (L r)) (hd : d < n)
    (h : ∀ r, I r → St n S w0 (wpList P ops Q rest) ((d, V r) :: E) (L r ++ l)) :
    St n S w0 (wpList P ops Q (⟨some d, .call { callee := .value (.func f), args := as.toArray, argTypes := ats }, ty, pos, af, none⟩ :: rest)) E l := fun tt w hA hM => by
  refine wpList_call rfl (run_call hA hf hv) ((C w hM).mono fun e w' he => ?_)
  obtain ⟨r, rfl, hI, hM'⟩ := he
  exact ⟨_, rfl, h r hI _ w' (hA.put hd _) (hM.call hM')⟩
/-- a call for what it writes: no result -/
theorem st_callM {f : FuncId} {as : List Operand} {vs : List Value} {ats : Array TypeId} {ms : World → Nat → Prop} {lm lm' lf : List Asn} (hf : Callable P f) (hv : evs E as = some vs) (hl : l.Perm (lm ++ lf))
    (C : ∀ w, Mem S w0 w l → (∀ b, ms w b → ∃ x ∈ lm, x.turn b) ∧ Calls P f vs.toArray w fun e w' => e = .returned (.tuple #[]) ∧ Mem (Old w (ms w)) w w' lm')
    (h : St n S w0 (wpList P ops Q rest) E (lm' ++ lf)) :
    St n S w0 (wpList P ops Q (⟨none, .call { callee := .value (.func f), args := as.toArray, argTypes := ats }, ty, pos, af, none⟩ :: rest)) E l := fun tt w hA hM => by
  obtain ⟨h1, h2⟩ := C w hM
  refine wpList_call rfl (run_call hA hf hv) (h2.mono fun e w' he => ?_)
  obtain ⟨rfl, hM'⟩ := he
  exact ⟨_, rfl, h _ w' hA (Mem.frame (hM.perm hl) h1 hM')⟩
end
end Go.Proofs.YtjhjjhpfjadjpaaDoor
