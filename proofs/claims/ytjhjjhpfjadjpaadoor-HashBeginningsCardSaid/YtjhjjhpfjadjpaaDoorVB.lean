/- Helpers: what each operation of the program does, as a rule. -/
import Derived.Test.YtjhjjhpfjadjpaaDoorVA
namespace Go.Proofs.YtjhjjhpfjadjpaaDoor
set_option linter.all false
open Go

/-! ### values -/
abbrev vI (z : Int) : Value := .int .i64 z
abbrev U8 (x : BitVec 8) : Value := .int .u8 (x.toNat : Int)
abbrev U32 (x : BitVec 32) : Value := .int .u32 (x.toNat : Int)
abbrev U64 (x : BitVec 64) : Value := .int .u64 (x.toNat : Int)
abbrev pt (b off : Nat) : Value := .pointer (some ⟨b, off, none⟩)
abbrev sl (b off len cap : Nat) : Value := .slice (some ⟨b, off, none⟩) len cap
def c8 (l : List (BitVec 8)) : Array Value := (l.map U8).toArray
def c32 (l : List (BitVec 32)) : Array Value := (l.map U32).toArray
def c64 (l : List (BitVec 64)) : Array Value := (l.map U64).toArray
/-- the string of some bytes -/
def vB (l : List (BitVec 8)) : ByteArray := ⟨(l.map UInt8.ofBitVec).toArray⟩
abbrev vS (l : List (BitVec 8)) : Value := .string (vB l)
@[simp] theorem size_c8 (l : List (BitVec 8)) : (c8 l).size = l.length := by simp [c8]
@[simp] theorem size_c32 (l : List (BitVec 32)) : (c32 l).size = l.length := by simp [c32]
@[simp] theorem size_c64 (l : List (BitVec 64)) : (c64 l).size = l.length := by simp [c64]
@[simp] theorem size_vB (l : List (BitVec 8)) : (vB l).size = l.length := by simp [vB, ByteArray.size]
theorem vB_surj (s : ByteArray) : ∃ l : List (BitVec 8), s = vB l := by
  refine ⟨s.data.toList.map UInt8.toBitVec, ?_⟩
  have : (List.map UInt8.ofBitVec (List.map UInt8.toBitVec s.data.toList)) = s.data.toList := by
    rw [List.map_map]
    have : (UInt8.ofBitVec ∘ UInt8.toBitVec) = id := by funext x; rfl
    rw [this]; simp
  cases s with | mk d => simp only [vB, this, Array.toArray_toList]
theorem vB_inj {a b : List (BitVec 8)} (h : vB a = vB b) : a = b := by
  have h1 : (a.map UInt8.ofBitVec) = (b.map UInt8.ofBitVec) := by
    have : (vB a).data.toList = (vB b).data.toList := by rw [h]
    simpa [vB] using this
  exact (List.map_inj_right (fun x y h => by cases h; rfl)).1 h1

/-! ### keeping some slots -/
def Env.keep : List Nat → List (Nat × Value) → List (Nat × Value)
  | [], _ => []
  | k :: ks, E => match Env.get E k with
    | some v => (k, v) :: Env.keep ks E
    | none => Env.keep ks E

section
variable (P : Program) (n : Nat) (S : Nat → Prop) (w0 : World)
def RunsV (o : Oper) (E : Env) (l : List Asn) (v : Value) : Prop :=
  ∀ t w, Ag n t E → Mem S w0 w l → (execOp (Act.eval ⟨t, []⟩) o).run P w = .ok (.value v) w
end
section
variable {P : Program} {n : Nat} {S : Nat → Prop} {w0 : World} {E E' : Env} {l l' : List Asn} {Q : Exit → Act → World → Prop} {K : Act → World → Prop} {ops : Array Oper} {rest : List Oper} {o : Oper}
  {dst : Option Tmp} {ty : TypeId} {pos : String} {af : Array Edge} {g : Option (Nat × Bool)} {v u : Value} {d : Nat} {op : Op}

theorem wpList_run {a : Act} {w w' : World} {v : Value} (hg : o.guard = none) (hr : (execOp a.eval o).run P w = .ok (.value v) w') (h : wpList P ops Q rest (a.put o.dst v) w') : wpList P ops Q (o :: rest) a w := by
  refine wpList_plain hg fun K hK => ?_
  unfold Oper.wp
  rw [hr]
  exact hK _ _ h
theorem wpList_runU {a : Act} {w w' : World} (hg : o.guard = none) (hr : (execOp a.eval o).run P w = .ok .skip w') (h : wpList P ops Q rest (a.put o.dst undef) w') : wpList P ops Q (o :: rest) a w := by
  refine wpList_plain hg fun K hK => ?_
  unfold Oper.wp
  rw [hr]
  exact hK _ _ h
theorem st_v (hr : RunsV P n S w0 ⟨some d, op, ty, pos, af, none⟩ E l v) (hd : d < n) (h : St n S w0 (wpList P ops Q rest) ((d, v) :: E) l) :
    St n S w0 (wpList P ops Q (⟨some d, op, ty, pos, af, none⟩ :: rest)) E l := fun t w hA hM => wpList_run rfl (hr t w hA hM) (h _ _ (hA.put hd v) hM)
/-- a guard -/
theorem yielded_of {t : Array Value} {j s : Nat} {b : Bool} (hA : Ag n t E) (hj : (ops[j]?).bind (·.dst) = some s) (hs : Env.get E s = some (.bool b)) : yielded ops t j = some b := by
  have := hA.get s _ hs
  simp [yielded, hj, this]
theorem st_gskip {j s : Nat} {b want : Bool} (hj : (ops[j]?).bind (·.dst) = some s) (hs : Env.get E s = some (.bool b)) (hne : (b == want) = false) (hd : d < n)
    (h : St n S w0 (wpList P ops Q rest) ((d, undef) :: E) l) : St n S w0 (wpList P ops Q (⟨some d, op, ty, pos, af, some (j, want)⟩ :: rest)) E l := fun t w hA hM => by
  refine wpList_skip ?_ (h _ _ (hA.put hd undef) hM)
  have := yielded_of (ops := ops) hA hj hs
  simp only [Region.wanted, this]
  cases b <;> cases want <;> simp_all
theorem st_gon {j s : Nat} {b : Bool} (hj : (ops[j]?).bind (·.dst) = some s) (hs : Env.get E s = some (.bool b))
    (h : St n S w0 (wpList P ops Q (⟨dst, op, ty, pos, af, none⟩ :: rest)) E l) : St n S w0 (wpList P ops Q (⟨dst, op, ty, pos, af, some (j, b)⟩ :: rest)) E l := fun t w hA hM => by
  have h1 := h t w hA hM
  have hy := yielded_of (ops := ops) hA hj hs
  have hw : Region.wanted ⟨dst, op, ty, pos, af, some (j, b)⟩ (yielded ops t) = true := by simp [Region.wanted, hy]
  unfold wpList at h1 ⊢
  rw [if_pos (by simp [Region.wanted])] at h1
  rw [if_pos hw]
  exact h1
theorem st_split {s : Nat} {b : Bool} (hs : Env.get E s = some (.bool b)) (ht : b = true → St n S w0 K ((s, .bool true) :: E) l) (hf : b = false → St n S w0 K ((s, .bool false) :: E) l) : St n S w0 K E l := fun t w hA hM => by
  cases b with
  | true => exact ht rfl t w (hA.ext (hA.get s _ hs)) hM
  | false => exact hf rfl t w (hA.ext (hA.get s _ hs)) hM
theorem wpList_append {L1 L2 : List Oper} : ∀ {a : Act} {w : World}, wpList P ops (Exit.then (wpList P ops Q L2) Q) L1 a w → wpList P ops Q (L1 ++ L2) a w := by
  induction L1 with
  | nil => intro a w h; exact h
  | cons o r ih =>
    intro a w h
    simp only [List.cons_append]
    unfold wpList at h ⊢
    split
    · rename_i hw
      rw [if_pos hw] at h
      rcases h with h | ⟨h1, a', w', h2⟩
      · refine .inl ?_
        unfold Oper.wp at *
        generalize (execOp a.eval o).run P w = rr at *
        cases rr with
        | ok nx w' =>
          cases nx <;> simp only [Oper.upon] at h ⊢
          case value u => exact ih h
          case skip => exact ih h
          case defer dd => exact ih h
          case enter f args =>
            refine h.mono fun e w'' he => ?_
            cases e with
            | returned v => exact ih he
            | panicked ch => exact he
            | outgrown => exact he
          case row rw args => exact h.mono fun v w'' he => ih he
        | halt x w' => cases x <;> simp only [Oper.upon] at h ⊢; exact h
      · exact .inr ⟨h1, a', w', h2⟩
    · rename_i hw
      rw [if_neg hw] at h
      exact ih h
theorem wpList_mono {Q Q' : Exit → Act → World → Prop} (hQ : ∀ e a w, Q e a w → Q' e a w) {L : List Oper} : ∀ {a : Act} {w : World}, wpList P ops Q L a w → wpList P ops Q' L a w := by
  induction L with
  | nil => intro a w h; exact hQ _ _ _ h
  | cons o r ih =>
    intro a w h
    unfold wpList at h ⊢
    split
    · rename_i hw
      rw [if_pos hw] at h
      rcases h with h | ⟨h1, a', w', h2⟩
      · refine .inl ?_
        unfold Oper.wp at *
        generalize (execOp a.eval o).run P w = rr at *
        cases rr with
        | ok nx w' =>
          cases nx <;> simp only [Oper.upon] at h ⊢
          case value u => exact ih h
          case skip => exact ih h
          case defer dd => exact ih h
          case enter f args =>
            refine h.mono fun e w'' he => ?_
            cases e with
            | returned v => exact ih he
            | panicked ch => exact hQ _ _ _ he
            | outgrown => obtain ⟨a, w, h⟩ := he; exact ⟨a, w, hQ _ _ _ h⟩
          case row rw args => exact h.mono fun v w'' he => ih he
        | halt x w' =>
          cases x <;> simp only [Oper.upon] at h ⊢
          exact hQ _ _ _ h
      · exact .inr ⟨h1, a', w', hQ _ _ _ h2⟩
    · rename_i hw
      rw [if_neg hw] at h
      exact ih h
/-- the first k operations, then the others -/
theorem st_part (k : Nat) {L : List Oper} {σ : Type} (F : σ → Env) (I : σ → Prop)
    (h1 : St n S w0 (wpList P ops (Exit.then (fun a w => ∃ s t, I s ∧ a = ⟨t, []⟩ ∧ Ag n t (F s) ∧ Mem S w0 w l) Q) (L.take k)) E l)
    (h2 : ∀ s, I s → St n S w0 (wpList P ops Q (L.drop k)) (F s) l) : St n S w0 (wpList P ops Q L) E l := fun t w hA hM => by
  rw [← List.take_append_drop k L]
  refine wpList_append (wpList_mono (fun e a w' hq => ?_) (h1 t w hA hM))
  cases e with
  | normal =>
    obtain ⟨s, t', hI, rfl, hA', hM'⟩ := hq
    exact h2 s hI t' w' hA' hM'
  | _ => exact hq
/-- a && b: the first k operations give b where a holds, false else -/
theorem st_and (k : Nat) {L : List Oper} {s d : Nat} {a b : Bool} (ks : List Nat) (hs : Env.get E s = some (.bool a))
    (ht : a = true → St n S w0 (wpList P ops (Exit.then (fun act w => ∃ t, act = ⟨t, []⟩ ∧ Ag n t ((d, .bool b) :: Env.keep ks E) ∧ Mem S w0 w l) Q) (L.take k)) ((s, .bool true) :: E) l)
    (hf : a = false → St n S w0 (wpList P ops (Exit.then (fun act w => ∃ t, act = ⟨t, []⟩ ∧ Ag n t ((d, .bool false) :: Env.keep ks E) ∧ Mem S w0 w l) Q) (L.take k)) ((s, .bool false) :: E) l)
    (h : St n S w0 (wpList P ops Q (L.drop k)) ((d, .bool (a && b)) :: Env.keep ks E) l) : St n S w0 (wpList P ops Q L) E l := fun t w hA hM => by
  rw [← List.take_append_drop k L]
  cases a with
  | true =>
    refine wpList_append (wpList_mono (fun e a w' hq => ?_) (ht rfl t w (hA.ext (hA.get s _ hs)) hM))
    cases e with
    | normal =>
      obtain ⟨t', rfl, hA', hM'⟩ := hq
      exact h t' w' hA' hM'
    | _ => exact hq
  | false =>
    refine wpList_append (wpList_mono (fun e a w' hq => ?_) (hf rfl t w (hA.ext (hA.get s _ hs)) hM))
    cases e with
    | normal =>
      obtain ⟨t', rfl, hA', hM'⟩ := hq
      exact h t' w' hA' hM'
    | _ => exact hq
theorem st_or (k : Nat) {L : List Oper} {s d : Nat} {a b : Bool} (ks : List Nat) (hs : Env.get E s = some (.bool a))
    (ht : a = true → St n S w0 (wpList P ops (Exit.then (fun act w => ∃ t, act = ⟨t, []⟩ ∧ Ag n t ((d, .bool true) :: Env.keep ks E) ∧ Mem S w0 w l) Q) (L.take k)) ((s, .bool true) :: E) l)
    (hf : a = false → St n S w0 (wpList P ops (Exit.then (fun act w => ∃ t, act = ⟨t, []⟩ ∧ Ag n t ((d, .bool b) :: Env.keep ks E) ∧ Mem S w0 w l) Q) (L.take k)) ((s, .bool false) :: E) l)
    (h : St n S w0 (wpList P ops Q (L.drop k)) ((d, .bool (a || b)) :: Env.keep ks E) l) : St n S w0 (wpList P ops Q L) E l := fun t w hA hM => by
  rw [← List.take_append_drop k L]
  cases a with
  | true =>
    refine wpList_append (wpList_mono (fun e a w' hq => ?_) (ht rfl t w (hA.ext (hA.get s _ hs)) hM))
    cases e with
    | normal =>
      obtain ⟨t', rfl, hA', hM'⟩ := hq
      exact h t' w' hA' hM'
    | _ => exact hq
  | false =>
    refine wpList_append (wpList_mono (fun e a w' hq => ?_) (hf rfl t w (hA.ext (hA.get s _ hs)) hM))
    cases e with
    | normal =>
      obtain ⟨t', rfl, hA', hM'⟩ := hq
      exact h t' w' hA' hM'
    | _ => exact hq
theorem st_meet_b {E1 : Env} (hE : SubE E1 E) : St n S w0 (Exit.then (fun act w => ∃ t, act = ⟨t, []⟩ ∧ Ag n t E1 ∧ Mem S w0 w l) Q .normal) E l := fun t w hA hM => ⟨t, rfl, hA.sub hE, hM⟩

/-! ### moves, and reckoning -/
theorem rv_move {x : Operand} (hx : Env.ev E x = some v) : RunsV P n S w0 ⟨dst, .move x, ty, pos, af, g⟩ E l v := fun t w hA _ => by
  simp [execOp, hA.ev hx]
theorem rv_assign {x : Operand} (hx : Env.ev E x = some v) : RunsV P n S w0 ⟨dst, .assign x, ty, pos, af, g⟩ E l v := fun t w hA _ => by
  simp [execOp, hA.ev hx]
theorem rv_pick {c x y : Operand} {b : Bool} {u v : Value} (hc : Env.ev E c = some (.bool b)) (hx : Env.ev E x = some u) (hy : Env.ev E y = some v) :
    RunsV P n S w0 ⟨dst, .pick c x y, ty, pos, af, g⟩ E l (if b then u else v) := fun t w hA _ => by
  simp [execOp, hA.ev hc, hA.ev hx, hA.ev hy, asBool]
theorem rv_pick_true {c x y : Operand} {u : Value} (hc : Env.ev E c = some (.bool true)) (hx : Env.ev E x = some u) :
    RunsV P n S w0 ⟨dst, .pick c x y, ty, pos, af, g⟩ E l u := fun t w hA _ => by
  simp [execOp, hA.ev hc, hA.ev hx, asBool]
theorem rv_pick_false {c x y : Operand} {u : Value} (hc : Env.ev E c = some (.bool false)) (hy : Env.ev E y = some u) :
    RunsV P n S w0 ⟨dst, .pick c x y, ty, pos, af, g⟩ E l u := fun t w hA _ => by
  simp [execOp, hA.ev hc, hA.ev hy, asBool]
theorem rv_extract {x : Operand} {vs : Array Value} {i : Nat} (hx : Env.ev E x = some (.tuple vs)) (hi : vs[i]? = some v) : RunsV P n S w0 ⟨dst, .extract x i, ty, pos, af, g⟩ E l v := fun t w hA _ => by
  simp [execOp, hA.ev hx, Instr.extract, hi]
theorem rv_nilCheck {x : Operand} {a : Addr} (hx : Env.ev E x = some (.pointer (some a))) : RunsV P n S w0 ⟨dst, .nilCheck x, ty, pos, af, g⟩ E l (.pointer (some a)) := fun t w hA _ => by
  simp [execOp, hA.ev hx]
/-- a binary operation on whole numbers -/
theorem rv_bin {op : BinOp} {xt yt : TypeId} {x y : Operand} {k : IntKind} {a b : Int} (hx : Env.ev E x = some (.int k a)) (hy : Env.ev E y = some (.int k b))
    (hr : ∀ w, (binOp op xt (.int k a) (.int k b)).run P w = .ok v w) : RunsV P n S w0 ⟨dst, .binOp op xt x y yt, ty, pos, af, g⟩ E l v := fun t w hA _ => by
  have e : eqGuard op xt x y (.int k a) (.int k b) = pure () := by cases op <;> rfl
  simp [execOp, hA.ev hx, hA.ev hy, e, hr]
theorem rv_shift {op : BinOp} {xt yt : TypeId} {x y : Operand} {k k' : IntKind} {a b : Int} (hx : Env.ev E x = some (.int k a)) (hy : Env.ev E y = some (.int k' b))
    (hr : ∀ w, (binOp op xt (.int k a) (.int k' b)).run P w = .ok v w) : RunsV P n S w0 ⟨dst, .binOp op xt x y yt, ty, pos, af, g⟩ E l v := fun t w hA _ => by
  have e : eqGuard op xt x y (.int k a) (.int k' b) = pure () := by cases op <;> rfl
  simp [execOp, hA.ev hx, hA.ev hy, e, hr]
theorem wrap_i64 {z : Int} (h1 : -9223372036854775808 ≤ z) (h2 : z ≤ 9223372036854775807) : IntKind.i64.wrap z = z := by
  simp [IntKind.wrap, IntKind.bits, IntKind.signed]
  split <;> omega
section ints
variable {xt yt : TypeId} {x y : Operand} {a b : Int} (hx : Env.ev E x = some (vI a)) (hy : Env.ev E y = some (vI b))
theorem rv_addZ (hx : Env.ev E x = some (vI a)) (hy : Env.ev E y = some (vI b)) (h : -9223372036854775808 ≤ a + b ∧ a + b ≤ 9223372036854775807) : RunsV P n S w0 ⟨dst, .binOp .add xt x y yt, ty, pos, af, g⟩ E l (vI (a + b)) :=
  rv_bin hx hy fun w => by simp [binOp_add, Op.intArith, wrap_i64 h.1 h.2]
theorem rv_subZ (hx : Env.ev E x = some (vI a)) (hy : Env.ev E y = some (vI b)) (h : -9223372036854775808 ≤ a - b ∧ a - b ≤ 9223372036854775807) : RunsV P n S w0 ⟨dst, .binOp .sub xt x y yt, ty, pos, af, g⟩ E l (vI (a - b)) :=
  rv_bin hx hy fun w => by simp [binOp_sub, Op.intArith, wrap_i64 h.1 h.2]
theorem rv_mulZ (hx : Env.ev E x = some (vI a)) (hy : Env.ev E y = some (vI b)) (h : -9223372036854775808 ≤ a * b ∧ a * b ≤ 9223372036854775807) : RunsV P n S w0 ⟨dst, .binOp .mul xt x y yt, ty, pos, af, g⟩ E l (vI (a * b)) :=
  rv_bin hx hy fun w => by simp [binOp_mul, Op.intArith, wrap_i64 h.1 h.2]
theorem rv_addN {a b : Nat} (hx : Env.ev E x = some (vI a)) (hy : Env.ev E y = some (vI b)) (h : a + b ≤ 9223372036854775807) : RunsV P n S w0 ⟨dst, .binOp .add xt x y yt, ty, pos, af, g⟩ E l (vI (a + b : Nat)) := by
  have := rv_addZ (P := P) (n := n) (S := S) (w0 := w0) (dst := dst) (ty := ty) (pos := pos) (af := af) (g := g) (xt := xt) (yt := yt) (l := l) hx hy (by omega)
  simpa using this
theorem rv_mulN {a b : Nat} (hx : Env.ev E x = some (vI a)) (hy : Env.ev E y = some (vI b)) (h : a * b ≤ 9223372036854775807) : RunsV P n S w0 ⟨dst, .binOp .mul xt x y yt, ty, pos, af, g⟩ E l (vI (a * b : Nat)) := by
  have h1 : (0 : Int) ≤ (a : Int) * b := by rw [← Int.natCast_mul]; omega
  have h2 : (a : Int) * b ≤ 9223372036854775807 := by rw [← Int.natCast_mul]; omega
  have := rv_mulZ (P := P) (n := n) (S := S) (w0 := w0) (dst := dst) (ty := ty) (pos := pos) (af := af) (g := g) (xt := xt) (yt := yt) (l := l) hx hy ⟨by omega, h2⟩
  simpa using this
theorem rv_subN {a b : Nat} (hx : Env.ev E x = some (vI a)) (hy : Env.ev E y = some (vI b)) (h : b ≤ a ∧ a ≤ 9223372036854775807) : RunsV P n S w0 ⟨dst, .binOp .sub xt x y yt, ty, pos, af, g⟩ E l (vI (a - b : Nat)) := by
  have := rv_subZ (P := P) (n := n) (S := S) (w0 := w0) (dst := dst) (ty := ty) (pos := pos) (af := af) (g := g) (xt := xt) (yt := yt) (l := l) hx hy (by omega)
  rwa [← Int.ofNat_sub h.1] at this
theorem rv_quoN {a b : Nat} (hx : Env.ev E x = some (vI a)) (hy : Env.ev E y = some (vI b)) (h : b ≠ 0 ∧ a ≤ 9223372036854775807) : RunsV P n S w0 ⟨dst, .binOp .quo xt x y yt, ty, pos, af, g⟩ E l (vI (a / b : Nat)) :=
  rv_bin hx hy fun w => by
    have h0 : ((b : Int) = 0) = False := by simp; omega
    have h1 : a / b ≤ a := Nat.div_le_self a b
    have e2 : (a : Int).tdiv b = ((a / b : Nat) : Int) := (Int.ofNat_tdiv a b).symm
    generalize hq : a / b = q at *
    have e : IntKind.i64.wrap (q : Int) = (q : Int) := wrap_i64 (by omega) (by omega)
    simp only [binOp_quo, Op.intDiv, h0, if_false, e2, e]
    rfl
theorem rv_remN {a b : Nat} (hx : Env.ev E x = some (vI a)) (hy : Env.ev E y = some (vI b)) (h : b ≠ 0) : RunsV P n S w0 ⟨dst, .binOp .rem xt x y yt, ty, pos, af, g⟩ E l (vI (a % b : Nat)) :=
  rv_bin hx hy fun w => by
    have h0 : ((b : Int) = 0) = False := by simp; omega
    have e2 : (a : Int).tmod b = ((a % b : Nat) : Int) := (Int.ofNat_tmod a b).symm
    simp only [binOp_rem, Op.intDiv, h0, if_false, e2]
    rfl
theorem rv_lssZ (hx : Env.ev E x = some (vI a)) (hy : Env.ev E y = some (vI b)) : RunsV P n S w0 ⟨dst, .binOp .lss xt x y yt, ty, pos, af, g⟩ E l (.bool (decide (a < b))) :=
  rv_bin hx hy fun w => by simp [binOp_lss]
theorem rv_leqZ (hx : Env.ev E x = some (vI a)) (hy : Env.ev E y = some (vI b)) : RunsV P n S w0 ⟨dst, .binOp .leq xt x y yt, ty, pos, af, g⟩ E l (.bool (decide (a ≤ b))) :=
  rv_bin hx hy fun w => by simp [binOp_leq]
theorem rv_gtrZ (hx : Env.ev E x = some (vI a)) (hy : Env.ev E y = some (vI b)) : RunsV P n S w0 ⟨dst, .binOp .gtr xt x y yt, ty, pos, af, g⟩ E l (.bool (decide (b < a))) :=
  rv_bin hx hy fun w => by simp [binOp_gtr]
theorem rv_geqZ (hx : Env.ev E x = some (vI a)) (hy : Env.ev E y = some (vI b)) : RunsV P n S w0 ⟨dst, .binOp .geq xt x y yt, ty, pos, af, g⟩ E l (.bool (decide (b ≤ a))) :=
  rv_bin hx hy fun w => by simp [binOp_geq]
theorem rv_eqlZ (hx : Env.ev E x = some (vI a)) (hy : Env.ev E y = some (vI b)) : RunsV P n S w0 ⟨dst, .binOp .eql xt x y yt, ty, pos, af, g⟩ E l (.bool (decide (a = b))) :=
  rv_bin hx hy fun w => by simp [binOp_eql]; rfl
theorem rv_neqZ (hx : Env.ev E x = some (vI a)) (hy : Env.ev E y = some (vI b)) : RunsV P n S w0 ⟨dst, .binOp .neq xt x y yt, ty, pos, af, g⟩ E l (.bool (decide (a ≠ b))) :=
  rv_bin hx hy fun w => by simp [binOp_neq, bne, BEq.beq]
end ints
theorem rv_not {xt : TypeId} {x : Operand} {b : Bool} (hx : Env.ev E x = some (.bool b)) : RunsV P n S w0 ⟨dst, .unOp .not xt x, ty, pos, af, g⟩ E l (.bool (!b)) := fun t w hA _ => by
  simp [execOp, hA.ev hx, Op.unary]
end
end Go.Proofs.YtjhjjhpfjadjpaaDoor
