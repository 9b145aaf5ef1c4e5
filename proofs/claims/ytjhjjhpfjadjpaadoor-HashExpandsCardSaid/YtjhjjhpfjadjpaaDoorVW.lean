/- Helpers: the compiler's own functions of math/bits; calls that write a block and hand back a value; loads out of a table of structs. -/
import Derived.Test.YtjhjjhpfjadjpaaDoorVU
import Derived.Laws.Externs
import Derived.Shelf.Spec.BitsCarry
namespace Go.Proofs.YtjhjjhpfjadjpaaDoor
set_option linter.all false
open Go
section
variable {P : Program} {n : Nat} {S : Nat → Prop} {w0 : World} {E E' : Env} {l l' : List Asn} {Q : Exit → Act → World → Prop} {K : Act → World → Prop} {ops : Array Oper} {rest : List Oper} {o : Oper}
  {dst : Option Tmp} {ty : TypeId} {pos : String} {af : Array Edge} {g : Option (Nat × Bool)} {v u : Value} {d : Nat} {op : Op} {x y : Operand} {t T e : TypeId} {i b off k : Nat} {cs cs' : Array Value}
/-- a call that the model answers at once -/
theorem rv_ext {f : FuncId} {aa : List Operand} {vs : List Value} {ats : Array TypeId} (hv : evs E aa = some vs) (hc : ∀ w, (callFunc f vs.toArray).run P w = .ok (.value v) w) :
    RunsV P n S w0 ⟨dst, .call { callee := .value (.func f), args := aa.toArray, argTypes := ats }, ty, pos, af, g⟩ E l v := fun tt w hA _ => by
  have h4 := evs_map hA aa hv
  simp [execOp, resolve, Act.eval, Deferred.ofValue, invoke, h4, hc w]
def adcS (x y c : BitVec 64) : BitVec 64 := x + y + c
def adcC (x y c : BitVec 64) : BitVec 64 := BitVec.ofNat 64 ((x.toNat + y.toNat + c.toNat) / 18446744073709551616)
def sbbS (x y c : BitVec 64) : BitVec 64 := x - y - c
def sbbC (x y c : BitVec 64) : BitVec 64 := BitVec.ofNat 64 (if x.toNat < y.toNat + c.toNat then 1 else 0)
theorem adcC_le (x y c : BitVec 64) (h : c.toNat ≤ 1) : (adcC x y c).toNat ≤ 1 := by
  rw [adcC, BitVec.toNat_ofNat]; have := x.isLt; have := y.isLt; omega
theorem sbbC_le (x y c : BitVec 64) : (sbbC x y c).toNat ≤ 1 := by
  rw [sbbC]; split <;> decide
/-- math/bits.Add64, math/bits.Sub64 by their numbers in this program -/
def Is25 (P : Program) (f : FuncId) : Prop := ∃ fn, P.funcs[f]? = some fn ∧ (fn.name == "runtime.NumGoroutine") = false ∧ fn.body.isNone = true ∧ Extern.findNext fn = none ∧ Extern.find fn = some add64Entry
def Is26 (P : Program) (f : FuncId) : Prop := ∃ fn, P.funcs[f]? = some fn ∧ (fn.name == "runtime.NumGoroutine") = false ∧ fn.body.isNone = true ∧ Extern.findNext fn = none ∧ Extern.find fn = some sub64Entry
theorem run_add (f : FuncId) (h : Is25 P f) (a c q : BitVec 64) (hq : q.toNat ≤ 1) (w : World) : (callFunc f #[U64 a, U64 c, U64 q]).run P w = .ok (.value (.tuple #[U64 (adcS a c q), U64 (adcC a c q)])) w := by
  obtain ⟨fn, h1, h2, h3, h4, h5⟩ := h
  rw [run_callFunc_extern h1 h2 h3 h4 h5]
  have := run_add64 (P := P) a.toNat c.toNat q.toNat (by omega) (by omega) (by omega) (by omega) w
  rw [this]
  simp only [Result.andThen]
  have e1 : (adcS a c q).toNat = (a.toNat + c.toNat + q.toNat) % 18446744073709551616 := by
    rw [adcS, BitVec.toNat_add, BitVec.toNat_add]; omega
  have e2 : (adcC a c q).toNat = (a.toNat + c.toNat + q.toNat) / 18446744073709551616 := by
    rw [adcC, BitVec.toNat_ofNat]; have := a.isLt; have := c.isLt; omega
  rw [U64, U64, e1, e2]
  congr 5 <;> omega
theorem run_sub (f : FuncId) (h : Is26 P f) (a c q : BitVec 64) (hq : q.toNat ≤ 1) (w : World) : (callFunc f #[U64 a, U64 c, U64 q]).run P w = .ok (.value (.tuple #[U64 (sbbS a c q), U64 (sbbC a c q)])) w := by
  obtain ⟨fn, h1, h2, h3, h4, h5⟩ := h
  rw [run_callFunc_extern h1 h2 h3 h4 h5]
  rw [run_sub64 (P := P) a.toNat c.toNat q.toNat hq w]
  simp only [Result.andThen]
  have e1 : (sbbS a c q).toNat = (a.toNat + 18446744073709551616 - c.toNat - q.toNat) % 18446744073709551616 := by
    rw [sbbS, BitVec.toNat_sub, BitVec.toNat_sub]; have := a.isLt; have := c.isLt; have := q.isLt; omega
  have e2 : (sbbC a c q).toNat = if a.toNat < c.toNat + q.toNat then 1 else 0 := by
    rw [sbbC]; split <;> rfl
  rw [U64, U64, e1, e2]
/-- a guard that was not reckoned itself -/
theorem st_gskipU {j s : Nat} {want : Bool} (hj : (ops[j]?).bind (·.dst) = some s) (hs : Env.get E s = some undef) (hd : d < n)
    (h : St n S w0 (wpList P ops Q rest) ((d, undef) :: E) l) : St n S w0 (wpList P ops Q (⟨some d, op, ty, pos, af, some (j, want)⟩ :: rest)) E l := fun t w hA hM => by
  refine wpList_skip ?_ (h _ _ (hA.put hd undef) hM)
  have h1 := hA.get s _ hs
  have hy : yielded ops t j = none := by simp [yielded, hj, h1, undef]
  simp [Region.wanted, hy]
/-- a call that writes a block, and hands back a value -/
theorem st_callB {f : FuncId} {aa : List Operand} {vs : List Value} {ats : Array TypeId} (hf : Callable P f) (hv : evs E aa = some vs) (hl : l[i]? = some (blk b cs T))
    (C : ∀ w, Mem S w0 w l → Calls P f vs.toArray w fun e w' => e = .returned v ∧ Mem (Old w (fun b' => b' = b)) w w' [blk b cs' T]) (hd : d < n) (hl' : l.set i (blk b cs' T) = l')
    (h : St n S w0 (wpList P ops Q rest) ((d, v) :: E) l') :
    St n S w0 (wpList P ops Q (⟨some d, .call { callee := .value (.func f), args := aa.toArray, argTypes := ats }, ty, pos, af, none⟩ :: rest)) E l := by
  subst hl'
  obtain ⟨p1, p2⟩ := perm_set (y := blk b cs' T) hl
  refine st_call (fun _ : Unit => v) (fun _ => True) (fun _ => [blk b cs' T]) (ms := fun _ b' => b' = b) (lm := [blk b cs T]) (lf := l.eraseIdx i) hf hv p1 (fun w hM => ⟨fun b' hb => ⟨_, List.mem_singleton.2 rfl, hb⟩, ?_⟩) hd fun _ _ => ?_
  · exact (C w hM).mono fun e w' he => ⟨(), he.1, trivial, he.2⟩
  · exact h.mem fun w hM => hM.perm p2
end
end Go.Proofs.YtjhjjhpfjadjpaaDoor
