/- Helpers: words of 32 bits in slices of one's own; signed numbers cut down. -/
import Derived.Test.YtjhjjhpfjadjpaaDoorVW
namespace Go.Proofs.YtjhjjhpfjadjpaaDoor
set_option linter.all false
open Go
section
variable {P : Program} {n : Nat} {S : Nat → Prop} {w0 : World} {E E' : Env} {l l' : List Asn} {Q : Exit → Act → World → Prop} {K : Act → World → Prop} {ops : Array Oper} {rest : List Oper} {o : Oper}
  {dst : Option Tmp} {ty : TypeId} {pos : String} {af : Array Edge} {g : Option (Nat × Bool)} {v u : Value} {d : Nat} {op : Op} {x y : Operand} {t T e : TypeId} {i b off k : Nat} {cs cs' : Array Value}
theorem st_makeO32 {t e : TypeId} {x y : Operand} {bytes len : Nat} (ht : P.underlying t = some (.slice e)) (hz : TyZ P e (.int .u32 0) 1 bytes) (hx : Env.ev E x = some (vI len)) (hy : Env.ev E y = some (vI len))
    (hb : len * bytes ≤ 281474976710656) (hc : len ≤ 9223372036854775807) (hd : d < n)
    (h : ∀ v', St n S w0 (wpList P ops Q rest) ((d, v') :: E) (own v' e 1 len ((List.replicate len 0#32).map U32) :: l)) :
    St n S w0 (wpList P ops Q (⟨some d, .makeSlice t x y, ty, pos, af, none⟩ :: rest)) E l :=
  st_make32 ht hz hx hy (Nat.le_refl _) hb hc hd fun b _ => (h _).mem fun w hM => by
    have := hM.toOwn (i := 0) (off := 0) (n := len) (cap := len) (size := 1) (xs := (List.replicate len 0#32).map U32) rfl (by simp) (Nat.le_refl _) (by simp) (fun j u hj => by rw [Nat.zero_add]; show ((List.replicate len 0#32).map U32).toArray[j]? = some u; rw [List.getElem?_toArray]; exact hj)
    exact this
theorem rv_convZto32 {src dt : TypeId} {ds : TypeDesc} {z : Int} (hs : P.underlying src = some ds) (hd : P.underlying dt = some (.int .u32)) (hx : Env.ev E x = some (vI z)) :
    RunsV P n S w0 ⟨dst, .convert src dt x, ty, pos, af, g⟩ E l (U32 (BitVec.ofInt 32 z)) := by
  have h := rv_convert (P := P) (n := n) (S := S) (w0 := w0) (dst := dst) (ty := ty) (pos := pos) (af := af) (g := g) (l := l) hs hd hx
  have e : IntKind.u32.wrap z = ((BitVec.ofInt 32 z).toNat : Int) := by
    rw [wrap_u32, BitVec.toNat_ofInt]; omega
  rwa [e] at h
theorem rv_shrZ32 {xt yt : TypeId} {k' : IntKind} {a : Int} (hx : Env.ev E x = some (vI a)) (hy : Env.ev E y = some (.int k' 32)) : RunsV P n S w0 ⟨dst, .binOp .shr xt x y yt, ty, pos, af, g⟩ E l (vI (a / 4294967296)) :=
  rv_shift hx hy fun w => by
    have h0 : ¬ ((32 : Int) < 0) := by omega
    have e : a.fdiv (2 ^ (min (32 : Int).toNat IntKind.i64.bits)) = a / 4294967296 := by
      rw [Int.fdiv_eq_ediv_of_nonneg _ (by exact Int.le_of_lt (Int.pow_pos (by decide)))]
      rfl
    simp only [binOp_shr, Op.shift, h0, if_false, e]
    rfl
theorem Mem.ownHead {w : World} (M : Mem S w0 w l) {u : Value} {T : TypeId} {m k : Nat} {xs : List Value} (h : l[i]? = some (own u T 1 m xs)) (hk : k ≤ m) : Mem S w0 w (l.set i (rdA (vsub u 0 k 1) k 1 (xs.take k))) := by
  refine M.replace h rfl rfl rfl (Nat.le_refl _) (fun _ _ _ => rfl) ?_ (fun b hb => .inl (vfoot_cut hb))
  have := (own_rd (M.holds _ (List.mem_of_getElem? h))).part (lo := 0) (hi := k) (Nat.zero_le _) hk
  have h2 : Rd w (vsub u 0 k 1) k 1 (xs.take k) := by simpa using this
  exact h2
end
end Go.Proofs.YtjhjjhpfjadjpaaDoor
