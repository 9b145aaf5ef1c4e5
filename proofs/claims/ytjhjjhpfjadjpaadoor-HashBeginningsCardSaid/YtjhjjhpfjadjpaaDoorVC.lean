/- Helpers: reckoning with words of 8, 32 and 64 bits, and conversions. -/
import Derived.Test.YtjhjjhpfjadjpaaDoorVB
namespace Go.Proofs.YtjhjjhpfjadjpaaDoor
set_option linter.all false
open Go

theorem wrap_u8 (z : Int) : IntKind.u8.wrap z = z % 256 := by simp [IntKind.wrap, IntKind.bits, IntKind.signed]
theorem wrap_u32 (z : Int) : IntKind.u32.wrap z = z % 4294967296 := by simp [IntKind.wrap, IntKind.bits, IntKind.signed]
theorem wrap_u64 (z : Int) : IntKind.u64.wrap z = z % 18446744073709551616 := by simp [IntKind.wrap, IntKind.bits, IntKind.signed]
theorem ofInt_toNat {w : Nat} (x : BitVec w) : BitVec.ofInt w (x.toNat : Int) = x := by simp

section
variable {P : Program} {n : Nat} {S : Nat → Prop} {w0 : World} {E E' : Env} {l l' : List Asn} {dst : Option Tmp} {ty : TypeId} {pos : String} {af : Array Edge} {g : Option (Nat × Bool)} {v u : Value}
  {xt yt : TypeId} {x y : Operand}

section W8
variable {a b : BitVec 8}
theorem keep_u8 (a : BitVec 8) : IntKind.u8.wrap (a.toNat : Int) = (a.toNat : Int) := by
  rw [wrap_u8]; have := a.isLt; omega
theorem rv_and8 (hx : Env.ev E x = some (U8 a)) (hy : Env.ev E y = some (U8 b)) : RunsV P n S w0 ⟨dst, .binOp .and xt x y yt, ty, pos, af, g⟩ E l (U8 (a &&& b)) :=
  rv_bin hx hy fun w => by
    simp only [binOp_and]
    show Result.ok (Value.int .u8 (IntKind.u8.wrap (((BitVec.ofInt 8 (a.toNat : Int)) &&& (BitVec.ofInt 8 (b.toNat : Int))).toNat : Int))) w = _
    rw [ofInt_toNat, ofInt_toNat, keep_u8]
theorem rv_or8 (hx : Env.ev E x = some (U8 a)) (hy : Env.ev E y = some (U8 b)) : RunsV P n S w0 ⟨dst, .binOp .or xt x y yt, ty, pos, af, g⟩ E l (U8 (a ||| b)) :=
  rv_bin hx hy fun w => by
    simp only [binOp_or]
    show Result.ok (Value.int .u8 (IntKind.u8.wrap (((BitVec.ofInt 8 (a.toNat : Int)) ||| (BitVec.ofInt 8 (b.toNat : Int))).toNat : Int))) w = _
    rw [ofInt_toNat, ofInt_toNat, keep_u8]
theorem rv_xor8 (hx : Env.ev E x = some (U8 a)) (hy : Env.ev E y = some (U8 b)) : RunsV P n S w0 ⟨dst, .binOp .xor xt x y yt, ty, pos, af, g⟩ E l (U8 (a ^^^ b)) :=
  rv_bin hx hy fun w => by
    simp only [binOp_xor]
    show Result.ok (Value.int .u8 (IntKind.u8.wrap (((BitVec.ofInt 8 (a.toNat : Int)) ^^^ (BitVec.ofInt 8 (b.toNat : Int))).toNat : Int))) w = _
    rw [ofInt_toNat, ofInt_toNat, keep_u8]
theorem rv_add8 (hx : Env.ev E x = some (U8 a)) (hy : Env.ev E y = some (U8 b)) : RunsV P n S w0 ⟨dst, .binOp .add xt x y yt, ty, pos, af, g⟩ E l (U8 (a + b)) :=
  rv_bin hx hy fun w => by
    have e : IntKind.u8.wrap ((a.toNat : Int) + (b.toNat : Int)) = ((a + b).toNat : Int) := by
      rw [wrap_u8]; simp [BitVec.toNat_add]
    simp only [binOp_add, Op.intArith, e]
    rfl
theorem rv_sub8 (hx : Env.ev E x = some (U8 a)) (hy : Env.ev E y = some (U8 b)) : RunsV P n S w0 ⟨dst, .binOp .sub xt x y yt, ty, pos, af, g⟩ E l (U8 (a - b)) :=
  rv_bin hx hy fun w => by
    have e : IntKind.u8.wrap ((a.toNat : Int) - (b.toNat : Int)) = ((a - b).toNat : Int) := by
      rw [wrap_u8]; rw [BitVec.toNat_sub]; have := a.isLt; have := b.isLt; omega
    simp only [binOp_sub, Op.intArith, e]
    rfl
theorem rv_mul8 (hx : Env.ev E x = some (U8 a)) (hy : Env.ev E y = some (U8 b)) : RunsV P n S w0 ⟨dst, .binOp .mul xt x y yt, ty, pos, af, g⟩ E l (U8 (a * b)) :=
  rv_bin hx hy fun w => by
    have e : IntKind.u8.wrap ((a.toNat : Int) * (b.toNat : Int)) = ((a * b).toNat : Int) := by
      rw [wrap_u8]; simp [BitVec.toNat_mul]
    simp only [binOp_mul, Op.intArith, e]
    rfl
theorem rv_shl8 {k' : IntKind} {z : Int} {s : Nat} (hx : Env.ev E x = some (U8 a)) (hy : Env.ev E y = some (.int k' z)) (hz : z = (s : Int)) : RunsV P n S w0 ⟨dst, .binOp .shl xt x y yt, ty, pos, af, g⟩ E l (U8 (a <<< s)) :=
  rv_shift hx hy fun w => by
    subst hz
    have h0 : ¬ ((s : Int) < 0) := by omega
    have e : IntKind.u8.wrap ((a.toNat : Int) * 2 ^ (min s IntKind.u8.bits)) = ((a <<< s).toNat : Int) := by
      rw [wrap_u8, BitVec.toNat_shiftLeft, Nat.shiftLeft_eq]
      simp only [IntKind.bits]
      by_cases hs : s ≤ 8
      · rw [Nat.min_eq_left hs]; simp
      · rw [Nat.min_eq_right (by omega)]
        have : (2 : Nat) ^ s = 2 ^ 8 * 2 ^ (s - 8) := by rw [← Nat.pow_add]; congr 1; omega
        rw [this, ← Nat.mul_assoc, Nat.mul_comm (a.toNat * 2 ^ 8), ← Nat.mul_assoc, Nat.mul_mod_left]
        simp
    simp only [binOp_shl, Op.shift, h0, if_false, Int.toNat_natCast, e]
    rfl
theorem rv_shr8 {k' : IntKind} {z : Int} {s : Nat} (hx : Env.ev E x = some (U8 a)) (hy : Env.ev E y = some (.int k' z)) (hz : z = (s : Int)) : RunsV P n S w0 ⟨dst, .binOp .shr xt x y yt, ty, pos, af, g⟩ E l (U8 (a >>> s)) :=
  rv_shift hx hy fun w => by
    subst hz
    have h0 : ¬ ((s : Int) < 0) := by omega
    have e : (a.toNat : Int).fdiv (2 ^ (min s IntKind.u8.bits)) = ((a >>> s).toNat : Int) := by
      rw [BitVec.toNat_ushiftRight, Nat.shiftRight_eq_div_pow, Int.fdiv_eq_ediv_of_nonneg _ (by exact Int.le_of_lt (Int.pow_pos (by decide)))]
      simp only [IntKind.bits]
      by_cases hs : s ≤ 8
      · rw [Nat.min_eq_left hs]; simp
      · rw [Nat.min_eq_right (by omega)]
        have h1 : a.toNat / 2 ^ s = 0 := Nat.div_eq_of_lt (Nat.lt_of_lt_of_le a.isLt (Nat.pow_le_pow_right (by decide) (by omega)))
        have h2 : a.toNat / 2 ^ 8 = 0 := Nat.div_eq_of_lt a.isLt
        rw [h1]
        have h3 : ((a.toNat / 2 ^ 8 : Nat) : Int) = 0 := by rw [h2]; rfl
        simpa using h3
    simp only [binOp_shr, Op.shift, h0, if_false, Int.toNat_natCast, e]
    rfl
theorem rv_neg8 (hx : Env.ev E x = some (U8 a)) : RunsV P n S w0 ⟨dst, .unOp .neg xt x, ty, pos, af, g⟩ E l (U8 (-a)) := fun t w hA _ => by
  have e : IntKind.u8.wrap (0 - (a.toNat : Int)) = ((-a).toNat : Int) := by
    rw [wrap_u8, BitVec.toNat_neg]; have := a.isLt; omega
  simp only [execOp, hA.ev hx, Op.unary, Op.intArith, e]
  rfl
theorem rv_com8 (hx : Env.ev E x = some (U8 a)) : RunsV P n S w0 ⟨dst, .unOp .xor xt x, ty, pos, af, g⟩ E l (U8 (~~~a)) := fun t w hA _ => by
  simp only [execOp, hA.ev hx]
  show Result.ok (Next.value (Value.int .u8 (IntKind.u8.wrap (((BitVec.ofInt 8 (if IntKind.u8.signed = true then -1 else IntKind.u8.max)) ^^^ (BitVec.ofInt 8 (a.toNat : Int))).toNat : Int)))) w = _
  rw [ofInt_toNat, show BitVec.ofInt 8 (if IntKind.u8.signed = true then -1 else IntKind.u8.max) = BitVec.allOnes 8 from by decide, BitVec.allOnes_xor, keep_u8]
theorem rv_eql8 (hx : Env.ev E x = some (U8 a)) (hy : Env.ev E y = some (U8 b)) : RunsV P n S w0 ⟨dst, .binOp .eql xt x y yt, ty, pos, af, g⟩ E l (.bool (decide (a = b))) :=
  rv_bin hx hy fun w => by
    have e : ((a.toNat : Int) == (b.toNat : Int)) = decide (a = b) := by
      rw [Bool.eq_iff_iff]; simp only [beq_iff_eq, decide_eq_true_eq]; exact ⟨fun h => BitVec.eq_of_toNat_eq (Int.ofNat.inj h), fun h => by rw [h]⟩
    simp only [binOp_eql, e]; rfl
theorem rv_neq8 (hx : Env.ev E x = some (U8 a)) (hy : Env.ev E y = some (U8 b)) : RunsV P n S w0 ⟨dst, .binOp .neq xt x y yt, ty, pos, af, g⟩ E l (.bool (decide (a ≠ b))) :=
  rv_bin hx hy fun w => by
    have e : ((a.toNat : Int) != (b.toNat : Int)) = decide (a ≠ b) := by
      rw [Bool.eq_iff_iff]; simp only [bne_iff_ne, ne_eq, decide_eq_true_eq]; exact ⟨fun h e => h (by rw [e]), fun h e => h (BitVec.eq_of_toNat_eq (Int.ofNat.inj e))⟩
    (simp only [binOp_neq, e]; try rfl)
theorem rv_lss8 (hx : Env.ev E x = some (U8 a)) (hy : Env.ev E y = some (U8 b)) : RunsV P n S w0 ⟨dst, .binOp .lss xt x y yt, ty, pos, af, g⟩ E l (.bool (decide (a.toNat < b.toNat))) :=
  rv_bin hx hy fun w => by simp [binOp_lss]
theorem rv_gtr8 (hx : Env.ev E x = some (U8 a)) (hy : Env.ev E y = some (U8 b)) : RunsV P n S w0 ⟨dst, .binOp .gtr xt x y yt, ty, pos, af, g⟩ E l (.bool (decide (b.toNat < a.toNat))) :=
  rv_bin hx hy fun w => by simp [binOp_gtr]
theorem rv_geq8 (hx : Env.ev E x = some (U8 a)) (hy : Env.ev E y = some (U8 b)) : RunsV P n S w0 ⟨dst, .binOp .geq xt x y yt, ty, pos, af, g⟩ E l (.bool (decide (b.toNat ≤ a.toNat))) :=
  rv_bin hx hy fun w => by simp [binOp_geq]
theorem rv_leq8 (hx : Env.ev E x = some (U8 a)) (hy : Env.ev E y = some (U8 b)) : RunsV P n S w0 ⟨dst, .binOp .leq xt x y yt, ty, pos, af, g⟩ E l (.bool (decide (a.toNat ≤ b.toNat))) :=
  rv_bin hx hy fun w => by simp [binOp_leq]
theorem rv_rem8 (hx : Env.ev E x = some (U8 a)) (hy : Env.ev E y = some (U8 b)) (hb : b.toNat ≠ 0) : RunsV P n S w0 ⟨dst, .binOp .rem xt x y yt, ty, pos, af, g⟩ E l (U8 (a % b)) :=
  rv_bin hx hy fun w => by
    have h0 : ((b.toNat : Int) = 0) = False := by simp; exact fun h => hb (by simp [h])
    have e2 : (a.toNat : Int).tmod b.toNat = ((a % b).toNat : Int) := by rw [BitVec.toNat_umod]; exact (Int.ofNat_tmod _ _).symm
    simp only [binOp_rem, Op.intDiv, h0, if_false, e2]
    rfl
end W8

section W32
variable {a b : BitVec 32}
theorem keep_u32 (a : BitVec 32) : IntKind.u32.wrap (a.toNat : Int) = (a.toNat : Int) := by
  rw [wrap_u32]; have := a.isLt; omega
theorem rv_and32 (hx : Env.ev E x = some (U32 a)) (hy : Env.ev E y = some (U32 b)) : RunsV P n S w0 ⟨dst, .binOp .and xt x y yt, ty, pos, af, g⟩ E l (U32 (a &&& b)) :=
  rv_bin hx hy fun w => by
    simp only [binOp_and]
    show Result.ok (Value.int .u32 (IntKind.u32.wrap (((BitVec.ofInt 32 (a.toNat : Int)) &&& (BitVec.ofInt 32 (b.toNat : Int))).toNat : Int))) w = _
    rw [ofInt_toNat, ofInt_toNat, keep_u32]
theorem rv_or32 (hx : Env.ev E x = some (U32 a)) (hy : Env.ev E y = some (U32 b)) : RunsV P n S w0 ⟨dst, .binOp .or xt x y yt, ty, pos, af, g⟩ E l (U32 (a ||| b)) :=
  rv_bin hx hy fun w => by
    simp only [binOp_or]
    show Result.ok (Value.int .u32 (IntKind.u32.wrap (((BitVec.ofInt 32 (a.toNat : Int)) ||| (BitVec.ofInt 32 (b.toNat : Int))).toNat : Int))) w = _
    rw [ofInt_toNat, ofInt_toNat, keep_u32]
theorem rv_xor32 (hx : Env.ev E x = some (U32 a)) (hy : Env.ev E y = some (U32 b)) : RunsV P n S w0 ⟨dst, .binOp .xor xt x y yt, ty, pos, af, g⟩ E l (U32 (a ^^^ b)) :=
  rv_bin hx hy fun w => by
    simp only [binOp_xor]
    show Result.ok (Value.int .u32 (IntKind.u32.wrap (((BitVec.ofInt 32 (a.toNat : Int)) ^^^ (BitVec.ofInt 32 (b.toNat : Int))).toNat : Int))) w = _
    rw [ofInt_toNat, ofInt_toNat, keep_u32]
theorem rv_add32 (hx : Env.ev E x = some (U32 a)) (hy : Env.ev E y = some (U32 b)) : RunsV P n S w0 ⟨dst, .binOp .add xt x y yt, ty, pos, af, g⟩ E l (U32 (a + b)) :=
  rv_bin hx hy fun w => by
    have e : IntKind.u32.wrap ((a.toNat : Int) + (b.toNat : Int)) = ((a + b).toNat : Int) := by
      rw [wrap_u32]; simp [BitVec.toNat_add]
    simp only [binOp_add, Op.intArith, e]
    rfl
theorem rv_sub32 (hx : Env.ev E x = some (U32 a)) (hy : Env.ev E y = some (U32 b)) : RunsV P n S w0 ⟨dst, .binOp .sub xt x y yt, ty, pos, af, g⟩ E l (U32 (a - b)) :=
  rv_bin hx hy fun w => by
    have e : IntKind.u32.wrap ((a.toNat : Int) - (b.toNat : Int)) = ((a - b).toNat : Int) := by
      rw [wrap_u32]; rw [BitVec.toNat_sub]; have := a.isLt; have := b.isLt; omega
    simp only [binOp_sub, Op.intArith, e]
    rfl
theorem rv_mul32 (hx : Env.ev E x = some (U32 a)) (hy : Env.ev E y = some (U32 b)) : RunsV P n S w0 ⟨dst, .binOp .mul xt x y yt, ty, pos, af, g⟩ E l (U32 (a * b)) :=
  rv_bin hx hy fun w => by
    have e : IntKind.u32.wrap ((a.toNat : Int) * (b.toNat : Int)) = ((a * b).toNat : Int) := by
      rw [wrap_u32]; simp [BitVec.toNat_mul]
    simp only [binOp_mul, Op.intArith, e]
    rfl
theorem rv_shl32 {k' : IntKind} {z : Int} {s : Nat} (hx : Env.ev E x = some (U32 a)) (hy : Env.ev E y = some (.int k' z)) (hz : z = (s : Int)) : RunsV P n S w0 ⟨dst, .binOp .shl xt x y yt, ty, pos, af, g⟩ E l (U32 (a <<< s)) :=
  rv_shift hx hy fun w => by
    subst hz
    have h0 : ¬ ((s : Int) < 0) := by omega
    have e : IntKind.u32.wrap ((a.toNat : Int) * 2 ^ (min s IntKind.u32.bits)) = ((a <<< s).toNat : Int) := by
      rw [wrap_u32, BitVec.toNat_shiftLeft, Nat.shiftLeft_eq]
      simp only [IntKind.bits]
      by_cases hs : s ≤ 32
      · rw [Nat.min_eq_left hs]; simp
      · rw [Nat.min_eq_right (by omega)]
        have : (2 : Nat) ^ s = 2 ^ 32 * 2 ^ (s - 32) := by rw [← Nat.pow_add]; congr 1; omega
        rw [this, ← Nat.mul_assoc, Nat.mul_comm (a.toNat * 2 ^ 32), ← Nat.mul_assoc, Nat.mul_mod_left]
        simp
    simp only [binOp_shl, Op.shift, h0, if_false, Int.toNat_natCast, e]
    rfl
theorem rv_shr32 {k' : IntKind} {z : Int} {s : Nat} (hx : Env.ev E x = some (U32 a)) (hy : Env.ev E y = some (.int k' z)) (hz : z = (s : Int)) : RunsV P n S w0 ⟨dst, .binOp .shr xt x y yt, ty, pos, af, g⟩ E l (U32 (a >>> s)) :=
  rv_shift hx hy fun w => by
    subst hz
    have h0 : ¬ ((s : Int) < 0) := by omega
    have e : (a.toNat : Int).fdiv (2 ^ (min s IntKind.u32.bits)) = ((a >>> s).toNat : Int) := by
      rw [BitVec.toNat_ushiftRight, Nat.shiftRight_eq_div_pow, Int.fdiv_eq_ediv_of_nonneg _ (by exact Int.le_of_lt (Int.pow_pos (by decide)))]
      simp only [IntKind.bits]
      by_cases hs : s ≤ 32
      · rw [Nat.min_eq_left hs]; simp
      · rw [Nat.min_eq_right (by omega)]
        have h1 : a.toNat / 2 ^ s = 0 := Nat.div_eq_of_lt (Nat.lt_of_lt_of_le a.isLt (Nat.pow_le_pow_right (by decide) (by omega)))
        have h2 : a.toNat / 2 ^ 32 = 0 := Nat.div_eq_of_lt a.isLt
        rw [h1]
        have h3 : ((a.toNat / 2 ^ 32 : Nat) : Int) = 0 := by rw [h2]; rfl
        simpa using h3
    simp only [binOp_shr, Op.shift, h0, if_false, Int.toNat_natCast, e]
    rfl
theorem rv_neg32 (hx : Env.ev E x = some (U32 a)) : RunsV P n S w0 ⟨dst, .unOp .neg xt x, ty, pos, af, g⟩ E l (U32 (-a)) := fun t w hA _ => by
  have e : IntKind.u32.wrap (0 - (a.toNat : Int)) = ((-a).toNat : Int) := by
    rw [wrap_u32, BitVec.toNat_neg]; have := a.isLt; omega
  simp only [execOp, hA.ev hx, Op.unary, Op.intArith, e]
  rfl
theorem rv_com32 (hx : Env.ev E x = some (U32 a)) : RunsV P n S w0 ⟨dst, .unOp .xor xt x, ty, pos, af, g⟩ E l (U32 (~~~a)) := fun t w hA _ => by
  simp only [execOp, hA.ev hx]
  show Result.ok (Next.value (Value.int .u32 (IntKind.u32.wrap (((BitVec.ofInt 32 (if IntKind.u32.signed = true then -1 else IntKind.u32.max)) ^^^ (BitVec.ofInt 32 (a.toNat : Int))).toNat : Int)))) w = _
  rw [ofInt_toNat, show BitVec.ofInt 32 (if IntKind.u32.signed = true then -1 else IntKind.u32.max) = BitVec.allOnes 32 from by decide, BitVec.allOnes_xor, keep_u32]
theorem rv_eql32 (hx : Env.ev E x = some (U32 a)) (hy : Env.ev E y = some (U32 b)) : RunsV P n S w0 ⟨dst, .binOp .eql xt x y yt, ty, pos, af, g⟩ E l (.bool (decide (a = b))) :=
  rv_bin hx hy fun w => by
    have e : ((a.toNat : Int) == (b.toNat : Int)) = decide (a = b) := by
      rw [Bool.eq_iff_iff]; simp only [beq_iff_eq, decide_eq_true_eq]; exact ⟨fun h => BitVec.eq_of_toNat_eq (Int.ofNat.inj h), fun h => by rw [h]⟩
    simp only [binOp_eql, e]; rfl
theorem rv_neq32 (hx : Env.ev E x = some (U32 a)) (hy : Env.ev E y = some (U32 b)) : RunsV P n S w0 ⟨dst, .binOp .neq xt x y yt, ty, pos, af, g⟩ E l (.bool (decide (a ≠ b))) :=
  rv_bin hx hy fun w => by
    have e : ((a.toNat : Int) != (b.toNat : Int)) = decide (a ≠ b) := by
      rw [Bool.eq_iff_iff]; simp only [bne_iff_ne, ne_eq, decide_eq_true_eq]; exact ⟨fun h e => h (by rw [e]), fun h e => h (BitVec.eq_of_toNat_eq (Int.ofNat.inj e))⟩
    (simp only [binOp_neq, e]; try rfl)
theorem rv_lss32 (hx : Env.ev E x = some (U32 a)) (hy : Env.ev E y = some (U32 b)) : RunsV P n S w0 ⟨dst, .binOp .lss xt x y yt, ty, pos, af, g⟩ E l (.bool (decide (a.toNat < b.toNat))) :=
  rv_bin hx hy fun w => by simp [binOp_lss]
theorem rv_gtr32 (hx : Env.ev E x = some (U32 a)) (hy : Env.ev E y = some (U32 b)) : RunsV P n S w0 ⟨dst, .binOp .gtr xt x y yt, ty, pos, af, g⟩ E l (.bool (decide (b.toNat < a.toNat))) :=
  rv_bin hx hy fun w => by simp [binOp_gtr]
theorem rv_geq32 (hx : Env.ev E x = some (U32 a)) (hy : Env.ev E y = some (U32 b)) : RunsV P n S w0 ⟨dst, .binOp .geq xt x y yt, ty, pos, af, g⟩ E l (.bool (decide (b.toNat ≤ a.toNat))) :=
  rv_bin hx hy fun w => by simp [binOp_geq]
theorem rv_leq32 (hx : Env.ev E x = some (U32 a)) (hy : Env.ev E y = some (U32 b)) : RunsV P n S w0 ⟨dst, .binOp .leq xt x y yt, ty, pos, af, g⟩ E l (.bool (decide (a.toNat ≤ b.toNat))) :=
  rv_bin hx hy fun w => by simp [binOp_leq]
theorem rv_rem32 (hx : Env.ev E x = some (U32 a)) (hy : Env.ev E y = some (U32 b)) (hb : b.toNat ≠ 0) : RunsV P n S w0 ⟨dst, .binOp .rem xt x y yt, ty, pos, af, g⟩ E l (U32 (a % b)) :=
  rv_bin hx hy fun w => by
    have h0 : ((b.toNat : Int) = 0) = False := by simp; exact fun h => hb (by simp [h])
    have e2 : (a.toNat : Int).tmod b.toNat = ((a % b).toNat : Int) := by rw [BitVec.toNat_umod]; exact (Int.ofNat_tmod _ _).symm
    simp only [binOp_rem, Op.intDiv, h0, if_false, e2]
    rfl
end W32

section W64
variable {a b : BitVec 64}
theorem keep_u64 (a : BitVec 64) : IntKind.u64.wrap (a.toNat : Int) = (a.toNat : Int) := by
  rw [wrap_u64]; have := a.isLt; omega
theorem rv_and64 (hx : Env.ev E x = some (U64 a)) (hy : Env.ev E y = some (U64 b)) : RunsV P n S w0 ⟨dst, .binOp .and xt x y yt, ty, pos, af, g⟩ E l (U64 (a &&& b)) :=
  rv_bin hx hy fun w => by
    simp only [binOp_and]
    show Result.ok (Value.int .u64 (IntKind.u64.wrap (((BitVec.ofInt 64 (a.toNat : Int)) &&& (BitVec.ofInt 64 (b.toNat : Int))).toNat : Int))) w = _
    rw [ofInt_toNat, ofInt_toNat, keep_u64]
theorem rv_or64 (hx : Env.ev E x = some (U64 a)) (hy : Env.ev E y = some (U64 b)) : RunsV P n S w0 ⟨dst, .binOp .or xt x y yt, ty, pos, af, g⟩ E l (U64 (a ||| b)) :=
  rv_bin hx hy fun w => by
    simp only [binOp_or]
    show Result.ok (Value.int .u64 (IntKind.u64.wrap (((BitVec.ofInt 64 (a.toNat : Int)) ||| (BitVec.ofInt 64 (b.toNat : Int))).toNat : Int))) w = _
    rw [ofInt_toNat, ofInt_toNat, keep_u64]
theorem rv_xor64 (hx : Env.ev E x = some (U64 a)) (hy : Env.ev E y = some (U64 b)) : RunsV P n S w0 ⟨dst, .binOp .xor xt x y yt, ty, pos, af, g⟩ E l (U64 (a ^^^ b)) :=
  rv_bin hx hy fun w => by
    simp only [binOp_xor]
    show Result.ok (Value.int .u64 (IntKind.u64.wrap (((BitVec.ofInt 64 (a.toNat : Int)) ^^^ (BitVec.ofInt 64 (b.toNat : Int))).toNat : Int))) w = _
    rw [ofInt_toNat, ofInt_toNat, keep_u64]
theorem rv_add64 (hx : Env.ev E x = some (U64 a)) (hy : Env.ev E y = some (U64 b)) : RunsV P n S w0 ⟨dst, .binOp .add xt x y yt, ty, pos, af, g⟩ E l (U64 (a + b)) :=
  rv_bin hx hy fun w => by
    have e : IntKind.u64.wrap ((a.toNat : Int) + (b.toNat : Int)) = ((a + b).toNat : Int) := by
      rw [wrap_u64]; simp [BitVec.toNat_add]
    simp only [binOp_add, Op.intArith, e]
    rfl
theorem rv_sub64 (hx : Env.ev E x = some (U64 a)) (hy : Env.ev E y = some (U64 b)) : RunsV P n S w0 ⟨dst, .binOp .sub xt x y yt, ty, pos, af, g⟩ E l (U64 (a - b)) :=
  rv_bin hx hy fun w => by
    have e : IntKind.u64.wrap ((a.toNat : Int) - (b.toNat : Int)) = ((a - b).toNat : Int) := by
      rw [wrap_u64]; rw [BitVec.toNat_sub]; have := a.isLt; have := b.isLt; omega
    simp only [binOp_sub, Op.intArith, e]
    rfl
theorem rv_mul64 (hx : Env.ev E x = some (U64 a)) (hy : Env.ev E y = some (U64 b)) : RunsV P n S w0 ⟨dst, .binOp .mul xt x y yt, ty, pos, af, g⟩ E l (U64 (a * b)) :=
  rv_bin hx hy fun w => by
    have e : IntKind.u64.wrap ((a.toNat : Int) * (b.toNat : Int)) = ((a * b).toNat : Int) := by
      rw [wrap_u64]; simp [BitVec.toNat_mul]
    simp only [binOp_mul, Op.intArith, e]
    rfl
theorem rv_shl64 {k' : IntKind} {z : Int} {s : Nat} (hx : Env.ev E x = some (U64 a)) (hy : Env.ev E y = some (.int k' z)) (hz : z = (s : Int)) : RunsV P n S w0 ⟨dst, .binOp .shl xt x y yt, ty, pos, af, g⟩ E l (U64 (a <<< s)) :=
  rv_shift hx hy fun w => by
    subst hz
    have h0 : ¬ ((s : Int) < 0) := by omega
    have e : IntKind.u64.wrap ((a.toNat : Int) * 2 ^ (min s IntKind.u64.bits)) = ((a <<< s).toNat : Int) := by
      rw [wrap_u64, BitVec.toNat_shiftLeft, Nat.shiftLeft_eq]
      simp only [IntKind.bits]
      by_cases hs : s ≤ 64
      · rw [Nat.min_eq_left hs]; simp
      · rw [Nat.min_eq_right (by omega)]
        have : (2 : Nat) ^ s = 2 ^ 64 * 2 ^ (s - 64) := by rw [← Nat.pow_add]; congr 1; omega
        rw [this, ← Nat.mul_assoc, Nat.mul_comm (a.toNat * 2 ^ 64), ← Nat.mul_assoc, Nat.mul_mod_left]
        simp
    simp only [binOp_shl, Op.shift, h0, if_false, Int.toNat_natCast, e]
    rfl
theorem rv_shr64 {k' : IntKind} {z : Int} {s : Nat} (hx : Env.ev E x = some (U64 a)) (hy : Env.ev E y = some (.int k' z)) (hz : z = (s : Int)) : RunsV P n S w0 ⟨dst, .binOp .shr xt x y yt, ty, pos, af, g⟩ E l (U64 (a >>> s)) :=
  rv_shift hx hy fun w => by
    subst hz
    have h0 : ¬ ((s : Int) < 0) := by omega
    have e : (a.toNat : Int).fdiv (2 ^ (min s IntKind.u64.bits)) = ((a >>> s).toNat : Int) := by
      rw [BitVec.toNat_ushiftRight, Nat.shiftRight_eq_div_pow, Int.fdiv_eq_ediv_of_nonneg _ (by exact Int.le_of_lt (Int.pow_pos (by decide)))]
      simp only [IntKind.bits]
      by_cases hs : s ≤ 64
      · rw [Nat.min_eq_left hs]; simp
      · rw [Nat.min_eq_right (by omega)]
        have h1 : a.toNat / 2 ^ s = 0 := Nat.div_eq_of_lt (Nat.lt_of_lt_of_le a.isLt (Nat.pow_le_pow_right (by decide) (by omega)))
        have h2 : a.toNat / 2 ^ 64 = 0 := Nat.div_eq_of_lt a.isLt
        rw [h1]
        have h3 : ((a.toNat / 2 ^ 64 : Nat) : Int) = 0 := by rw [h2]; rfl
        simpa using h3
    simp only [binOp_shr, Op.shift, h0, if_false, Int.toNat_natCast, e]
    rfl
theorem rv_neg64 (hx : Env.ev E x = some (U64 a)) : RunsV P n S w0 ⟨dst, .unOp .neg xt x, ty, pos, af, g⟩ E l (U64 (-a)) := fun t w hA _ => by
  have e : IntKind.u64.wrap (0 - (a.toNat : Int)) = ((-a).toNat : Int) := by
    rw [wrap_u64, BitVec.toNat_neg]; have := a.isLt; omega
  simp only [execOp, hA.ev hx, Op.unary, Op.intArith, e]
  rfl
theorem rv_com64 (hx : Env.ev E x = some (U64 a)) : RunsV P n S w0 ⟨dst, .unOp .xor xt x, ty, pos, af, g⟩ E l (U64 (~~~a)) := fun t w hA _ => by
  simp only [execOp, hA.ev hx]
  show Result.ok (Next.value (Value.int .u64 (IntKind.u64.wrap (((BitVec.ofInt 64 (if IntKind.u64.signed = true then -1 else IntKind.u64.max)) ^^^ (BitVec.ofInt 64 (a.toNat : Int))).toNat : Int)))) w = _
  rw [ofInt_toNat, show BitVec.ofInt 64 (if IntKind.u64.signed = true then -1 else IntKind.u64.max) = BitVec.allOnes 64 from by decide, BitVec.allOnes_xor, keep_u64]
theorem rv_eql64 (hx : Env.ev E x = some (U64 a)) (hy : Env.ev E y = some (U64 b)) : RunsV P n S w0 ⟨dst, .binOp .eql xt x y yt, ty, pos, af, g⟩ E l (.bool (decide (a = b))) :=
  rv_bin hx hy fun w => by
    have e : ((a.toNat : Int) == (b.toNat : Int)) = decide (a = b) := by
      rw [Bool.eq_iff_iff]; simp only [beq_iff_eq, decide_eq_true_eq]; exact ⟨fun h => BitVec.eq_of_toNat_eq (Int.ofNat.inj h), fun h => by rw [h]⟩
    simp only [binOp_eql, e]; rfl
theorem rv_neq64 (hx : Env.ev E x = some (U64 a)) (hy : Env.ev E y = some (U64 b)) : RunsV P n S w0 ⟨dst, .binOp .neq xt x y yt, ty, pos, af, g⟩ E l (.bool (decide (a ≠ b))) :=
  rv_bin hx hy fun w => by
    have e : ((a.toNat : Int) != (b.toNat : Int)) = decide (a ≠ b) := by
      rw [Bool.eq_iff_iff]; simp only [bne_iff_ne, ne_eq, decide_eq_true_eq]; exact ⟨fun h e => h (by rw [e]), fun h e => h (BitVec.eq_of_toNat_eq (Int.ofNat.inj e))⟩
    (simp only [binOp_neq, e]; try rfl)
theorem rv_lss64 (hx : Env.ev E x = some (U64 a)) (hy : Env.ev E y = some (U64 b)) : RunsV P n S w0 ⟨dst, .binOp .lss xt x y yt, ty, pos, af, g⟩ E l (.bool (decide (a.toNat < b.toNat))) :=
  rv_bin hx hy fun w => by simp [binOp_lss]
theorem rv_gtr64 (hx : Env.ev E x = some (U64 a)) (hy : Env.ev E y = some (U64 b)) : RunsV P n S w0 ⟨dst, .binOp .gtr xt x y yt, ty, pos, af, g⟩ E l (.bool (decide (b.toNat < a.toNat))) :=
  rv_bin hx hy fun w => by simp [binOp_gtr]
theorem rv_geq64 (hx : Env.ev E x = some (U64 a)) (hy : Env.ev E y = some (U64 b)) : RunsV P n S w0 ⟨dst, .binOp .geq xt x y yt, ty, pos, af, g⟩ E l (.bool (decide (b.toNat ≤ a.toNat))) :=
  rv_bin hx hy fun w => by simp [binOp_geq]
theorem rv_leq64 (hx : Env.ev E x = some (U64 a)) (hy : Env.ev E y = some (U64 b)) : RunsV P n S w0 ⟨dst, .binOp .leq xt x y yt, ty, pos, af, g⟩ E l (.bool (decide (a.toNat ≤ b.toNat))) :=
  rv_bin hx hy fun w => by simp [binOp_leq]
theorem rv_rem64 (hx : Env.ev E x = some (U64 a)) (hy : Env.ev E y = some (U64 b)) (hb : b.toNat ≠ 0) : RunsV P n S w0 ⟨dst, .binOp .rem xt x y yt, ty, pos, af, g⟩ E l (U64 (a % b)) :=
  rv_bin hx hy fun w => by
    have h0 : ((b.toNat : Int) = 0) = False := by simp; exact fun h => hb (by simp [h])
    have e2 : (a.toNat : Int).tmod b.toNat = ((a % b).toNat : Int) := by rw [BitVec.toNat_umod]; exact (Int.ofNat_tmod _ _).symm
    simp only [binOp_rem, Op.intDiv, h0, if_false, e2]
    rfl
end W64

/-! conversions -/
theorem rv_convert {src dt : TypeId} {k k' : IntKind} {z : Int} {ds : TypeDesc} (hs : P.underlying src = some ds) (hd : P.underlying dt = some (.int k)) (hx : Env.ev E x = some (.int k' z)) :
    RunsV P n S w0 ⟨dst, .convert src dt x, ty, pos, af, g⟩ E l (.int k (k.wrap z)) := fun t w hA _ => by
  have h : (convert src dt (.int k' z)).run P w = .ok (.int k (k.wrap z)) w := by
    unfold convert
    simp only [Sem.run_bind, run_underlying hs, run_underlying hd, Result.andThen_ok]
    cases ds <;> rfl
  simp [execOp, hA.ev hx, h]
theorem rv_conv8to32 {src dt : TypeId} {ds : TypeDesc} {a : BitVec 8} (hs : P.underlying src = some ds) (hd : P.underlying dt = some (.int .u32)) (hx : Env.ev E x = some (U8 a)) :
    RunsV P n S w0 ⟨dst, .convert src dt x, ty, pos, af, g⟩ E l (U32 (a.setWidth 32)) := by
  have h := rv_convert (P := P) (n := n) (S := S) (w0 := w0) (dst := dst) (ty := ty) (pos := pos) (af := af) (g := g) (l := l) hs hd hx
  have e : IntKind.u32.wrap (a.toNat : Int) = ((a.setWidth 32).toNat : Int) := by
    rw [wrap_u32, BitVec.toNat_setWidth]; simp
  rwa [e] at h
theorem rv_conv8to64 {src dt : TypeId} {ds : TypeDesc} {a : BitVec 8} (hs : P.underlying src = some ds) (hd : P.underlying dt = some (.int .u64)) (hx : Env.ev E x = some (U8 a)) :
    RunsV P n S w0 ⟨dst, .convert src dt x, ty, pos, af, g⟩ E l (U64 (a.setWidth 64)) := by
  have h := rv_convert (P := P) (n := n) (S := S) (w0 := w0) (dst := dst) (ty := ty) (pos := pos) (af := af) (g := g) (l := l) hs hd hx
  have e : IntKind.u64.wrap (a.toNat : Int) = ((a.setWidth 64).toNat : Int) := by
    rw [wrap_u64, BitVec.toNat_setWidth]; simp
  rwa [e] at h
theorem rv_conv8toI {src dt : TypeId} {ds : TypeDesc} {a : BitVec 8} (hs : P.underlying src = some ds) (hd : P.underlying dt = some (.int .i64)) (hx : Env.ev E x = some (U8 a)) (hlt : a.toNat ≤ 9223372036854775807) :
    RunsV P n S w0 ⟨dst, .convert src dt x, ty, pos, af, g⟩ E l (vI a.toNat) := by
  have h := rv_convert (P := P) (n := n) (S := S) (w0 := w0) (dst := dst) (ty := ty) (pos := pos) (af := af) (g := g) (l := l) hs hd hx
  rwa [wrap_i64 (by omega) (by omega)] at h
theorem rv_convIto8 {src dt : TypeId} {ds : TypeDesc} {k : Nat} (hs : P.underlying src = some ds) (hd : P.underlying dt = some (.int .u8)) (hx : Env.ev E x = some (vI k)) :
    RunsV P n S w0 ⟨dst, .convert src dt x, ty, pos, af, g⟩ E l (U8 (BitVec.ofNat 8 k)) := by
  have h := rv_convert (P := P) (n := n) (S := S) (w0 := w0) (dst := dst) (ty := ty) (pos := pos) (af := af) (g := g) (l := l) hs hd hx
  have e : IntKind.u8.wrap (k : Int) = ((BitVec.ofNat 8 k).toNat : Int) := by
    rw [wrap_u8, BitVec.toNat_ofNat]; simp
  rwa [e] at h
theorem rv_conv32to8 {src dt : TypeId} {ds : TypeDesc} {a : BitVec 32} (hs : P.underlying src = some ds) (hd : P.underlying dt = some (.int .u8)) (hx : Env.ev E x = some (U32 a)) :
    RunsV P n S w0 ⟨dst, .convert src dt x, ty, pos, af, g⟩ E l (U8 (a.setWidth 8)) := by
  have h := rv_convert (P := P) (n := n) (S := S) (w0 := w0) (dst := dst) (ty := ty) (pos := pos) (af := af) (g := g) (l := l) hs hd hx
  have e : IntKind.u8.wrap (a.toNat : Int) = ((a.setWidth 8).toNat : Int) := by
    rw [wrap_u8, BitVec.toNat_setWidth]; simp
  rwa [e] at h
theorem rv_conv32to64 {src dt : TypeId} {ds : TypeDesc} {a : BitVec 32} (hs : P.underlying src = some ds) (hd : P.underlying dt = some (.int .u64)) (hx : Env.ev E x = some (U32 a)) :
    RunsV P n S w0 ⟨dst, .convert src dt x, ty, pos, af, g⟩ E l (U64 (a.setWidth 64)) := by
  have h := rv_convert (P := P) (n := n) (S := S) (w0 := w0) (dst := dst) (ty := ty) (pos := pos) (af := af) (g := g) (l := l) hs hd hx
  have e : IntKind.u64.wrap (a.toNat : Int) = ((a.setWidth 64).toNat : Int) := by
    rw [wrap_u64, BitVec.toNat_setWidth]; simp
  rwa [e] at h
theorem rv_conv32toI {src dt : TypeId} {ds : TypeDesc} {a : BitVec 32} (hs : P.underlying src = some ds) (hd : P.underlying dt = some (.int .i64)) (hx : Env.ev E x = some (U32 a)) (hlt : a.toNat ≤ 9223372036854775807) :
    RunsV P n S w0 ⟨dst, .convert src dt x, ty, pos, af, g⟩ E l (vI a.toNat) := by
  have h := rv_convert (P := P) (n := n) (S := S) (w0 := w0) (dst := dst) (ty := ty) (pos := pos) (af := af) (g := g) (l := l) hs hd hx
  rwa [wrap_i64 (by omega) (by omega)] at h
theorem rv_convIto32 {src dt : TypeId} {ds : TypeDesc} {k : Nat} (hs : P.underlying src = some ds) (hd : P.underlying dt = some (.int .u32)) (hx : Env.ev E x = some (vI k)) :
    RunsV P n S w0 ⟨dst, .convert src dt x, ty, pos, af, g⟩ E l (U32 (BitVec.ofNat 32 k)) := by
  have h := rv_convert (P := P) (n := n) (S := S) (w0 := w0) (dst := dst) (ty := ty) (pos := pos) (af := af) (g := g) (l := l) hs hd hx
  have e : IntKind.u32.wrap (k : Int) = ((BitVec.ofNat 32 k).toNat : Int) := by
    rw [wrap_u32, BitVec.toNat_ofNat]; simp
  rwa [e] at h
theorem rv_conv64to8 {src dt : TypeId} {ds : TypeDesc} {a : BitVec 64} (hs : P.underlying src = some ds) (hd : P.underlying dt = some (.int .u8)) (hx : Env.ev E x = some (U64 a)) :
    RunsV P n S w0 ⟨dst, .convert src dt x, ty, pos, af, g⟩ E l (U8 (a.setWidth 8)) := by
  have h := rv_convert (P := P) (n := n) (S := S) (w0 := w0) (dst := dst) (ty := ty) (pos := pos) (af := af) (g := g) (l := l) hs hd hx
  have e : IntKind.u8.wrap (a.toNat : Int) = ((a.setWidth 8).toNat : Int) := by
    rw [wrap_u8, BitVec.toNat_setWidth]; simp
  rwa [e] at h
theorem rv_conv64to32 {src dt : TypeId} {ds : TypeDesc} {a : BitVec 64} (hs : P.underlying src = some ds) (hd : P.underlying dt = some (.int .u32)) (hx : Env.ev E x = some (U64 a)) :
    RunsV P n S w0 ⟨dst, .convert src dt x, ty, pos, af, g⟩ E l (U32 (a.setWidth 32)) := by
  have h := rv_convert (P := P) (n := n) (S := S) (w0 := w0) (dst := dst) (ty := ty) (pos := pos) (af := af) (g := g) (l := l) hs hd hx
  have e : IntKind.u32.wrap (a.toNat : Int) = ((a.setWidth 32).toNat : Int) := by
    rw [wrap_u32, BitVec.toNat_setWidth]; simp
  rwa [e] at h
theorem rv_conv64toI {src dt : TypeId} {ds : TypeDesc} {a : BitVec 64} (hs : P.underlying src = some ds) (hd : P.underlying dt = some (.int .i64)) (hx : Env.ev E x = some (U64 a)) (hlt : a.toNat ≤ 9223372036854775807) :
    RunsV P n S w0 ⟨dst, .convert src dt x, ty, pos, af, g⟩ E l (vI a.toNat) := by
  have h := rv_convert (P := P) (n := n) (S := S) (w0 := w0) (dst := dst) (ty := ty) (pos := pos) (af := af) (g := g) (l := l) hs hd hx
  rwa [wrap_i64 (by omega) (by omega)] at h
theorem rv_convIto64 {src dt : TypeId} {ds : TypeDesc} {k : Nat} (hs : P.underlying src = some ds) (hd : P.underlying dt = some (.int .u64)) (hx : Env.ev E x = some (vI k)) :
    RunsV P n S w0 ⟨dst, .convert src dt x, ty, pos, af, g⟩ E l (U64 (BitVec.ofNat 64 k)) := by
  have h := rv_convert (P := P) (n := n) (S := S) (w0 := w0) (dst := dst) (ty := ty) (pos := pos) (af := af) (g := g) (l := l) hs hd hx
  have e : IntKind.u64.wrap (k : Int) = ((BitVec.ofNat 64 k).toNat : Int) := by
    rw [wrap_u64, BitVec.toNat_ofNat]; simp
  rwa [e] at h
theorem rv_convItoI {src dt : TypeId} {ds : TypeDesc} {z : Int} (hs : P.underlying src = some ds) (hd : P.underlying dt = some (.int .i64)) (hx : Env.ev E x = some (vI z)) (hlt : -9223372036854775808 ≤ z ∧ z ≤ 9223372036854775807) :
    RunsV P n S w0 ⟨dst, .convert src dt x, ty, pos, af, g⟩ E l (vI z) := by
  have h := rv_convert (P := P) (n := n) (S := S) (w0 := w0) (dst := dst) (ty := ty) (pos := pos) (af := af) (g := g) (l := l) hs hd hx
  rwa [wrap_i64 hlt.1 hlt.2] at h
end
end Go.Proofs.YtjhjjhpfjadjpaaDoor
