/- THE PLAIN LAW OF THE HASHES: the reference's answer is the program's. -/
import Derived.Test.YtjhjjhpfjadjpaaDoorPJ
import Derived.Test.YtjhjjhpfjadjpaaDoorHT
namespace Go.Proofs.YtjhjjhpfjadjpaaDoor
set_option linter.all false
open Go
theorem shr_get (L : List (BitVec 64)) (u t : Nat) : L.getD t 0#64 >>> u = (L.map (fun x : BitVec 64 => x >>> u)).getD t 0#64 := by
  rw [List.getD_eq_getElem?_getD, List.getD_eq_getElem?_getD, List.getElem?_map]
  cases L[t]? with
  | none => simp
  | some a => rfl
theorem hk32 (t : Nat) : (k512.take 64).getD t 0#64 >>> upR 32 = rW (F256.k.getD t 0#32) := by
  rw [shr_get, ← getD_r (.inl rfl)]
  have : (k512.take 64).map (fun x : BitVec 64 => x >>> upR 32) = F256.k.map rW := by kernel_rfl
  rw [this]
theorem hk64 (t : Nat) : k512.getD t 0#64 >>> upR 64 = rW (F512.k.getD t 0#64) := by
  show k512.getD t 0#64 >>> 0 = rW (k512.getD t 0#64)
  simp [rW]
theorem init0 : initR 32 h512 8 = h256.map rW := by kernel_rfl
theorem init1 : initR 64 h384 8 = h384.map rW := by kernel_rfl
theorem init2 : initR 64 h512 8 = h512.map rW := by kernel_rfl
theorem with_gen {n : Nat} (hn : n = 32 ∨ n = 64) {F : Fam n} {K H : List (BitVec 64)} (h0 : F.big0 = b0R n) (h1 : F.big1 = b1R n) (h2 : F.small0 = b2R n) (h3 : F.small1 = b3R n) (hk : ∀ t, K.getD t 0#64 >>> upR n = rW (F.k.getD t 0#n)) (hK : K.length = F.k.length) (hK16 : 16 ≤ F.k.length)
    (hh : List (BitVec n)) (h8 : hh.length = 8) (hH : initR n H 8 = hh.map rW) (s : List (BitVec 8)) (hs : s.length ≤ 1000000) (tail sz : Nat) :
    withR n sz K H (padW s (2 * n) tail) = (sumW F (2 * n) tail hh s).take sz := by
  have e : 16 * nbR n = 2 * n := by rcases hn with rfl | rfl <;> rfl
  have hb : 0 < 2 * n := by rcases hn with rfl | rfl <;> decide
  rw [withR, e, padW_eq hs (2 * n) tail hb, feed_eq hn h0 h1 h2 h3 hk hK hK16 _ hh h8 hH _ (by rw [Nat.mul_comm]; exact Nat.div_mul_le_self _ _), out_eq hn, sumW]
theorem with_eq0 (s : List (BitVec 8)) (hs : s.length ≤ 1000000) : withR 32 32 (constK 64) (constH 0 8) (padW s 64 8) = hsum 0 s := by
  rw [constK64, constH0]
  exact with_gen (.inl rfl) (F := F256) rfl rfl rfl rfl hk32 rfl (by decide) h256 rfl init0 s hs 8 32
theorem with_eq1 (s : List (BitVec 8)) (hs : s.length ≤ 1000000) : withR 64 48 (constK 80) (constH 8 8) (padW s 128 16) = hsum 1 s := by
  rw [constK80, constH8]
  exact with_gen (.inr rfl) (F := F512) rfl rfl rfl rfl hk64 rfl (by decide) h384 rfl init1 s hs 16 48
theorem with_eq2 (s : List (BitVec 8)) (hs : s.length ≤ 1000000) : withR 64 64 (constK 80) (constH 0 8) (padW s 128 16) = hsum 2 s := by
  rw [constK80, constH0]
  exact with_gen (.inr rfl) (F := F512) rfl rfl rfl rfl hk64 rfl (by decide) h512 rfl init2 s hs 16 64
end Go.Proofs.YtjhjjhpfjadjpaaDoor
