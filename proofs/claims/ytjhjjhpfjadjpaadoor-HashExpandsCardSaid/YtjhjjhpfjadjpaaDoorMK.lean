/- The constants of the reference's hashes: what its functions compute, in plain Lean. -/
import Derived.Test.YtjhjjhpfjadjpaaDoorMJ
namespace Go.Proofs.YtjhjjhpfjadjpaaDoor
set_option linter.all false
open Go
/-! ### primes -/
def primeN (n : Nat) : Bool := ((List.range n).all fun d => decide (d < 2) || decide (n < d * d) || decide (n % d ≠ 0)) && decide (1 < n)
def primesTo (k : Nat) : List (BitVec 64) := ((List.range k).filter primeN).map (BitVec.ofNat 64)
theorem toNat_small {n : Nat} (h : n ≤ 2000) : (BitVec.ofNat 64 n).toNat = n := by
  rw [BitVec.toNat_ofNat, Nat.mod_eq_of_lt (by omega)]
theorem sq_le {d n : Nat} (hd : d ≤ 33) (hn : n ≤ 1000) : ((BitVec.ofNat 64 d * BitVec.ofNat 64 d).toNat ≤ (BitVec.ofNat 64 n).toNat) ↔ d * d ≤ n := by
  have h1 : d * d ≤ 33 * 33 := Nat.mul_le_mul hd hd
  rw [← BitVec.ofNat_mul, toNat_small (by omega), toNat_small (by omega)]
theorem ofNat_ne {d : Nat} (h0 : 0 < d) (hd : d ≤ 1000) : (BitVec.ofNat 64 d).toNat ≠ 0 := by
  rw [toNat_small (by omega)]; omega
theorem rem_ofNat {d n : Nat} (hd : d ≤ 1000) (hn : n ≤ 1000) : (BitVec.ofNat 64 n % BitVec.ofNat 64 d = 0#64) ↔ n % d = 0 := by
  have h1 : (BitVec.ofNat 64 n % BitVec.ofNat 64 d).toNat = n % d := by
    rw [BitVec.toNat_umod, toNat_small (by omega), toNat_small (by omega)]
  constructor
  · intro h; rw [h] at h1; exact h1.symm
  · intro h; apply BitVec.eq_of_toNat_eq; rw [h1, h]; rfl
theorem lt_ofNat {n : Nat} (hn : n ≤ 1000) : ((1#64).toNat < (BitVec.ofNat 64 n).toNat) ↔ 1 < n := by
  rw [toNat_small (n := n) (by omega)]
  exact Iff.rfl
theorem primeN_false {n d : Nat} (h2 : 2 ≤ d) (hs : d * d ≤ n) (h : n % d = 0) : primeN n = false := by
  have hdn : d < n := Nat.lt_of_lt_of_le (by have := Nat.mul_le_mul_left d h2; omega) hs
  unfold primeN
  have : ((List.range n).all fun d => decide (d < 2) || decide (n < d * d) || decide (n % d ≠ 0)) = false := by
    rw [List.all_eq_false]
    refine ⟨d, List.mem_range.2 hdn, ?_⟩
    simp [h]; omega
  rw [this]; rfl
theorem primeN_true {n d : Nat} (hs : n < d * d) (h : ∀ e, 2 ≤ e → e < d → n % e ≠ 0) : primeN n = decide (1 < n) := by
  unfold primeN
  have : ((List.range n).all fun d => decide (d < 2) || decide (n < d * d) || decide (n % d ≠ 0)) = true := by
    rw [List.all_eq_true]
    intro e _
    by_cases h1 : e < 2
    · simp [h1]
    · by_cases h3 : e < d
      · have := h e (by omega) h3
        simp [this]
      · have : d * d ≤ e * e := Nat.mul_le_mul (by omega) (by omega)
        have h4 : n < e * e := by omega
        simp [h4]
  rw [this, Bool.true_and]
theorem primesTo_yes {k : Nat} (h : primeN k = true) : primesTo (k + 1) = primesTo k ++ [BitVec.ofNat 64 k] := by
  rw [primesTo, List.range_succ, List.filter_append, List.map_append]
  simp [h, primesTo]
theorem primesTo_no {k : Nat} (h : primeN k = false) : primesTo (k + 1) = primesTo k := by
  rw [primesTo, List.range_succ, List.filter_append, List.map_append]
  simp [h, primesTo]
theorem primesTo_mono (k d : Nat) : (primesTo k).length ≤ (primesTo (k + d)).length := by
  induction d with
  | zero => exact Nat.le_refl _
  | succ d ih =>
    refine Nat.le_trans ih ?_
    cases h : primeN (k + d) with
    | true => rw [← Nat.add_assoc, primesTo_yes h, List.length_append]; omega
    | false => rw [← Nat.add_assoc, primesTo_no h]; omega
theorem primes409 : (primesTo 409).length = 79 := by kernel_rfl
theorem primes410 : (primesTo 410).length = 80 := by kernel_rfl
theorem primes_lt {k : Nat} (h : (primesTo k).length < 80) : k < 410 := by
  apply Nat.lt_of_not_le
  intro h1
  have := primesTo_mono 410 (k - 410)
  rw [show 410 + (k - 410) = k by omega, primes410] at this
  omega
theorem primes_ge {k : Nat} (h : 80 ≤ (primesTo k).length) : 410 ≤ k := by
  apply Nat.le_of_not_lt
  intro h1
  have := primesTo_mono k (409 - k)
  rw [show k + (409 - k) = 409 by omega, primes409] at this
  omega
/-! ### numbers of several words -/
def tSum (a : BitVec 32) (b : List (BitVec 32)) (i j : Nat) (s : List (BitVec 32) × BitVec 64) : BitVec 64 := s.2 + a.setWidth 64 * (b.getD j 0#32).setWidth 64 + (s.1.getD (i + j) 0#32).setWidth 64
def tIn (a : BitVec 32) (b o : List (BitVec 32)) (i : Nat) : Nat → List (BitVec 32) × BitVec 64
  | 0 => (o, 0#64)
  | j + 1 => ((tIn a b o i j).1.set (i + j) ((tSum a b i j (tIn a b o i j)).setWidth 32), tSum a b i j (tIn a b o i j) >>> 32)
theorem length_tIn (a : BitVec 32) (b o : List (BitVec 32)) (i j : Nat) : (tIn a b o i j).1.length = o.length := by
  induction j with
  | zero => rfl
  | succ j ih => simp [tIn, ih]
def tOut (a b : List (BitVec 32)) : Nat → List (BitVec 32)
  | 0 => List.replicate (a.length + b.length) 0#32
  | i + 1 => (tIn (a.getD i 0#32) b (tOut a b i) i b.length).1.set (i + b.length) ((tIn (a.getD i 0#32) b (tOut a b i) i b.length).2.setWidth 32)
theorem length_tOut (a b : List (BitVec 32)) (i : Nat) : (tOut a b i).length = a.length + b.length := by
  induction i with
  | zero => simp [tOut]
  | succ i ih => simp [tOut, length_tIn, ih]
def timesW (a b : List (BitVec 32)) : List (BitVec 32) := tOut a b a.length
theorem length_timesW (a b : List (BitVec 32)) : (timesW a b).length = a.length + b.length := length_tOut a b _
def aboveW (a b : List (BitVec 32)) : Nat → Bool
  | 0 => false
  | i + 1 => if a.getD i 0#32 = b.getD i 0#32 then aboveW a b i else decide ((b.getD i 0#32).toNat < (a.getD i 0#32).toNat)
def limW (p : BitVec 64) (power : Nat) : List (BitVec 32) := (List.replicate (2 * power + 1) 0#32).set (2 * power) (p.setWidth 32)
def frT (r : List (BitVec 32)) (bit : Nat) : List (BitVec 32) := r.set (bit / 32) (r.getD (bit / 32) 0#32 ||| 1#32 <<< (bit % 32))
def frX (t : List (BitVec 32)) (power : Nat) : List (BitVec 32) := if power = 3 then timesW (timesW t t) t else timesW t t
def frB (p : BitVec 64) (power : Nat) (t : List (BitVec 32)) : Bool := aboveW (frX t power) (limW p power) (max (frX t power).length (limW p power).length)
def frW (p : BitVec 64) (power : Nat) : Nat → List (BitVec 32)
  | 0 => [0#32, 0#32, 0#32]
  | s + 1 => if frB p power (frT (frW p power s) (68 - s)) then frW p power s else frT (frW p power s) (68 - s)
theorem length_frT (r : List (BitVec 32)) (bit : Nat) : (frT r bit).length = r.length := by simp [frT]
theorem length_frW (p : BitVec 64) (power s : Nat) : (frW p power s).length = 3 := by
  induction s with
  | zero => rfl
  | succ s ih => rw [frW]; split <;> simp [length_frT, ih]
def fracW (p : BitVec 64) (power : Nat) : BitVec 64 := ((frW p power 69).getD 1 0#32).setWidth 64 <<< 32 ||| ((frW p power 69).getD 0 0#32).setWidth 64
theorem length_frX {t : List (BitVec 32)} (h : t.length = 3) (pw : Nat) : (frX t pw).length ≤ 9 := by
  unfold frX; split <;> simp [length_timesW, h]
theorem length_limW (p : BitVec 64) (pw : Nat) : (limW p pw).length = 2 * pw + 1 := by simp [limW]
def pl : List (BitVec 64) := primesTo 410
def constK : Nat → List (BitVec 64)
  | 0 => []
  | i + 1 => constK i ++ [fracW (pl.getD i 0#64) 3]
def constH (from_ : Nat) : Nat → List (BitVec 64)
  | 0 => []
  | i + 1 => constH from_ i ++ [fracW (pl.getD (from_ + i) 0#64) 2]
theorem length_constK (i : Nat) : (constK i).length = i := by
  induction i with
  | zero => rfl
  | succ i ih => simp [constK, ih]
theorem length_constH (f i : Nat) : (constH f i).length = i := by
  induction i with
  | zero => rfl
  | succ i ih => simp [constH, ih]
section
variable {n : Nat} {S : Nat → Prop} {w0 : World} {E : Env} {l : List Asn} {K : Act → World → Prop}
theorem st_ownNil64 (T : TypeId) (size : Nat) (h : St n S w0 K E (own nilS T size 0 (([] : List (BitVec 64)).map U64) :: l)) : St n S w0 K E l := h.mem fun w hM => hM.ownNil T size
theorem st_ownNil32 (T : TypeId) (size : Nat) (h : St n S w0 K E (own nilS T size 0 (([] : List (BitVec 32)).map U32) :: l)) : St n S w0 K E l := h.mem fun w hM => hM.ownNil T size
end
theorem getD_out {α : Type} {l : List α} {i : Nat} {d : α} (h : l.length ≤ i) : l.getD i d = d := by simp [h]
theorem Mem.c32Own {S : Nat → Prop} {w0 w : World} {l : List Asn} {i b n : Nat} {q : List (BitVec 32)} {T : TypeId} (M : Mem S w0 w l) (h : l[i]? = some (blk b (c32 q) T)) (hq : q.length = n) : Mem S w0 w (l.set i (own (sl b 0 n n) T 1 n (q.map U32))) :=
  M.toOwn (i := i) (off := 0) (n := n) (cap := n) (size := 1) (xs := q.map U32) h (by simp [hq]) (Nat.le_refl _) (by simp [c32, hq]) (fun j u hj => by
    rw [Nat.zero_add]
    show ((q.map U32).toArray)[j]? = some u
    rw [List.getElem?_toArray]; exact hj)
end Go.Proofs.YtjhjjhpfjadjpaaDoor
