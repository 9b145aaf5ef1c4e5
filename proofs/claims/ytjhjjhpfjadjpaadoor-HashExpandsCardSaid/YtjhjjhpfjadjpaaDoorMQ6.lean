/- The constants of the reference are the program's. -/
import Derived.Test.YtjhjjhpfjadjpaaDoorMQ1
import Derived.Test.YtjhjjhpfjadjpaaDoorMQ2
import Derived.Test.YtjhjjhpfjadjpaaDoorMQ3
import Derived.Test.YtjhjjhpfjadjpaaDoorMQ4
import Derived.Test.YtjhjjhpfjadjpaaDoorMQ5
namespace Go.Proofs.YtjhjjhpfjadjpaaDoor
set_option linter.all false
open Go
theorem constK_take (n : Nat) (h : n ≤ pl.length) : constK n = (pl.take n).map (fun p => fracW p 3) := by
  induction n with
  | zero => rfl
  | succ n ih =>
    rw [constK, ih (by omega), List.take_succ_eq_append_getElem (by omega), List.map_append]
    simp [show n < pl.length by omega]
theorem constH_take (f n : Nat) (h : f + n ≤ pl.length) : constH f n = ((pl.drop f).take n).map (fun p => fracW p 2) := by
  induction n with
  | zero => simp [constH]
  | succ n ih =>
    rw [constH, ih (by omega), List.take_succ_eq_append_getElem (by simp; omega), List.map_append]
    simp [show f + n < pl.length by omega]
theorem length_pl : pl.length = 80 := primes410
theorem constK80 : constK 80 = k512 := by
  rw [constK_take 80 (by rw [length_pl]; omega), List.take_of_length_le (by rw [length_pl]; omega), pl_eq, List.map_append, List.map_append, List.map_append, cb0, cb1, cb2, cb3]
  rfl
theorem constK64 : constK 64 = k512.take 64 := by
  rw [← constK80, constK_take 80 (by rw [length_pl]; omega), constK_take 64 (by rw [length_pl]; omega), ← List.map_take, List.take_take]
  rfl
theorem constH0 : constH 0 8 = h512 := by
  rw [constH_take 0 8 (by rw [length_pl]; omega), ← sq0, pl_eq]
  rfl
theorem constH8 : constH 8 8 = h384 := by
  rw [constH_take 8 8 (by rw [length_pl]; omega), ← sq1, pl_eq]
  rfl
theorem k256_of : (k512.take 64).map (fun x : BitVec 64 => (x >>> 32).setWidth 32) = k256 := by kernel_rfl
theorem h256_of : h512.map (fun x : BitVec 64 => (x >>> 32).setWidth 32) = h256 := by kernel_rfl
end Go.Proofs.YtjhjjhpfjadjpaaDoor
