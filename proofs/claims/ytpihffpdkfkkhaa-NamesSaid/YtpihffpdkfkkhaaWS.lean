/- What the laws' helper functions give, where the blocks are of 16 bytes. -/
import Derived.Test.YtpihffpdkfkkhaaWQ
namespace Go.Proofs.Ytpihffpdkfkkhaa
set_option linter.all false
open Go
theorem length_tMul (a b : List (BitVec 8)) : (tMul a b).length = 16 := length_elBytes _ _
theorem times16_calls (v u : Value) (a b : List (BitVec 8)) (ha : a.length = 16) (hb : b.length = 16) (w : World) (hA : Rd w v 16 1 (a.map U8)) (hB : Rd w u 16 1 (b.map U8)) : Calls Try.prog 7 #[v, u] w (fun e w' => ∃ r, e = .returned (.tuple #[r, vI 0]) ∧ True ∧ Mem (All w) w w' [rdA r 16 1 ((tMul a b).map U8)]) := by
  have h := aesTimes_calls v u a b w (by rw [ha]; exact hA) (by rw [hb]; exact hB)
  have hk : tOk a b = true := by simp [tOk, ha, hb]
  have e1 : tErr a b = 0 := by rw [tErr, hk]; rfl
  have e2 : tOut a b = tMul a b := by rw [tOut, hk]; rfl
  rw [e1, e2, length_tMul] at h
  exact h
theorem block16_calls (a : List (BitVec 8)) (w : World) : Calls Try.prog 6 #[vS a] w (fun e w' => ∃ v, e = .returned v ∧ Mem (All w) w w' [rdA v 16 1 ((blockL a).map U8)]) := by
  have h := block_calls a w
  rw [length_blockL] at h
  exact h
theorem lplus16_calls (v u : Value) (a b : List (BitVec 8)) (ha : a.length = 16) (hb : b.length = 16) (w : World) (hA : Rd w v 16 1 (a.map U8)) (hB : Rd w u 16 1 (b.map U8)) : Calls Try.prog 8 #[v, u] w (fun e w' => ∃ r, e = .returned r ∧ Mem (All w) w w' [rdA r 16 1 ((plusL a b 16).map U8)]) := by
  have h := lplus_calls v u a b ha hb w (by rw [ha]; exact hA) (by rw [hb]; exact hB)
  rw [length_plusL] at h
  exact h
theorem lentF_take (s : List (BitVec 8)) (k : Nat) (hk : k ≤ 160) : (lentF s k).take s.length = s := by
  induction k with
  | zero =>
    have e : min s.length (s.length + 160) = s.length := by omega
    simp [lentF, over, e]
  | succ k ih =>
    rw [lentF, List.take_set_of_le (by omega), ih (by omega)]
theorem lentRd {w : World} {v : Value} {c : List (BitVec 8)} (h : Rd w v (c.length - 0) 1 ((((lentL c).drop 0).take (c.length - 0)).map U8)) : Rd w v c.length 1 (c.map U8) := by
  have e : ((lentL c).drop 0).take (c.length - 0) = c := lentF_take c 160 (by omega)
  rw [e] at h
  exact h
theorem getI {l : List Int} {j : Nat} (h : j < l.length) : (l.map fun z => vI z)[j]? = some (vI (l.getD j 0)) := by simp [h]
theorem rd_I {l : List Asn} {S : Nat → Prop} {w0 : World} {i b len cap : Nat} {q : List Int} {cs : Array Value} {T : TypeId} (h : l[i]? = some (blk b cs T)) (he : cs = (q.map fun z => vI z).toArray) (hq : q.length = len) (hc : len ≤ cap) :
    ∀ w, Mem S w0 w l → Rd w (sl b 0 len cap) len 1 (q.map fun z => vI z) :=
  rd_blk h (by simp [hq]) hc fun j u hj => by rw [Nat.zero_add, he]; simpa using hj
theorem errs_get (k : Nat) (hk : k < 17) : (#[vI 0, vI 1, vI 2, vI 3, vI 4, vI 5, vI 6, vI 7, vI 8, vI 9, vI 10, vI 11, vI 12, vI 13, vI 14, vI 15, vI 16] : Array Value)[k]? = some (vI k) := by
  have : k = 0 ∨ k = 1 ∨ k = 2 ∨ k = 3 ∨ k = 4 ∨ k = 5 ∨ k = 6 ∨ k = 7 ∨ k = 8 ∨ k = 9 ∨ k = 10 ∨ k = 11 ∨ k = 12 ∨ k = 13 ∨ k = 14 ∨ k = 15 ∨ k = 16 := by omega
  rcases this with rfl | rfl | rfl | rfl | rfl | rfl | rfl | rfl | rfl | rfl | rfl | rfl | rfl | rfl | rfl | rfl | rfl <;> rfl
end Go.Proofs.Ytpihffpdkfkkhaa
