/- Helpers: words within a larger block. -/
import Derived.Test.YtjhjjhpfjadjpaaDoorMH
namespace Go.Proofs.YtjhjjhpfjadjpaaDoor
set_option linter.all false
open Go
theorem spl_get {α : Type} (f : α → Value) (d : α) {cs : Array Value} {off : Nat} {q : List α} {j : Nat} (hs : off + q.length ≤ cs.size) (hj : j < q.length) : (spl cs off (q.map f))[off + j]? = some (f (q.getD j d)) := by
  rw [get_spl, if_pos (by simp; omega), Nat.add_sub_cancel_left]
  simp [hj]
theorem spl_set {α : Type} (f : α → Value) {cs : Array Value} {off : Nat} {q : List α} {j : Nat} {x : α} (hs : off + q.length ≤ cs.size) (hj : j < q.length) : spl (spl cs off (q.map f)) (off + j) [f x] = spl cs off ((q.set j x).map f) := by
  apply Array.ext_getElem?
  intro i
  rw [get_spl, get_spl, get_spl]
  simp only [size_spl, List.length_map, List.length_cons, List.length_nil, List.length_set]
  by_cases h1 : i = off + j
  · subst h1
    rw [if_pos (by omega), if_pos (by omega)]
    have e : off + j - off = j := by omega
    rw [e]
    simp [hj]
  · rw [if_neg (by omega)]
    by_cases h2 : off ≤ i ∧ i < off + q.length ∧ i < cs.size
    · rw [if_pos h2, if_pos h2]
      have e : j ≠ i - off := by omega
      simp [List.getElem?_set_ne e]
    · rw [if_neg h2, if_neg h2]
theorem spl_ext {cs : Array Value} {off : Nat} {vs : List Value} (hs : off + vs.length ≤ cs.size) : (spl cs off vs).extract off (off + vs.length) = vs.toArray := by
  apply Array.ext_getElem?
  intro i
  rw [Array.getElem?_extract]
  by_cases hi : i < vs.length
  · rw [if_pos (by simp; omega), get_spl, if_pos (by omega), Nat.add_sub_cancel_left]
    simp
  · rw [if_neg (by simp; omega)]
    simp [hi]
theorem spl_ext32 {cs : Array Value} {off : Nat} {q : List (BitVec 32)} (hs : off + 8 ≤ cs.size) (hq : q.length = 8) : (spl cs off (q.map U32)).extract off (off + 8) = c32 q := by
  have := spl_ext (cs := cs) (off := off) (vs := q.map U32) (by simp [hq]; exact hs)
  rw [List.length_map, hq] at this
  exact this
theorem spl_ext64 {cs : Array Value} {off : Nat} {q : List (BitVec 64)} (hs : off + 8 ≤ cs.size) (hq : q.length = 8) : (spl cs off (q.map U64)).extract off (off + 8) = c64 q := by
  have := spl_ext (cs := cs) (off := off) (vs := q.map U64) (by simp [hq]; exact hs)
  rw [List.length_map, hq] at this
  exact this
end Go.Proofs.YtjhjjhpfjadjpaaDoor
