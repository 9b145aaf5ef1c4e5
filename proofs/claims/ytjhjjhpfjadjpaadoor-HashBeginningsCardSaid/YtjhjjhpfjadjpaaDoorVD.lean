/- Helpers: memory: slices that are read, slices that are owned, loads and stores. -/
import Derived.Test.YtjhjjhpfjadjpaaDoorVC
namespace Go.Proofs.YtjhjjhpfjadjpaaDoor
set_option linter.all false
open Go

/-! ### changing one assertion -/
section
variable {S : Nat → Prop} {w0 w w' : World} {l l' : List Asn}
theorem perm_set {i : Nat} {x y : Asn} (h : l[i]? = some x) : l.Perm (x :: l.eraseIdx i) ∧ (y :: l.eraseIdx i).Perm (l.set i y) := by
  induction l generalizing i with
  | nil => simp at h
  | cons a r ih =>
    cases i with
    | zero =>
      obtain rfl : a = x := by simpa using h
      exact ⟨.refl _, .refl _⟩
    | succ i =>
      obtain ⟨h1, h2⟩ := ih (by simpa using h)
      exact ⟨(h1.cons a).trans (.swap _ _ _), (List.Perm.swap _ _ _).trans (h2.cons a)⟩
theorem Mem.replace (M : Mem S w0 w l) {i : Nat} {x y : Asn} (h : l[i]? = some x) (ho : w'.os = w.os) (ht : w'.tape = w.tape) (hp : w'.output = w.output) (hz : w.heap.size ≤ w'.heap.size)
    (hold : ∀ b, b < w.heap.size → ¬ x.turn b → w'.heap[b]? = w.heap[b]?) (hy : y.holds w') (hf : ∀ b, y.foot b → x.turn b ∨ w.heap.size ≤ b) : Mem S w0 w' (l.set i y) := by
  obtain ⟨p1, p2⟩ := perm_set (y := y) h
  have M1 : Mem S w0 w ([x] ++ l.eraseIdx i) := M.perm p1
  have M2 : Mem (Old w x.turn) w w' [y] := by
    refine ⟨ho, ht, hp, hz, fun b hb => hb.1, fun b hb => hold b hb.1 hb.2, fun z hz => ?_, List.pairwise_singleton _ _, fun z hz b hb hs => ?_⟩
    · rw [List.mem_singleton.1 hz]; exact hy
    · rw [List.mem_singleton.1 hz] at hb
      rcases hf b hb with h1 | h1
      · exact hs.2 h1
      · exact absurd hs.1 (by omega)
  exact (Mem.frame M1 (fun b hb => ⟨x, List.mem_singleton.2 rfl, hb⟩) M2).perm p2
theorem Mem.add (M : Mem S w0 w l) {y : Asn} (ho : w'.os = w.os) (ht : w'.tape = w.tape) (hp : w'.output = w.output) (hz : w.heap.size ≤ w'.heap.size)
    (hold : ∀ b, b < w.heap.size → w'.heap[b]? = w.heap[b]?) (hy : y.holds w') (hf : ∀ b, y.foot b → w.heap.size ≤ b) : Mem S w0 w' (y :: l) := by
  have M2 : Mem (All w) w w' [y] := by
    refine ⟨ho, ht, hp, hz, fun b hb => hb.1, fun b hb => hold b hb.1, fun z hz => ?_, List.pairwise_singleton _ _, fun z hz b hb hs => ?_⟩
    · rw [List.mem_singleton.1 hz]; exact hy
    · rw [List.mem_singleton.1 hz] at hb
      exact absurd hs.1 (by have := hf b hb; omega)
  exact M.call M2
end

/-! ### slices that are read -/
def vblk : Value → Nat | .slice (some a) _ _ => a.block | _ => 0
def voff : Value → Nat | .slice (some a) _ _ => a.off | _ => 0
def vcap : Value → Nat | .slice _ _ c => c | _ => 0
def vfoot : Value → Nat → Prop | .slice (some a) _ _, b => b = a.block | _, _ => False
abbrev nilS : Value := .slice none 0 0
structure Rd (w : World) (v : Value) (n size : Nat) (xs : List Value) : Prop where
  shape : (v = nilS ∧ n = 0) ∨ v = sl (vblk v) (voff v) n (vcap v)
  len : xs.length = n * size
  cap : n ≤ vcap v
  cell : ∀ (j : Nat) (u : Value), xs[j]? = some u → w.cell? ⟨vblk v, voff v + j, none⟩ = some u
  live : ∀ b, vfoot v b → b < w.heap.size
section
variable {S : Nat → Prop} {w0 w w' : World} {l l' : List Asn} {v : Value} {n size : Nat} {xs : List Value}
theorem Rd.foot (h : Rd w v n size xs) {j : Nat} {u : Value} (hj : xs[j]? = some u) : vfoot v (vblk v) := by
  rcases h.shape with ⟨_, h2⟩ | h1
  · have := h.len; rw [h2, Nat.zero_mul] at this
    have : xs = [] := List.eq_nil_of_length_eq_zero this
    subst this; simp at hj
  · rw [h1]; rfl
theorem live_of {b : Nat} (hb : b < w.heap.size) (h : w'.heap[b]? = w.heap[b]?) : b < w'.heap.size := by
  by_cases hlt : b < w'.heap.size
  · exact hlt
  · rw [Array.getElem?_eq_none (by omega), Array.getElem?_eq_getElem hb] at h; cases h
theorem Rd.same (h : Rd w v n size xs) (hw : ∀ b, vfoot v b → w'.heap[b]? = w.heap[b]?) : Rd w' v n size xs :=
  ⟨h.shape, h.len, h.cap, fun j u hj => (World.cell?_of_block (w := w) (hw _ (h.foot hj))).trans (h.cell j u hj), fun b hb => live_of (h.live b hb) (hw b hb)⟩
theorem Mem.rd (M : Mem S w0 w l) (h : Rd w0 v n size xs) (hS : ∀ b, vfoot v b → S b) : Rd w v n size xs := h.same fun b hb => M.old b (hS b hb)
theorem rd_old (h : Rd w0 v n size xs) (hS : ∀ b, vfoot v b → S b) : ∀ w, Mem S w0 w l → Rd w v n size xs := fun _ M => M.rd h hS
theorem Rd.all (h : Rd w v n size xs) : ∀ b, vfoot v b → All w b := fun b hb => ⟨h.live b hb, fun h => h⟩
theorem Rd.nil (w : World) (size : Nat) : Rd w nilS 0 size [] := ⟨.inl ⟨rfl, rfl⟩, by simp, Nat.le_refl _, fun j u h => by simp at h, fun b h => h.elim⟩
theorem rd_blk {i b off len cap : Nat} {cs : Array Value} {T : TypeId} (h : l[i]? = some (blk b cs T)) (hlen : xs.length = len * size) (hc : len ≤ cap) (hx : ∀ j u, xs[j]? = some u → cs[off + j]? = some u) :
    ∀ w, Mem S w0 w l → Rd w (sl b off len cap) len size xs := fun w M => by
  obtain ⟨fr, h1, _⟩ := M.blkAt h
  refine ⟨.inr rfl, hlen, hc, fun j u hj => ?_, fun b' hb => ?_⟩
  · show w.cell? ⟨b, off + j, none⟩ = some u
    rw [cell_of_row w b (off + j) cs T fr h1]; exact hx j u hj
  · obtain rfl : b' = b := hb
    exact (blk b' cs T).live w (M.holds _ (List.mem_of_getElem? h)) b' rfl
/-- read-only memory that was made on the way -/
def rdA (v : Value) (n size : Nat) (xs : List Value) : Asn where
  holds w := Rd w v n size xs
  foot b := vfoot v b
  turn _ := False
  keep w w' h hr := hr.same h
  live _ h := h.live
  sub _ h := h.elim
theorem Mem.rdAt (M : Mem S w0 w l) {i : Nat} (h : l[i]? = some (rdA v n size xs)) : Rd w v n size xs := M.holds _ (List.mem_of_getElem? h)
theorem rd_rd {i : Nat} (h : l[i]? = some (rdA v n size xs)) : ∀ w, Mem S w0 w l → Rd w v n size xs := fun _ M => M.rdAt h
/-- part of a slice -/
def vsub (v : Value) (lo hi : Nat) (size : Nat) : Value :=
  match v with
  | .slice a _ cap => .slice (if cap = lo then a else a.map (·.add (lo * size))) (hi - lo) (cap - lo)
  | v => v
theorem vsub_sl (b off len cap lo hi size : Nat) (h : lo ≤ cap) : ∃ off', vsub (sl b off len cap) lo hi size = sl b off' (hi - lo) (cap - lo) ∧ (lo < cap → off' = off + lo * size) := by
  by_cases hc : cap = lo
  · exact ⟨off, by simp [vsub, hc], fun h => by omega⟩
  · refine ⟨off + lo * size, ?_, fun _ => rfl⟩
    simp only [vsub, hc, if_false, Option.map_some, Addr.add_lit]
theorem Rd.part (h : Rd w v n size xs) {lo hi : Nat} (h1 : lo ≤ hi) (h2 : hi ≤ n) : Rd w (vsub v lo hi size) (hi - lo) size ((xs.drop (lo * size)).take ((hi - lo) * size)) := by
  have hlen := h.len
  have hcap := h.cap
  have hl : ((xs.drop (lo * size)).take ((hi - lo) * size)).length = (hi - lo) * size := by
    rw [List.length_take, List.length_drop, hlen]
    have : lo * size + (hi - lo) * size ≤ n * size := by rw [← Nat.add_mul]; exact Nat.mul_le_mul_right _ (by omega)
    omega
  rcases h.shape with ⟨hv, hn⟩ | hv
  · subst hv
    have : hi = 0 := by omega
    subst this
    have : lo = 0 := by omega
    subst this
    refine ⟨.inl ⟨by simp [vsub], rfl⟩, hl, by simp, fun j u hj => ?_, fun b hb => ?_⟩
    · simp at hj
    · simp [vsub, vfoot] at hb
  · obtain ⟨off', e, he⟩ := vsub_sl (vblk v) (voff v) n (vcap v) lo hi size (by omega)
    rw [← hv] at e
    refine ⟨.inr (by rw [e]; rfl), hl, by rw [e]; show hi - lo ≤ vcap v - lo; omega, fun j u hj => ?_, fun b hb => ?_⟩
    · rw [e]
      show w.cell? ⟨vblk v, off' + j, none⟩ = some u
      have hjl : j < (hi - lo) * size := by have := (List.getElem?_eq_some_iff.1 hj).1; omega
      have hlt : lo < vcap v := by
        have : hi - lo ≠ 0 := fun e => by rw [e, Nat.zero_mul] at hjl; omega
        omega
      rw [he hlt, Nat.add_assoc]
      refine h.cell (lo * size + j) u ?_
      rw [List.getElem?_take] at hj
      rw [if_pos hjl, List.getElem?_drop] at hj
      exact hj
    · rw [e] at hb
      obtain rfl : b = vblk v := hb
      exact h.live _ (by rw [hv]; rfl)
end
end Go.Proofs.YtjhjjhpfjadjpaaDoor
