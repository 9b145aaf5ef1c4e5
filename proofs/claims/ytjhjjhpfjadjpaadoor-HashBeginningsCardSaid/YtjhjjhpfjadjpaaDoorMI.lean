/- States of hashes: what memory holds, and what is fed, in plain Lean. -/
import Derived.Test.YtjhjjhpfjadjpaaDoorVT
namespace Go.Proofs.YtjhjjhpfjadjpaaDoor
set_option linter.all false
open Go
/-! ### a state's cells -/
def stC {α : Type} (U : α → Value) (fp : Nat) (h : List α) (vb : Value) (fed : BitVec 64) : Array Value := (pt fp 0 :: (h.map U ++ [vb, U64 fed])).toArray
section
variable {α : Type} {U : α → Value} {fp : Nat} {h h' : List α} {vb v : Value} {fed fed' : BitVec 64}
theorem size_stC (hh : h.length = 8) : (stC U fp h vb fed).size = 11 := by simp [stC, hh]
theorem stC_0 : (stC U fp h vb fed)[0]? = some (pt fp 0) := by simp [stC]
theorem stC_9 (hh : h.length = 8) : (stC U fp h vb fed)[9]? = some vb := by
  simp only [stC, List.getElem?_toArray, List.getElem?_cons_succ]
  rw [List.getElem?_append_right (by simp [hh])]
  simp [hh]
theorem stC_10 (hh : h.length = 8) : (stC U fp h vb fed)[10]? = some (U64 fed) := by
  simp only [stC, List.getElem?_toArray, List.getElem?_cons_succ]
  rw [List.getElem?_append_right (by simp [hh])]
  simp [hh]
theorem list8 {α : Type} {s : List α} (h : s.length = 8) : ∃ a0 a1 a2 a3 a4 a5 a6 a7, s = [a0, a1, a2, a3, a4, a5, a6, a7] := by
  match s, h with
  | [a0, a1, a2, a3, a4, a5, a6, a7], _ => exact ⟨_, _, _, _, _, _, _, _, rfl⟩
theorem stC_set9 (hh : h.length = 8) : spl (stC U fp h vb fed) 9 [v] = stC U fp h v fed := by
  obtain ⟨a0, a1, a2, a3, a4, a5, a6, a7, rfl⟩ := list8 hh
  rfl
theorem stC_set10 (hh : h.length = 8) : spl (stC U fp h vb fed) 10 [U64 fed'] = stC U fp h vb fed' := by
  obtain ⟨a0, a1, a2, a3, a4, a5, a6, a7, rfl⟩ := list8 hh
  rfl
theorem stC_spl (hh : h.length = 8) (hh' : h'.length = 8) : spl (stC U fp h vb fed) 1 (h'.map U) = stC U fp h' vb fed := by
  obtain ⟨a0, a1, a2, a3, a4, a5, a6, a7, rfl⟩ := list8 hh
  obtain ⟨b0, b1, b2, b3, b4, b5, b6, b7, rfl⟩ := list8 hh'
  show _ = _
  kernel_rfl
theorem stC_h (hh : h.length = 8) : (stC U fp h vb fed).extract 1 (1 + 8) = (h.map U).toArray := by
  obtain ⟨a0, a1, a2, a3, a4, a5, a6, a7, rfl⟩ := list8 hh
  rfl
theorem one_stC (hU : ∀ a, (U a).oneCell' = true) (hv : vb.oneCell' = true) : ∀ u ∈ (stC U fp h vb fed).toList, u.oneCell' = true := by
  intro u hu
  simp only [stC, List.mem_cons, List.mem_append, List.mem_map, List.not_mem_nil, or_false] at hu
  rcases hu with rfl | ⟨a, _, rfl⟩ | rfl | rfl
  · rfl
  · exact hU a
  · exact hv
  · rfl
end
/-! ### feeding -/
section
variable {n : Nat} (F : Fam n) (bs : Nat) (h : List (BitVec n))
def fdH (x : List (BitVec 8)) : Nat → List (BitVec n)
  | 0 => h
  | i + 1 => blockW F (fdH x i) (((x.drop (bs * i)).drop 0).take (bs - 0))
theorem length_fdH (x : List (BitVec 8)) (i : Nat) : (fdH F bs h x i).length = h.length := by
  induction i with
  | zero => rfl
  | succ i ih => rw [fdH, length_blockW, ih]
theorem fdH_app (x y : List (BitVec 8)) (i : Nat) (hi : bs * i ≤ x.length) : fdH F bs h (x ++ y) i = fdH F bs h x i := by
  induction i with
  | zero => rfl
  | succ i ih =>
    have h1 : bs * i + bs ≤ x.length := by rw [← Nat.mul_succ]; exact hi
    rw [fdH, fdH, ih (by omega), List.drop_append_of_le_length (by omega), List.drop_zero, List.drop_zero, List.take_append_of_le_length (by rw [List.length_drop]; omega)]
/-- what is left of the bytes that were fed -/
def restB (x : List (BitVec 8)) : List (BitVec 8) := x.drop (bs * (x.length / bs))
theorem length_restB (x : List (BitVec 8)) : (restB bs x).length = x.length - bs * (x.length / bs) := by simp [restB]
end
/-! ### the end of a text -/
def zpad : Nat → List (BitVec 8)
  | 0 => [128#8]
  | k + 1 => zpad k ++ [0#8]
theorem length_zpad (k : Nat) : (zpad k).length = k + 1 := by
  induction k with
  | zero => rfl
  | succ k ih => simp [zpad, ih]
def lbyte (fed : BitVec 64) (m : Nat) : BitVec 8 := if m < 8 then ((fed <<< 3) >>> (8 * m)).setWidth 8 else if m = 8 then (fed >>> 61).setWidth 8 else 0#8
def lpad (z : List (BitVec 8)) (fed : BitVec 64) (tail : Nat) : Nat → List (BitVec 8)
  | 0 => z
  | j + 1 => lpad z fed tail j ++ [lbyte fed (tail - 1 - j)]
theorem length_lpad (z : List (BitVec 8)) (fed : BitVec 64) (tail j : Nat) : (lpad z fed tail j).length = z.length + j := by
  induction j with
  | zero => rfl
  | succ j ih => simp [lpad, ih]; omega
def zcount (len tail bs : Nat) : Nat := (bs - (len + 1 + tail) % bs) % bs
def endB (x : List (BitVec 8)) (bs tail : Nat) : List (BitVec 8) := lpad (zpad (zcount (restB bs x).length tail bs)) (BitVec.ofNat 64 x.length) tail tail
/-- a word's bytes, the highest first -/
def wout {n : Nat} (out : List (BitVec 8)) (w : BitVec n) : Nat → List (BitVec 8)
  | 0 => out
  | j + 1 => wout out w j ++ [(w >>> (n - 8 - 8 * j)).setWidth 8]
theorem length_wout {n : Nat} (out : List (BitVec 8)) (w : BitVec n) (j : Nat) : (wout out w j).length = out.length + j := by
  induction j with
  | zero => rfl
  | succ j ih => simp [wout, ih]; omega
def hout {n : Nat} (h : List (BitVec n)) : Nat → List (BitVec 8)
  | 0 => []
  | i + 1 => wout (hout h i) (h.getD i 0#n) (n / 8)
theorem length_hout {n : Nat} (h : List (BitVec n)) (i : Nat) : (hout h i).length = i * (n / 8) := by
  induction i with
  | zero => simp [hout]
  | succ i ih => rw [hout, length_wout, ih, Nat.succ_mul]
/-- the hash of what was fed, whole -/
def sumW {n : Nat} (F : Fam n) (bs tail : Nat) (h : List (BitVec n)) (x : List (BitVec 8)) : List (BitVec 8) :=
  hout (fdH F bs h (x ++ endB x bs tail) ((x ++ endB x bs tail).length / bs)) 8
/-! ### in memory -/
/-- a family, for reading -/
def famA {n : Nat} (U : BitVec n → Value) (T : TypeId) (fp : Nat) (kv : Value) (F : Fam n) : Asn where
  holds w := (∃ fr : Nat × Nat, w.heap[fp]? = some (.cells #[kv, vI F.big0.1, vI F.big0.2.1, vI F.big0.2.2, vI F.big1.1, vI F.big1.2.1, vI F.big1.2.2, vI F.small0.1, vI F.small0.2.1, vI F.small0.2.2, vI F.small1.1, vI F.small1.2.1, vI F.small1.2.2] T fr)) ∧ Rd w kv F.k.length 1 (F.k.map U)
  foot b := b = fp ∨ vfoot kv b
  turn _ := False
  keep w w' h hr := ⟨by obtain ⟨fr, h1⟩ := hr.1; exact ⟨fr, (h fp (.inl rfl)).trans h1⟩, hr.2.same fun b hb => h b (.inr hb)⟩
  live w hr b hb := by
    rcases hb with rfl | hb
    · obtain ⟨fr, h1⟩ := hr.1
      exact (Array.getElem?_eq_some_iff.1 h1).1
    · exact hr.2.live b hb
  sub _ h := h.elim
theorem famA_at {n : Nat} {U : BitVec n → Value} {T : TypeId} {fp : Nat} {kv : Value} {F : Fam n} {S : Nat → Prop} {w0 w : World} {l : List Asn} (h : (famA U T fp kv F).holds w0) (hS : ∀ b, (famA U T fp kv F).foot b → S b) (M : Mem S w0 w l) : (famA U T fp kv F).holds w :=
  (famA U T fp kv F).keep w0 w (fun b hb => M.old b (hS b hb)) h
/-- a state that was fed x -/
def stL {n : Nat} (U : BitVec n → Value) (T : TypeId) (F : Fam n) (bs : Nat) (h0 : List (BitVec n)) (sb fp : Nat) (vb : Value) (x : List (BitVec 8)) : List Asn :=
  [blk sb (stC U fp (fdH F bs h0 x (x.length / bs)) vb (BitVec.ofNat 64 x.length)) T, own vb 5 1 (restB bs x).length ((restB bs x).map U8)]
def stM {n : Nat} (U : BitVec n → Value) (T : TypeId) (F : Fam n) (bs : Nat) (h0 : List (BitVec n)) (sb fp : Nat) (vb : Value) (x : List (BitVec 8)) : Asn := sepA (stL U T F bs h0 sb fp vb x)
theorem stL_own {n : Nat} {U : BitVec n → Value} {T : TypeId} {F : Fam n} {bs : Nat} {h0 : List (BitVec n)} {sb fp : Nat} {vb : Value} {x : List (BitVec 8)} : ∀ a ∈ stL U T F bs h0 sb fp vb x, ∀ b, a.foot b → a.turn b := by
  intro a ha b hb
  simp only [stL, List.mem_cons, List.not_mem_nil, or_false] at ha
  rcases ha with rfl | rfl <;> exact hb
theorem Mem.ownNext {S : Nat → Prop} {w0 w : World} {l : List Asn} {i : Nat} {u : Value} {T : TypeId} {N bs k : Nat} {y : List (BitVec 8)} (M : Mem S w0 w l) (h : l[i]? = some (own u T 1 (N - bs * k) ((y.drop (bs * k)).map U8))) (hle : bs * k + bs ≤ N) :
    Mem S w0 w (l.set i (own (vsub u bs (N - bs * k) 1) T 1 (N - bs * (k + 1)) ((y.drop (bs * (k + 1))).map U8))) := by
  have h1 := M.ownCut (lo := bs) h (by omega)
  have e1 : ((y.drop (bs * k)).map U8).drop bs = (y.drop (bs * (k + 1))).map U8 := by
    rw [← List.map_drop, List.drop_drop, Nat.mul_succ]
  have e2 : N - bs * k - bs = N - bs * (k + 1) := by rw [Nat.mul_succ, Nat.sub_sub]
  rw [e1, e2] at h1
  exact h1
theorem vfoot_sub {v : Value} {lo hi size b : Nat} (h : vfoot (vsub v lo hi size) b) : vfoot v b := by
  cases v with
  | slice a len cap =>
    cases a with
    | none => simp only [vsub] at h; split at h <;> exact h
    | some a =>
      simp only [vsub] at h
      split at h
      · exact h
      · have e : (a.add (lo * size)).block = a.block := by unfold Addr.add; split <;> rfl
        have h' : b = (a.add (lo * size)).block := h
        rw [e] at h'
        exact h'
  | _ => exact h
section
variable {P : Program} {n : Nat} {S : Nat → Prop} {w0 : World} {E : Env} {l l' : List Asn} {Q : Exit → Act → World → Prop} {ops : Array Oper} {rest : List Oper} {ty T t : TypeId} {pos : String} {af : Array Edge} {x y : Operand} {i b : Nat} {q r : Array Value}
/-- a whole struct, stored -/
theorem st_storeAll (hx : Env.ev E x = some (pt b 0)) (hy : Env.ev E y = some (.agg r)) (hl : l[i]? = some (blk b q T)) (hi : Sz P t r.size) (hk : q.size = r.size) (h1 : ∀ u ∈ r.toList, u.oneCell' = true) (hl' : l.set i (blk b r T) = l') (h : St n S w0 (wpList P ops Q rest) E l') :
    St n S w0 (wpList P ops Q (⟨none, .store t x y, ty, pos, af, none⟩ :: rest)) E l :=
  st_store (vs := r.toList) hx hy hl (by simpa using hi) (by simp [Value.cells]) (by simp [hk]) h1 (by
    apply Array.ext_getElem?
    intro j
    rw [get_spl]
    by_cases hj : j < r.size
    · rw [if_pos (by simp; omega)]; simp
    · rw [if_neg (by simp; omega), Array.getElem?_eq_none (by omega), Array.getElem?_eq_none (by omega)]) hl' h
end
end Go.Proofs.YtjhjjhpfjadjpaaDoor
