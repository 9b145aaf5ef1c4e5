/- Helpers: a row of slices that are read. -/
import Derived.Test.YtjhjjhpfjadjpaaDoorVM
namespace Go.Proofs.YtjhjjhpfjadjpaaDoor
set_option linter.all false
open Go
def rdAll (vs : List Value) (ls : List (List (BitVec 8))) : Asn where
  holds w := vs.length = ls.length ∧ ∀ (k : Nat) (v : Value) (x : List (BitVec 8)), vs[k]? = some v → ls[k]? = some x → Rd w v x.length 1 (x.map U8)
  foot b := ∃ v ∈ vs, vfoot v b
  turn _ := False
  keep w w' h hr := ⟨hr.1, fun k v x h1 h2 => (hr.2 k v x h1 h2).same fun b hb => h b ⟨v, List.mem_of_getElem? h1, hb⟩⟩
  live w hr b hb := by
    obtain ⟨v, hv, hb⟩ := hb
    obtain ⟨k, hk⟩ := List.mem_iff_getElem?.1 hv
    have hkl : k < ls.length := by rw [← hr.1]; exact (List.getElem?_eq_some_iff.1 hk).1
    exact (hr.2 k v ls[k] hk (List.getElem?_eq_getElem hkl)).live b hb
  sub _ h := h.elim
section
variable {S : Nat → Prop} {w0 w : World} {l : List Asn} {vs : List Value} {ls : List (List (BitVec 8))} {v : Value} {x : List (BitVec 8)} {i k : Nat}
theorem rdAll_get (h : l[i]? = some (rdAll vs ls)) (hv : vs[k]? = some v) (hx : ls[k]? = some x) : ∀ w, Mem S w0 w l → Rd w v x.length 1 (x.map U8) := fun w M => (M.holds _ (List.mem_of_getElem? h)).2 k v x hv hx
theorem Mem.allNil (M : Mem S w0 w l) : Mem S w0 w (rdAll [] [] :: l) :=
  M.add rfl rfl rfl (Nat.le_refl _) (fun _ _ => rfl) ⟨rfl, fun k v x h => by simp at h⟩ (fun b hb => by obtain ⟨v, hv, _⟩ := hb; cases hv)
theorem Mem.allAdd (M : Mem S w0 w (rdA v x.length 1 (x.map U8) :: l)) (h : l[i]? = some (rdAll vs ls)) : Mem S w0 w (l.set i (rdAll (vs ++ [v]) (ls ++ [x]))) := by
  obtain ⟨p1, p2⟩ := perm_set (y := rdAll (vs ++ [v]) (ls ++ [x])) h
  have M1 : Mem S w0 w (rdA v x.length 1 (x.map U8) :: rdAll vs ls :: l.eraseIdx i) := M.perm (p1.cons _)
  refine Mem.perm ?_ p2
  obtain ⟨a1, a2⟩ := List.pairwise_cons.1 M1.apart
  obtain ⟨a3, a4⟩ := List.pairwise_cons.1 a2
  have h1 : Rd w v x.length 1 (x.map U8) := M1.holds _ List.mem_cons_self
  have h2 := M1.holds _ (List.mem_cons_of_mem _ List.mem_cons_self)
  have hf : ∀ b, (rdAll (vs ++ [v]) (ls ++ [x])).foot b → vfoot v b ∨ (rdAll vs ls).foot b := fun b hb => by
    obtain ⟨u, hu, hb⟩ := hb
    rcases List.mem_append.1 hu with hu | hu
    · exact .inr ⟨u, hu, hb⟩
    · rw [List.mem_singleton.1 hu] at hb; exact .inl hb
  refine { M1 with holds := fun y hy => ?_, apart := ?_, off := fun y hy b hb => ?_ }
  · rcases List.mem_cons.1 hy with rfl | hy
    · refine ⟨by simp [h2.1], fun k u z hk hz => ?_⟩
      have hl : vs.length = ls.length := h2.1
      by_cases hlt : k < vs.length
      · rw [List.getElem?_append_left hlt] at hk
        rw [List.getElem?_append_left (by omega)] at hz
        exact h2.2 k u z hk hz
      · have hke : k = vs.length := by
          have := (List.getElem?_eq_some_iff.1 hk).1
          simp at this; omega
        subst hke
        simp at hk
        rw [hl] at hz
        simp at hz
        subst hk; subst hz
        exact h1
    · exact M1.holds y (List.mem_cons_of_mem _ (List.mem_cons_of_mem _ hy))
  · refine List.pairwise_cons.2 ⟨fun y hy b => ⟨fun h => h.elim, fun ht hb => ?_⟩, a4⟩
    rcases hf b hb with hb | hb
    · exact (a1 y (List.mem_cons_of_mem _ hy) b).2 ht hb
    · exact (a3 y hy b).2 ht hb
  · rcases List.mem_cons.1 hy with rfl | hy
    · rcases hf b hb with hb | hb
      · exact M1.off _ List.mem_cons_self b hb
      · exact M1.off _ (List.mem_cons_of_mem _ List.mem_cons_self) b hb
    · exact M1.off y (List.mem_cons_of_mem _ (List.mem_cons_of_mem _ hy)) b hb
/-- an owned slice that a parameter gives -/
theorem Mem.paramOwn {u : Value} {T : TypeId} {size n : Nat} {xs : List Value} (h : (own u T size n xs).holds w) : Mem (Old w (vfoot u)) w w [own u T size n xs] :=
  ⟨rfl, rfl, rfl, Nat.le_refl _, fun b hb => hb.1, fun _ _ => rfl, fun x hx => by rw [List.mem_singleton.1 hx]; exact h, List.pairwise_singleton _ _, fun x hx b' hb hs => by
    rw [List.mem_singleton.1 hx] at hb; exact hs.2 hb⟩
/-- the reference's cipher: a struct of the words and the table -/
def cipA (c : Nat) (T : TypeId) (vk vb : Value) (vs : List Value) (ws : List (List (BitVec 8))) (bx : List (BitVec 8)) : Asn where
  holds w := (∃ fr, w.heap[c]? = some (.cells #[vk, vb] T fr)) ∧ Rd w vk vs.length 1 vs ∧ Rd w vb bx.length 1 (bx.map U8) ∧ (rdAll vs ws).holds w
  foot b := b = c ∨ vfoot vk b ∨ vfoot vb b ∨ (rdAll vs ws).foot b
  turn _ := False
  keep w w' h hr := ⟨by obtain ⟨fr, h1⟩ := hr.1; exact ⟨fr, (h c (.inl rfl)).trans h1⟩, hr.2.1.same fun b hb => h b (.inr (.inl hb)), hr.2.2.1.same fun b hb => h b (.inr (.inr (.inl hb))), (rdAll vs ws).keep w w' (fun b hb => h b (.inr (.inr (.inr hb)))) hr.2.2.2⟩
  live w hr b hb := by
    rcases hb with rfl | hb | hb | hb
    · obtain ⟨fr, h1⟩ := hr.1
      by_cases hlt : b < w.heap.size
      · exact hlt
      · rw [Array.getElem?_eq_none (by omega)] at h1; cases h1
    · exact hr.2.1.live b hb
    · exact hr.2.2.1.live b hb
    · exact (rdAll vs ws).live w hr.2.2.2 b hb
  sub _ h := h.elim
section
variable {c : Nat} {T : TypeId} {vk vb : Value} {bx : List (BitVec 8)} {ws : List (List (BitVec 8))}
theorem cip_at (h : (cipA c T vk vb vs ws bx).holds w0) (hS : ∀ b, (cipA c T vk vb vs ws bx).foot b → S b) (M : Mem S w0 w l) : (cipA c T vk vb vs ws bx).holds w :=
  (cipA c T vk vb vs ws bx).keep w0 w (fun b hb => M.old b (hS b hb)) h
theorem cip_keys (h : (cipA c T vk vb vs ws bx).holds w0) (hS : ∀ b, (cipA c T vk vb vs ws bx).foot b → S b) : ∀ w, Mem S w0 w l → Rd w vk vs.length 1 vs := fun w M => (cip_at h hS M).2.1
theorem cip_box (h : (cipA c T vk vb vs ws bx).holds w0) (hS : ∀ b, (cipA c T vk vb vs ws bx).foot b → S b) : ∀ w, Mem S w0 w l → Rd w vb bx.length 1 (bx.map U8) := fun w M => (cip_at h hS M).2.2.1
theorem cip_word {x : List (BitVec 8)} (h : (cipA c T vk vb vs ws bx).holds w0) (hS : ∀ b, (cipA c T vk vb vs ws bx).foot b → S b) (hk : k < vs.length) (hx : ws[k]? = some x) : ∀ w, Mem S w0 w l → Rd w (vs.getD k nilS) x.length 1 (x.map U8) := fun w M =>
  (cip_at h hS M).2.2.2.2 k _ x (by simp [hk]) hx
theorem cip_box8 {m : Nat} (hm : bx.length = m) (h : (cipA c T vk vb vs ws bx).holds w0) (hS : ∀ b, (cipA c T vk vb vs ws bx).foot b → S b) : ∀ w, Mem S w0 w l → Rd w vb m 1 (bx.map U8) := fun w M => by rw [← hm]; exact cip_box h hS w M
theorem cip_sep {u : Value} {T' : TypeId} {sz nn : Nat} {xs : List Value} (h : (cipA c T vk vb vs ws bx).holds w0) (hS : ∀ b, (cipA c T vk vb vs ws bx).foot b → S b) (M : Mem S w0 w l) (hl : l[i]? = some (own u T' sz nn xs)) : ∀ b, (cipA c T vk vb vs ws bx).foot b → Old w (vfoot u) b := fun b hb =>
  ⟨(cipA c T vk vb vs ws bx).live w (cip_at h hS M) b hb, fun hf => M.off _ (List.mem_of_getElem? hl) b hf (hS b hb)⟩
theorem cip_row (h : (cipA c T vk vb vs ws bx).holds w0) : ∃ fr, w0.heap[c]? = some (.cells #[vk, vb] T fr) := h.1
end
end
section
variable {P : Program} {n : Nat} {S : Nat → Prop} {w0 : World} {E : Env} {l l' : List Asn} {Q : Exit → Act → World → Prop} {ops : Array Oper} {rest : List Oper} {ty T : TypeId} {pos : String} {af : Array Edge} {d i size nn : Nat} {u : Value} {xs ys : List Value}
/-- make([]byte, n), as a slice of one's own -/
theorem st_makeO8 {t e : TypeId} {x y : Operand} {bytes len : Nat} (ht : P.underlying t = some (.slice e)) (hz : TyZ P e (.int .u8 0) 1 bytes) (hx : Env.ev E x = some (vI len)) (hy : Env.ev E y = some (vI len))
    (hb : len * bytes ≤ 281474976710656) (hc : len ≤ 9223372036854775807) (hd : d < n)
    (h : ∀ v', St n S w0 (wpList P ops Q rest) ((d, v') :: E) (own v' e 1 len ((List.replicate len 0#8).map U8) :: l)) :
    St n S w0 (wpList P ops Q (⟨some d, .makeSlice t x y, ty, pos, af, none⟩ :: rest)) E l :=
  st_make8 ht hz hx hy (Nat.le_refl _) hb hc hd fun b _ => (h _).mem fun w hM => by
    have := hM.toOwn (i := 0) (off := 0) (n := len) (cap := len) (size := 1) (xs := (List.replicate len 0#8).map U8) rfl (by simp) (Nat.le_refl _) (by simp) (fun j u hj => by rw [Nat.zero_add]; show ((List.replicate len 0#8).map U8).toArray[j]? = some u; rw [List.getElem?_toArray]; exact hj)
    exact this
/-- a call that writes through a slice -/
theorem st_callO {f : FuncId} {as : List Operand} {vs : List Value} {ats : Array TypeId} (hf : Callable P f) (hv : evs E as = some vs) (hl : l[i]? = some (own u T size nn xs))
    (C : ∀ w, Mem S w0 w l → Calls P f vs.toArray w fun e w' => e = .returned (.tuple #[]) ∧ Mem (Old w (vfoot u)) w w' [own u T size nn ys]) (hd : d < n) (hl' : l.set i (own u T size nn ys) = l')
    (h : St n S w0 (wpList P ops Q rest) ((d, .tuple #[]) :: E) l') :
    St n S w0 (wpList P ops Q (⟨some d, .call { callee := .value (.func f), args := as.toArray, argTypes := ats }, ty, pos, af, none⟩ :: rest)) E l := by
  subst hl'
  obtain ⟨p1, p2⟩ := perm_set (y := own u T size nn ys) hl
  refine st_call (fun _ : Unit => .tuple #[]) (fun _ => True) (fun _ => [own u T size nn ys]) (ms := fun _ => vfoot u) (lm := [own u T size nn xs]) (lf := l.eraseIdx i) hf hv p1 (fun w hM => ⟨fun b' hb => ⟨_, List.mem_singleton.2 rfl, hb⟩, ?_⟩) hd fun _ _ => ?_
  · exact (C w hM).mono fun e w' he => ⟨(), he.1, trivial, he.2⟩
  · exact h.mem fun w hM => hM.perm p2
theorem Mem.ownAt {w : World} (M : Mem S w0 w l) (hl : l[i]? = some (own u T size nn xs)) : (own u T size nn xs).holds w := M.holds _ (List.mem_of_getElem? hl)
end
end Go.Proofs.YtjhjjhpfjadjpaaDoor
