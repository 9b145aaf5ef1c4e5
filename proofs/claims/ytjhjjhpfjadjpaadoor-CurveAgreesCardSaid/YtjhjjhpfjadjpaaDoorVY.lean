/- Helpers: arguments that are kept as they were and may be held by variables that change. -/
import Derived.Test.YtjhjjhpfjadjpaaDoorVX
namespace Go.Proofs.YtjhjjhpfjadjpaaDoor
set_option linter.all false
open Go
/-- a slice of the caller's: it reads, and its block is as it was in w0 -/
def keptA (w0 : World) (v : Value) (n size : Nat) (xs : List Value) : Asn where
  holds w := Rd w v n size xs ∧ ∀ b, vfoot v b → w.heap[b]? = w0.heap[b]?
  foot b := vfoot v b
  turn _ := False
  keep w w' h hr := ⟨hr.1.same h, fun b hb => (h b hb).trans (hr.2 b hb)⟩
  live w hr b hb := hr.1.live b hb
  sub _ h := h.elim
section
variable {w0 w : World} {l : List Asn}
/-- what is read only may be named twice -/
theorem Mem.dup {S : Nat → Prop} (M : Mem S w0 w l) {i : Nat} {x : Asn} (h : l[i]? = some x) (hx : ∀ b, ¬ x.turn b) : Mem S w0 w (x :: l) := by
  have hm := List.mem_of_getElem? h
  refine { M with holds := fun y hy => ?_, apart := ?_, off := fun y hy b hb => ?_ }
  · rcases List.mem_cons.1 hy with rfl | hy
    · exact M.holds _ hm
    · exact M.holds _ hy
  · refine List.pairwise_cons.2 ⟨fun y hy b => ⟨fun ht => absurd ht (hx b), fun ht => ?_⟩, M.apart⟩
    intro hf
    obtain ⟨j, hj⟩ := List.mem_iff_getElem?.1 hy
    by_cases hji : j = i
    · subst hji
      rw [h] at hj
      obtain rfl := Option.some.inj hj
      exact hx b ht
    · have hil : i < l.length := (List.getElem?_eq_some_iff.1 h).1
      have hjl : j < l.length := (List.getElem?_eq_some_iff.1 hj).1
      have e1 : l[i] = x := (List.getElem?_eq_some_iff.1 h).2
      have e2 : l[j] = y := (List.getElem?_eq_some_iff.1 hj).2
      have hpw := List.pairwise_iff_getElem.1 M.apart
      rcases Nat.lt_or_gt_of_ne hji with hlt | hlt
      · have := hpw j i hjl hil hlt
        rw [e1, e2] at this
        exact (this b).1 ht hf
      · have := hpw i j hil hjl hlt
        rw [e1, e2] at this
        exact (this b).2 ht hf
  · rcases List.mem_cons.1 hy with rfl | hy
    · exact M.off _ hm b hb
    · exact M.off _ hy b hb
theorem rdA_turn {v : Value} {n size : Nat} {xs : List Value} : ∀ b, ¬ (rdA v n size xs).turn b := fun _ h => h
theorem keptA_turn {w0 : World} {v : Value} {n size : Nat} {xs : List Value} : ∀ b, ¬ (keptA w0 v n size xs).turn b := fun _ h => h
/-- one argument, kept -/
theorem Mem.kept1 {v : Value} {n size : Nat} {xs : List Value} (h : Rd w v n size xs) : Mem (Old w (vfoot v)) w w [rdA v n size xs, keptA w v n size xs] := by
  have M0 : Mem (Old w (vfoot v)) w w [] := .nil w fun _ h => h.1
  refine ⟨rfl, rfl, rfl, Nat.le_refl _, fun b hb => hb.1, fun _ _ => rfl, fun x hx => ?_, ?_, fun x hx b hb hS => ?_⟩
  · simp only [List.mem_cons, List.not_mem_nil, or_false] at hx
    rcases hx with rfl | rfl
    · exact h
    · exact ⟨h, fun _ _ => rfl⟩
  · have t : ∀ x ∈ [rdA v n size xs, keptA w v n size xs], ∀ b, ¬ x.turn b := by
      intro x hx b
      simp only [List.mem_cons, List.not_mem_nil, or_false] at hx
      rcases hx with rfl | rfl <;> exact fun h => h
    exact List.pairwise_iff_forall_sublist.2 fun {a c} hs b => ⟨fun h => absurd h (t a (hs.subset (by simp)) b), fun h => absurd h (t c (hs.subset (by simp)) b)⟩
  · simp only [List.mem_cons, List.not_mem_nil, or_false] at hx
    rcases hx with rfl | rfl <;> exact hS.2 hb
/-- two of them, the second twice -/
theorem Mem.kept2 {v u : Value} {n n' size size' : Nat} {xs ys : List Value} (h : Rd w v n size xs) (h' : Rd w u n' size' ys) :
    Mem (Old w (fun b => vfoot v b ∨ vfoot u b)) w w [rdA v n size xs, rdA u n' size' ys, rdA u n' size' ys, keptA w v n size xs, keptA w u n' size' ys] := by
  refine ⟨rfl, rfl, rfl, Nat.le_refl _, fun b hb => hb.1, fun _ _ => rfl, fun x hx => ?_, ?_, fun x hx b hb hS => ?_⟩
  · simp only [List.mem_cons, List.not_mem_nil, or_false] at hx
    rcases hx with rfl | rfl | rfl | rfl | rfl
    · exact h
    · exact h'
    · exact h'
    · exact ⟨h, fun _ _ => rfl⟩
    · exact ⟨h', fun _ _ => rfl⟩
  · have t : ∀ x ∈ [rdA v n size xs, rdA u n' size' ys, rdA u n' size' ys, keptA w v n size xs, keptA w u n' size' ys], ∀ b, ¬ x.turn b := by
      intro x hx b
      simp only [List.mem_cons, List.not_mem_nil, or_false] at hx
      rcases hx with rfl | rfl | rfl | rfl | rfl <;> exact fun h => h
    exact List.pairwise_iff_forall_sublist.2 fun {a c} hs b => ⟨fun h => absurd h (t a (hs.subset (by simp)) b), fun h => absurd h (t c (hs.subset (by simp)) b)⟩
  · simp only [List.mem_cons, List.not_mem_nil, or_false] at hx
    rcases hx with rfl | rfl | rfl | rfl | rfl
    · exact hS.2 (.inl hb)
    · exact hS.2 (.inr hb)
    · exact hS.2 (.inr hb)
    · exact hS.2 (.inl hb)
    · exact hS.2 (.inr hb)
/-- leaving: what is new, the arguments as they were -/
theorem Mem.leave1 {w' : World} {v : Value} {n size : Nat} {xs : List Value} {x : Asn} (M : Mem (Old w (vfoot v)) w w' [x, keptA w v n size xs]) (hx : ∀ b, x.foot b → x.turn b) : Mem (All w) w w' [x] := by
  have hk : (keptA w v n size xs).holds w' := M.holds _ (by simp)
  have hap := (List.pairwise_cons.1 M.apart).1 _ (List.mem_singleton.2 rfl)
  refine ⟨M.os, M.tape, M.output, M.size, fun b hb => hb.1, fun b hb => ?_, fun y hy => M.holds y (by simp at hy ⊢; exact .inl hy), List.pairwise_singleton _ _, fun y hy b hf hb => ?_⟩
  · by_cases hv : vfoot v b
    · exact hk.2 b hv
    · exact M.old b ⟨hb.1, hv⟩
  · obtain rfl := List.mem_singleton.1 hy
    by_cases hv : vfoot v b
    · exact (hap b).1 (hx b hf) hv
    · exact M.off _ (List.mem_cons_self) b hf ⟨hb.1, hv⟩
theorem Mem.leave2 {w' : World} {v u : Value} {n n' size size' : Nat} {xs ys : List Value} {x : Asn} (M : Mem (Old w (fun b => vfoot v b ∨ vfoot u b)) w w' [x, keptA w v n size xs, keptA w u n' size' ys]) (hx : ∀ b, x.foot b → x.turn b) : Mem (All w) w w' [x] := by
  have hk : (keptA w v n size xs).holds w' := M.holds _ (by simp)
  have hk2 : (keptA w u n' size' ys).holds w' := M.holds _ (by simp)
  have hap := (List.pairwise_cons.1 M.apart).1 (keptA w v n size xs) (by simp)
  have hap2 := (List.pairwise_cons.1 M.apart).1 (keptA w u n' size' ys) (by simp)
  refine ⟨M.os, M.tape, M.output, M.size, fun b hb => hb.1, fun b hb => ?_, fun y hy => M.holds y (by simp at hy ⊢; exact .inl hy), List.pairwise_singleton _ _, fun y hy b hf hb => ?_⟩
  · by_cases hv : vfoot v b ∨ vfoot u b
    · rcases hv with hv | hv
      · exact hk.2 b hv
      · exact hk2.2 b hv
    · exact M.old b ⟨hb.1, hv⟩
  · obtain rfl := List.mem_singleton.1 hy
    by_cases hv : vfoot v b ∨ vfoot u b
    · rcases hv with hv | hv
      · exact (hap b).1 (hx b hf) hv
      · exact (hap2 b).1 (hx b hf) hv
    · exact M.off _ (List.mem_cons_self) b hf ⟨hb.1, hv⟩
theorem own_turn {v : Value} {T : TypeId} {size n : Nat} {xs : List Value} : ∀ b, (own v T size n xs).foot b → (own v T size n xs).turn b := fun _ h => h
/-- the first elements of a slice of one's own -/
theorem own_head {u : Value} {T : TypeId} {m k : Nat} {xs : List Value} (h : (own u T 1 m xs).holds w) (hk : k ≤ m) (h0 : 0 < k) : (own (vsub u 0 k 1) T 1 k (xs.take k)).holds w := by
  obtain ⟨hl, hor⟩ := h
  rcases hor with ⟨hu, hm⟩ | ⟨cs, fr, hu, hcap, hfit, hblk, hfz, hcell⟩
  · omega
  · generalize vblk u = b0 at *
    generalize voff u = o0 at *
    generalize vcap u = c0 at *
    subst hu
    have hc : ¬ c0 = 0 := by omega
    have e : vsub (sl b0 o0 m c0) 0 k 1 = sl b0 o0 k c0 := by simp [vsub, hc, Addr.add_lit]
    rw [e]
    refine ⟨by rw [List.length_take, hl]; omega, .inr ⟨cs, fr, rfl, by simp [vcap]; omega, by simpa [vcap, voff] using hfit, by simpa [vblk] using hblk, hfz, fun j x hj => ?_⟩⟩
    rw [List.getElem?_take] at hj
    split at hj
    · simpa [voff] using hcell j x hj
    · cases hj
theorem Mem.ownHead' {S : Nat → Prop} {w0 : World} {l : List Asn} {i : Nat} (M : Mem S w0 w l) {u : Value} {T : TypeId} {m k : Nat} {xs : List Value} (h : l[i]? = some (own u T 1 m xs)) (hk : k ≤ m) (h0 : 0 < k) : Mem S w0 w (l.set i (own (vsub u 0 k 1) T 1 k (xs.take k))) :=
  M.replace h rfl rfl rfl (Nat.le_refl _) (fun _ _ _ => rfl) (own_head (M.holds _ (List.mem_of_getElem? h)) hk h0) (fun b hb => .inl (vfoot_cut hb))
end
end Go.Proofs.YtjhjjhpfjadjpaaDoor
