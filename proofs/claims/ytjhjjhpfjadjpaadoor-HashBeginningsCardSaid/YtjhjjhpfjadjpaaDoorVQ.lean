/- Helpers: words of the reference's cipher, in memory. -/
import Derived.Test.YtjhjjhpfjadjpaaDoorVP
namespace Go.Proofs.YtjhjjhpfjadjpaaDoor
set_option linter.all false
open Go
section
variable {S : Nat → Prop} {w0 w : World} {l : List Asn} {v u : Value} {T : TypeId} {x : List (BitVec 8)} {xs : List Value} {vs : List Value} {ls : List (List (BitVec 8))} {i k m size : Nat} {a : Asn}
/-- an entry, brought to the front -/
theorem Mem.front (M : Mem S w0 w l) (h : l[i]? = some a) : Mem S w0 w (a :: l.eraseIdx i) := M.perm (perm_set (y := a) h).1
theorem Mem.allPush (M : Mem S w0 w l) (hk : l[k]? = some (own v T 1 m (x.map U8))) (hx : x.length = m) (h : (l.eraseIdx k)[i]? = some (rdAll vs ls)) :
    Mem S w0 w ((l.eraseIdx k).set i (rdAll (vs ++ [v]) (ls ++ [x]))) := by
  have hlt : k < l.length := (List.getElem?_eq_some_iff.1 hk).1
  have h1 := M.toRd hk
  have h2 := h1.front (i := k) (a := rdA v m 1 (x.map U8)) (by rw [List.getElem?_set_self hlt])
  have e : (l.set k (rdA v m 1 (x.map U8))).eraseIdx k = l.eraseIdx k := by rw [List.eraseIdx_set_eq]
  rw [e] at h2
  subst hx
  exact Mem.allAdd h2 h
theorem Mem.dupAll (M : Mem S w0 w l) (h : l[i]? = some (rdAll vs ls)) (hv : vs[k]? = some v) (hx : ls[k]? = some x) (hm : x.length = m) : Mem S w0 w (rdA v m 1 (x.map U8) :: l) := by
  have hmem := List.mem_of_getElem? h
  have hf : ∀ b, (rdA v m 1 (x.map U8)).foot b → (rdAll vs ls).foot b := fun b hb => ⟨v, List.mem_of_getElem? hv, hb⟩
  refine { M with holds := fun y hy => ?_, apart := ?_, off := fun y hy b hb => ?_ }
  · rcases List.mem_cons.1 hy with rfl | hy
    · subst hm; exact (M.holds _ hmem).2 k v x hv hx
    · exact M.holds y hy
  · refine List.pairwise_cons.2 ⟨fun y hy b => ⟨fun h => h.elim, fun ht hb => ?_⟩, M.apart⟩
    obtain ⟨j, hj⟩ := List.mem_iff_getElem?.1 hy
    have hpw := List.pairwise_iff_getElem.1 M.apart
    obtain ⟨hil, ei⟩ := List.getElem?_eq_some_iff.1 h
    obtain ⟨hjl, ej⟩ := List.getElem?_eq_some_iff.1 hj
    rcases Nat.lt_trichotomy i j with hij | hij | hij
    · have := hpw i j hil hjl hij
      rw [ei, ej] at this
      exact (this b).2 ht (hf b hb)
    · subst hij
      rw [ei] at ej
      subst ej
      exact ht
    · have := hpw j i hjl hil hij
      rw [ei, ej] at this
      exact (this b).1 ht (hf b hb)
  · rcases List.mem_cons.1 hy with rfl | hy
    · exact M.off _ hmem b (hf b hb)
    · exact M.off y hy b hb
theorem rdAll_get' (h : l[i]? = some (rdAll vs ls)) (hv : vs[k]? = some v) (hx : ls[k]? = some x) (hm : x.length = m) : ∀ w, Mem S w0 w l → Rd w v m 1 (x.map U8) := fun w M => by
  subst hm; exact rdAll_get h hv hx w M
theorem rdAll_one (h : l[i]? = some (rdAll vs ls)) (M : Mem S w0 w l) : ∀ u ∈ vs, u.oneCell' = true := fun u hu => by
  have hh := M.holds _ (List.mem_of_getElem? h)
  obtain ⟨k, hk⟩ := List.mem_iff_getElem?.1 hu
  have hkl : k < ls.length := by rw [← hh.1]; exact (List.getElem?_eq_some_iff.1 hk).1
  rcases (hh.2 k u ls[k] hk (List.getElem?_eq_getElem hkl)).shape with ⟨h1, _⟩ | h1 <;> rw [h1] <;> rfl
/-- the whole cipher, for reading -/
theorem Mem.toCip {c : Nat} {vk vb : Value} {u' : TypeId} {bx : List (BitVec 8)} {mk nb : Nat} (M : Mem S w0 w (rdAll vs ls :: own vk T 1 mk vs :: blk c #[vk, vb] u' :: rdA vb nb 1 (bx.map U8) :: l)) (hnb : bx.length = nb) :
    Mem S w0 w (cipA c u' vk vb vs ls bx :: l) := by
  obtain ⟨a1, a2⟩ := List.pairwise_cons.1 M.apart
  obtain ⟨a3, a4⟩ := List.pairwise_cons.1 a2
  obtain ⟨a5, a6⟩ := List.pairwise_cons.1 a4
  obtain ⟨a7, a8⟩ := List.pairwise_cons.1 a6
  have m1 := M.holds (rdAll vs ls) (by simp)
  have m2 := own_rd (M.holds (own vk T 1 mk vs) (by simp))
  have m3 := M.holds (blk c #[vk, vb] u') (by simp)
  have m4 : Rd w vb nb 1 (bx.map U8) := M.holds (rdA vb nb 1 (bx.map U8)) (by simp)
  have hl2 : vs.length = mk := by have := m2.len; simpa using this
  subst hnb; subst hl2
  have hf : ∀ b, (cipA c u' vk vb vs ls bx).foot b → ∃ y ∈ [rdAll vs ls, own vk T 1 vs.length vs, blk c #[vk, vb] u', rdA vb bx.length 1 (bx.map U8)], y.foot b := fun b hb => by
    rcases hb with rfl | hb | hb | hb
    · exact ⟨blk b #[vk, vb] u', by simp, rfl⟩
    · exact ⟨own vk T 1 vs.length vs, by simp, hb⟩
    · exact ⟨rdA vb bx.length 1 (bx.map U8), by simp, hb⟩
    · exact ⟨_, by simp, hb⟩
  refine { M with holds := fun y hy => ?_, apart := ?_, off := fun y hy b hb => ?_ }
  · rcases List.mem_cons.1 hy with rfl | hy
    · obtain ⟨fr, h1, _⟩ := m3
      exact ⟨⟨fr, h1⟩, m2, m4, m1⟩
    · exact M.holds y (by simp [hy])
  · refine List.pairwise_cons.2 ⟨fun y hy b => ⟨fun h => h.elim, fun ht hb => ?_⟩, a8⟩
    obtain ⟨z, hz, hzb⟩ := hf b hb
    simp only [List.mem_cons, List.not_mem_nil, or_false] at hz
    rcases hz with rfl | rfl | rfl | rfl
    · exact (a1 y (by simp [hy]) b).2 ht hzb
    · exact (a3 y (by simp [hy]) b).2 ht hzb
    · exact (a5 y (by simp [hy]) b).2 ht hzb
    · exact (a7 y hy b).2 ht hzb
  · rcases List.mem_cons.1 hy with rfl | hy
    · obtain ⟨z, hz, hzb⟩ := hf b hb
      exact M.off z (by simp only [List.mem_cons, List.not_mem_nil, or_false] at hz ⊢; rcases hz with rfl | rfl | rfl | rfl <;> simp) b hzb
    · exact M.off y (by simp [hy]) b hb
end
end Go.Proofs.YtjhjjhpfjadjpaaDoor
