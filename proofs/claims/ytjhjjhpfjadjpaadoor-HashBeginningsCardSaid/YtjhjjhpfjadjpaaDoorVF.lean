/- Helpers: slices that are owned; append, copy, make; parts of slices; strings; calls. -/
import Derived.Test.YtjhjjhpfjadjpaaDoorVE
namespace Go.Proofs.YtjhjjhpfjadjpaaDoor
set_option linter.all false
open Go

/-! ### a slice that is owned, with its whole block -/
def own (v : Value) (T : TypeId) (size n : Nat) (xs : List Value) : Asn where
  holds w := xs.length = n * size ∧ ((v = nilS ∧ n = 0) ∨ ∃ (cs : Array Value) (fr : Nat × Nat), v = sl (vblk v) (voff v) n (vcap v) ∧ n ≤ vcap v ∧ voff v + vcap v * size ≤ cs.size ∧
    w.heap[vblk v]? = some (.cells cs T fr) ∧ noFz cs fr ∧ ∀ (j : Nat) (u : Value), xs[j]? = some u → cs[voff v + j]? = some u)
  foot b := vfoot v b
  turn b := vfoot v b
  keep w w' h hr := ⟨hr.1, hr.2.imp id fun ⟨cs, fr, h1, h2, h3, h4, h5, h6⟩ => ⟨cs, fr, h1, h2, h3, (h _ (by rw [h1]; rfl)).trans h4, h5, h6⟩⟩
  live w hr b hb := by
    rcases hr.2 with ⟨h1, _⟩ | ⟨cs, fr, h1, _, _, h4, _⟩
    · rw [h1] at hb; exact hb.elim
    · rw [h1] at hb
      obtain rfl : b = vblk v := hb
      by_cases hlt : vblk v < w.heap.size
      · exact hlt
      · rw [Array.getElem?_eq_none (by omega)] at h4; cases h4
  sub _ h := h
section
variable {S : Nat → Prop} {w0 w w' : World} {l l' : List Asn} {v : Value} {T : TypeId} {n size : Nat} {xs : List Value}
theorem own_rd (h : (own v T size n xs).holds w) : Rd w v n size xs := by
  rcases h.2 with ⟨h1, h2⟩ | ⟨cs, fr, h1, h2, h3, h4, h5, h6⟩
  · subst h1; subst h2
    have : xs = [] := List.eq_nil_of_length_eq_zero (by simpa using h.1)
    subst this
    exact Rd.nil w size
  · refine ⟨.inr h1, h.1, h2, fun j u hj => ?_, (own v T size n xs).live w h⟩
    rw [cell_of_row w _ _ cs T fr h4]; exact h6 j u hj
theorem rd_own {i : Nat} (h : l[i]? = some (own v T size n xs)) : ∀ w, Mem S w0 w l → Rd w v n size xs := fun _ M => own_rd (M.holds _ (List.mem_of_getElem? h))
theorem own_nil (w : World) (T : TypeId) (size : Nat) : (own nilS T size 0 []).holds w := ⟨by simp, .inl ⟨rfl, rfl⟩⟩
theorem Mem.ownNil (M : Mem S w0 w l) (T : TypeId) (size : Nat) : Mem S w0 w (own nilS T size 0 [] :: l) :=
  M.add rfl rfl rfl (Nat.le_refl _) (fun _ _ => rfl) (own_nil w T size) (fun b hb => hb.elim)
/-- from a block to an owned slice over it -/
theorem Mem.toOwn (M : Mem S w0 w l) {i b off cap : Nat} {cs : Array Value} (h : l[i]? = some (blk b cs T)) (hl : xs.length = n * size) (hc : n ≤ cap) (hf : off + cap * size ≤ cs.size)
    (hx : ∀ (j : Nat) (u : Value), xs[j]? = some u → cs[off + j]? = some u) : Mem S w0 w (l.set i (own (sl b off n cap) T size n xs)) := by
  obtain ⟨fr, h1, h2⟩ := M.blkAt h
  exact M.replace h rfl rfl rfl (Nat.le_refl _) (fun _ _ _ => rfl) ⟨hl, .inr ⟨cs, fr, rfl, hc, hf, h1, h2, hx⟩⟩ (fun b' hb => .inl hb)
/-- an owned slice is kept for reading alone -/
theorem Mem.toRd (M : Mem S w0 w l) {i : Nat} (h : l[i]? = some (own v T size n xs)) : Mem S w0 w (l.set i (rdA v n size xs)) :=
  M.replace h rfl rfl rfl (Nat.le_refl _) (fun _ _ _ => rfl) (own_rd (M.holds _ (List.mem_of_getElem? h))) (fun b' hb => .inl hb)
end

/-! ### what append and copy read -/
section
variable {P : Program} {S : Nat → Prop} {w0 w w' : World} {l l' : List Asn} {v x : Value} {T e : TypeId} {n m size bytes : Nat} {xs news : List Value}
structure Src (P : Program) (w : World) (size m : Nat) (x : Value) (news : List Value) : Prop where
  len : (Builtin.lenOf x).run P w = .ok m w
  cells : ∀ k, k ≤ m → ∀ w' : World, w'.heap = w.heap → (Builtin.firstCells size k x).run P w' = .ok (news.take (k * size)).toArray w'
  size : news.length = m * size
  one : ∀ u ∈ news, u.oneCell' = true
theorem src_rd (h : Rd w x m size news) (h1 : ∀ u ∈ news, u.oneCell' = true) : Src P w size m x news := by
  rcases h.shape with ⟨hx, h0⟩ | hx
  · subst hx; subst h0
    have : news = [] := List.eq_nil_of_length_eq_zero (by simpa using h.len)
    subst this
    exact ⟨rfl, fun k hk w' hw => by simp [Builtin.firstCells], h.len, h1⟩
  · refine ⟨by rw [hx]; rfl, fun k hk w' hw => ?_, h.len, h1⟩
    rw [hx]
    show (loadCells ⟨vblk x, voff x, none⟩ (k * size)).run P w' = _
    have hl : (news.take (k * size)).length = k * size := by
      rw [List.length_take, h.len]
      exact Nat.min_eq_left (Nat.mul_le_mul_right _ hk)
    have := run_loadCells_list (P := P) w' ⟨vblk x, voff x, none⟩ (news.take (k * size)) (fun j u hj => by
      rw [Addr.add_lit]
      have hc : w'.cell? ⟨vblk x, voff x + j, none⟩ = w.cell? ⟨vblk x, voff x + j, none⟩ := World.cell?_of_block (w := w) (by rw [hw])
      rw [hc]
      rw [List.getElem?_take] at hj
      split at hj
      · exact h.cell j u hj
      · cases hj)
    rw [hl] at this
    exact this
theorem src_str (s : List (BitVec 8)) : Src P w 1 s.length (vS s) (s.map U8) := by
  refine ⟨?_, fun k hk w' hw => ?_, by simp, fun u hu => ?_⟩
  · show Result.ok (vB s).size w = _
    rw [size_vB]
  · show Result.ok (((vB s).extract 0 k).data.map fun b => Value.int .u8 b.toNat) w' = _
    congr 1
    apply Array.ext'
    rw [ByteArray.data_extract]
    simp only [vB, Array.toList_map, Array.toList_extract, List.map_take, List.map_map, List.drop_zero, Nat.sub_zero, Nat.mul_one, List.extract_eq_take_drop]
    rfl
  · obtain ⟨a, _, rfl⟩ := List.mem_map.1 hu; rfl
theorem src_one {m : Nat} (h : Src P w size m x news) {w' : World} (hw : w'.heap = w.heap) : (Builtin.firstCells size m x).run P w' = .ok news.toArray w' := by
  have := h.cells m (Nat.le_refl _) w' hw
  rwa [List.take_of_length_le (by rw [h.size]; exact Nat.le_refl _)] at this
theorem size_zeroCells' (z : Array Value) (n : Nat) : (Builtin.zeroCells z n).size = n * z.size := by simp [Builtin.zeroCells]
/-- WHAT append DOES, on an owned slice. -/
theorem run_append_own' {t t2 ty : TypeId} {d2 : TypeDesc} {z : Value} (ht : P.underlying t = some (.slice e)) (ht2 : P.underlying t2 = some d2) (hd2 : d2 = .string ∨ ∃ e2, d2 = .slice e2) (hz : TyZ P e z size bytes)
    (hzs : z.cells.size = size) (hown : (own v e size n xs).holds w) (hx1 : ∀ u ∈ xs, u.oneCell' = true) (hsrc : Src P w size m x news) (hb : (n + m) * bytes ≤ 140737488355328) (hm : n + m ≤ 9223372036854775807) :
    ∃ v' w', (Builtin.append_ #[t, t2] ty #[v, x]).run P w = .ok v' w' ∧ (own v' e size (n + m) (xs ++ news)).holds w' ∧ w'.os = w.os ∧ w'.tape = w.tape ∧ w'.output = w.output ∧ w.heap.size ≤ w'.heap.size ∧
      (∀ b, b < w.heap.size → ¬ vfoot v b → w'.heap[b]? = w.heap[b]?) ∧ ∀ b, vfoot v' b → vfoot v b ∨ w.heap.size ≤ b := by
  obtain ⟨i, hi, hz, rfl, rfl⟩ := hz
  have hlen : (xs ++ news).length = (n + m) * i.size := by rw [List.length_append, hown.1, hsrc.size, Nat.add_mul]
  have hrd := own_rd hown
  have hold : ∀ w' : World, w'.heap = w.heap → (Builtin.firstCells i.size n v).run P w' = .ok xs.toArray w' := fun w' hw => src_one (src_rd (P := P) hrd hx1) hw
  have hnew : ∀ w' : World, w'.heap = w.heap → (Builtin.firstCells i.size m x).run P w' = .ok news.toArray w' := fun w' hw => src_one hsrc hw
  -- a new block
  have grow : ∀ (a : Option Addr) (c : Nat), v = .slice a n c → c < n + m → ∃ v' w', (Builtin.append_ #[t, t2] ty #[v, x]).run P w = .ok v' w' ∧ (own v' e i.size (n + m) (xs ++ news)).holds w' ∧ w'.os = w.os ∧ w'.tape = w.tape ∧ w'.output = w.output ∧ w.heap.size ≤ w'.heap.size ∧
      (∀ b, b < w.heap.size → ¬ vfoot v b → w'.heap[b]? = w.heap[b]?) ∧ ∀ b, vfoot v' b → vfoot v b ∨ w.heap.size ≤ b := by
    intro a c hv hc
    have hn : ¬ (n + m ≤ c) := by omega
    have hfit := growslice_fits (bytes := i.bytes) hc hb
    have h48 : ¬ (2 ^ 48 < Builtin.nextslicecap (n + m) c * i.bytes) := by omega
    have h63 : ¬ (9223372036854775807 < (n : Int) + (m : Int)) := by omega
    have hfo : ∀ a b c, (Question.appendCap a b c).forced = false := fun _ _ _ => rfl
    have hge := grownCap_ge w (n + m) c e
    have hold' := hold w.drew rfl
    have hnew' := hnew w.drew rfl
    rw [hv] at hold'
    refine ⟨sl w.heap.size 0 (n + m) (grownCap w (n + m) c e), w.drew.alloc (.cells (xs.toArray ++ (news.toArray ++ Builtin.zeroCells z.cells (grownCap w (n + m) c e - (n + m)))) e), ?_, ?_, rfl, rfl, rfl, by simp, ?_, ?_⟩
    · rw [hv]
      rcases hd2 with rfl | ⟨e2, rfl⟩
      · simp [Builtin.append_, run_underlying ht, run_underlying ht2, run_sizeOf hi, hsrc.len, hn, h63, h48, typeInfo, hi, zeroValue, hz, hold', hnew', newRow, hfo, grownCap]
      · simp [Builtin.append_, run_underlying ht, run_underlying ht2, run_sizeOf hi, hsrc.len, hn, h63, h48, typeInfo, hi, zeroValue, hz, hold', hnew', newRow, hfo, grownCap]
    · refine ⟨hlen, .inr ⟨_, (0, 0), rfl, hge, ?_, heap_alloc_new w.drew _, fun i _ h => by omega, fun j u hj => ?_⟩⟩
      · simp only [vcap, voff, Array.size_append, List.size_toArray, size_zeroCells', hzs, hown.1, hsrc.size, ← Nat.add_mul]
        have : n + (m + (grownCap w (n + m) c e - (n + m))) = grownCap w (n + m) c e := by omega
        rw [this]; omega
      · simp only [voff, Nat.zero_add]
        have hjl : j < (xs ++ news).length := (List.getElem?_eq_some_iff.1 hj).1
        rw [← Array.append_assoc, Array.getElem?_append_left (by simpa using hjl)]
        simpa using hj
    · intro b hb _
      exact Go.RowKit.Below.heap_alloc w.drew _ b hb
    · intro b hb
      exact .inr (Nat.le_of_eq hb.symm)
  rcases hown.2 with ⟨hv, hn⟩ | ⟨cs, fr, hv, hcap, hfit, hblk, hfz, hx⟩
  · subst hn
    have hxs : xs = [] := List.eq_nil_of_length_eq_zero (by simpa using hown.1)
    subst hxs
    by_cases hm0 : m = 0
    · subst hm0
      have hns : news = [] := List.eq_nil_of_length_eq_zero (by simpa using hsrc.size)
      subst hns
      refine ⟨nilS, w, ?_, own_nil w e i.size, rfl, rfl, rfl, Nat.le_refl _, fun _ _ _ => rfl, fun b hb => hb.elim⟩
      have hnew' := hnew w rfl
      rw [hv]
      rcases hd2 with rfl | ⟨e2, rfl⟩ <;> simp [Builtin.append_, run_underlying ht, run_underlying ht2, run_sizeOf hi, hsrc.len, hnew']
    · exact grow none 0 hv (by omega)
  · generalize vblk v = b0 at *
    generalize voff v = o0 at *
    generalize vcap v = c0 at *
    subst hv
    by_cases hroom : n + m ≤ c0
    · have hsp : o0 + n * i.size + 0 + news.length ≤ cs.size := by
        rw [hsrc.size]
        have : n * i.size + m * i.size ≤ c0 * i.size := by rw [← Nat.add_mul]; exact Nat.mul_le_mul_right _ hroom
        omega
      obtain ⟨w', hr, U⟩ := run_storeCells_upd (P := P) (b := b0) (off := o0 + n * i.size) (T := e) news 0 cs fr w hblk hfz hsp hsrc.one
      have hnew' := hnew w rfl
      refine ⟨sl (b0) (o0) (n + m) (c0), w', ?_, ?_, U.os, U.tape, U.output, by rw [U.size]; exact Nat.le_refl _, fun b hb hne => U.old b (fun e => hne e), fun b hb => .inl hb⟩
      · rcases hd2 with rfl | ⟨e2, rfl⟩ <;> simp [Builtin.append_, run_underlying ht, run_underlying ht2, run_sizeOf hi, hsrc.len, hroom, hnew', Addr.add_lit, hr]
      · obtain ⟨fr', h1, h2⟩ := U.new
        refine ⟨hlen, .inr ⟨_, fr', rfl, hroom, by rw [size_spl]; exact hfit, h1, h2, fun j u hj => ?_⟩⟩
        simp only [voff]
        rw [get_spl]
        by_cases hjl : j < xs.length
        · have h3 := hown.1
          rw [if_neg (by omega)]
          rw [List.getElem?_append_left hjl] at hj
          exact hx j u hj
        · have h3 := hown.1
          have hj2 : j < (xs ++ news).length := (List.getElem?_eq_some_iff.1 hj).1
          rw [List.length_append] at hj2
          rw [if_pos (by omega)]
          rw [List.getElem?_append_right (by omega)] at hj
          rw [← hj]
          congr 1
          omega
    · exact grow (some ⟨b0, o0, none⟩) c0 rfl (by omega)
end
end Go.Proofs.YtjhjjhpfjadjpaaDoor
