/- Helpers: one operation of a statement whose order is open, when no other may come ahead of it; blocks that were known by their addresses. -/
import Derived.Test.YtjhjjhpfjadjpaaDoorVK
import Derived.Below
namespace Go.Proofs.YtjhjjhpfjadjpaaDoor
set_option linter.all false
open Go
section
variable {P : Program} {n : Nat} {S : Nat → Prop} {w0 : World} {E E0 : Env} {l : List Asn} {Q : Exit → Act → World → Prop} {K : Act → World → Prop} {L : List Oper} {ms : List Nat} {m : Nat} {o : Oper} {v : Value} {i : Nat} {cs : Array Value} {T : TypeId}
theorem st_drawOp (ms : List Nat) (hok : drawOk L ms (m + 1) = true) (ho : L[m]? = some o) (h : St n S w0 (wpList P L.toArray (Exit.then (DrW P L Q (m + 1)) Q) [o]) E l) : St n S w0 (DrW P L Q m) E l := fun t w hA hM listed hsz hl => by
  have hml : m < L.length := (List.getElem?_eq_some_iff.1 ho).1
  have h := h t w hA hM
  rw [show L.length - m = (L.length - (m + 1)) + 1 by omega]
  have hmr : m ∈ Region.ready .any L.toArray listed := by
    refine mem_ready.2 ⟨by rw [hl m hml]; simp, o, by simpa using ho, fun e he hb => ?_⟩
    have h1 := (drawOk_spec hok ho).1 e he hb
    have h2 := hl e.on (by omega)
    simp only [h1, decide_true] at h2
    have : e.on < listed.size := by rw [hsz]; omega
    simp [this] at h2 ⊢
    exact h2
  refine ⟨fun h0 => (by rw [h0] at hmr; cases hmr), fun i hi => ?_⟩
  have him : i = m := by
    obtain ⟨h1, oi, hoi, hall⟩ := mem_ready.1 hi
    have hil : i < L.length := by have := (Array.getElem?_eq_some_iff.1 hoi).1; simpa using this
    rw [hl i hil] at h1
    have hge : m ≤ i := by simpa using h1
    by_cases heq : i = m
    · exact heq
    · exfalso
      have hoi' : L[i]? = some oi := by simpa using hoi
      have hb : bit ms i m = true := (drawOk_spec hok hoi').2.2 (by omega) m (by omega)
      let D : Nat → Bool := fun j => listed.getD j false
      have hD : Closed L D := by
        intro j oj hj hDj e he hbd
        have hjl : j < L.length := (List.getElem?_eq_some_iff.1 hj).1
        have h3 := hl j hjl
        have h4 : listed.getD j true = true := by
          have : j < listed.size := by rw [hsz]; omega
          simp [this]
          simpa [D, this] using hDj
        rw [h4] at h3
        have hjm : j < m := by simpa using h3.symm
        have h5 := (drawOk_spec hok hj).1 e he hbd
        have h6 := hl e.on (by omega)
        have : e.on < listed.size := by rw [hsz]; omega
        have h7 : e.on < m := by omega
        simp [D, this, h7] at h6 ⊢
        exact h6
      have := bits_listed hok hD i oi hoi' (fun e he hbd => hall e he hbd) m hml hb
      have h8 := hl m hml
      have : m < listed.size := by rw [hsz]; omega
      simp_all [D]
  subst him
  have hrec : ∀ a' w', DrW P L Q (i + 1) a' w' → wpAny P .any L.toArray Q (L.length - (i + 1)) (listed.setIfInBounds i true) a' w' := fun a' w' h' => by
    refine h' _ (by simp [hsz]) (fun j hj => ?_)
    by_cases hji : i = j
    · subst hji
      have : i < listed.size := by rw [hsz]; omega
      simp [this]
    · rw [getD_set_ne true hji, hl j hj]
      by_cases h9 : j < i
      · simp [h9]; omega
      · simp [h9]; omega
  unfold wpList at h
  unfold wpOp
  rw [List.getElem?_toArray, ho]
  simp only []
  split
  · rename_i hw
    rw [if_pos hw] at h
    rcases h with h | ⟨h1, a', w', h2⟩
    · refine .inl (Oper.wp_mono hrec ?_)
      unfold Oper.wp at *
      generalize (execOp (Act.eval ⟨t, []⟩) o).run P w = rr at *
      cases rr with
      | ok nx w' =>
        cases nx <;> simp only [Oper.upon] at h ⊢
        case value u => exact h
        case skip => exact h
        case defer dd => exact h
        case enter f args =>
          refine h.mono fun e w'' he => ?_
          cases e with
          | returned v => exact he
          | panicked ch => exact he
          | outgrown => exact he
        case row rw args => exact h.mono fun v w'' he => he
      | halt x w' => cases x <;> simp only [Oper.upon] at h ⊢; exact h
    · exact .inr ⟨h1, a', w', h2⟩
  · rename_i hw
    rw [if_neg hw] at h
    exact hrec _ _ h
/-- a block that was known by its address -/
theorem st_openV (hl : l[i]? = some (blkV cs T v)) (h : ∀ b, v = pt b 0 → St n S w0 K E (l.set i (blk b cs T))) : St n S w0 K E l := fun t w hA hM => by
  have hh := hM.holds _ (List.mem_of_getElem? hl)
  obtain ⟨b, hv, hb⟩ := hh
  refine h b hv t w hA (hM.replace hl rfl rfl rfl (Nat.le_refl _) (fun _ _ _ => rfl) hb fun b' hb' => .inl ?_)
  obtain rfl : b' = b := hb'
  exact hv
theorem st_drawSeg1 (GL : List (Nat → Value → Asn)) (M N : Nat) (ms : List Nat) (ks : List Nat)
    (hok : drawOk L ms N = true) (hN : decide (M ≤ N ∧ N ≤ L.length ∧ N ≤ 1000) = true) (hsl : slotsOk L M N ks = true) (hE : SubE E0 E) (hks : E0.map Prod.fst = ks) (hG0 : GL.take M = List.replicate M kany)
    (hall : HAll P n S w0 L [] GL (fun _ _ => l) E0 M N ms 0 (L.take N))
    (hend : ∀ t w, HInv P n S w0 L [] GL (fun _ _ => l) E0 M N (fun j => decide (j < N)) t w → DrW P L Q N ⟨t, []⟩ w) : St n S w0 (DrW P L Q M) E l :=
  st_drawSeg [] GL (fun _ _ => l) M N ms ks hok hN (by simp) hsl hks hG0 (fun _ _ _ _ _ _ => rfl) hE (fun _ h => h) hall hend
theorem draw_end1 {GL : List (Nat → Value → Asn)} {l' : List Asn} {M N : Nat} (js : List (Nat × Nat × Value)) (hj : JAll L [] GL (fun j => decide (j < N)) M N js)
    (h : St n S w0 (DrW P L Q N) (jenv js ++ E0) l') :
    ∀ t w, HInv P n S w0 L [] GL (fun _ _ => l') E0 M N (fun j => decide (j < N)) t w → DrW P L Q N ⟨t, []⟩ w :=
  draw_end js [] rfl hj xnil fun _ => h
end
theorem Rd.part8 {w : World} {v : Value} {n : Nat} {xs : List (BitVec 8)} (h : Rd w v n 1 (xs.map U8)) {lo hi : Nat} (h1 : lo ≤ hi) (h2 : hi ≤ n) : Rd w (vsub v lo hi 1) (hi - lo) 1 (((xs.drop lo).take (hi - lo)).map U8) := by
  have := h.part h1 h2
  simpa [List.map_take, List.map_drop] using this
theorem Rd.part32 {w : World} {v : Value} {n : Nat} {xs : List (BitVec 32)} (h : Rd w v n 1 (xs.map U32)) {lo hi : Nat} (h1 : lo ≤ hi) (h2 : hi ≤ n) : Rd w (vsub v lo hi 1) (hi - lo) 1 (((xs.drop lo).take (hi - lo)).map U32) := by
  have := h.part h1 h2
  simpa [List.map_take, List.map_drop] using this
theorem Rd.part64 {w : World} {v : Value} {n : Nat} {xs : List (BitVec 64)} (h : Rd w v n 1 (xs.map U64)) {lo hi : Nat} (h1 : lo ≤ hi) (h2 : hi ≤ n) : Rd w (vsub v lo hi 1) (hi - lo) 1 (((xs.drop lo).take (hi - lo)).map U64) := by
  have := h.part h1 h2
  simpa [List.map_take, List.map_drop] using this
theorem rd_w8 {l : List Asn} {S : Nat → Prop} {w0 : World} {i b len cap : Nat} {q : List (BitVec 8)} {T : TypeId} (h : l[i]? = some (blk b (c8 q) T)) (hq : q.length = len) (hc : len ≤ cap) : ∀ w, Mem S w0 w l → Rd w (sl b 0 len cap) len 1 (q.map U8) :=
  rd_blk h (by simp [hq]) hc fun j u hj => by rw [Nat.zero_add]; simpa [c8] using hj
theorem rd_l8 {l : List Asn} {S : Nat → Prop} {w0 : World} {i b len cap : Nat} {q : List (BitVec 8)} {cs : Array Value} {T : TypeId} (h : l[i]? = some (blk b cs T)) (he : cs = c8 q) (hq : q.length = len) (hc : len ≤ cap) : ∀ w, Mem S w0 w l → Rd w (sl b 0 len cap) len 1 (q.map U8) :=
  rd_w8 (he ▸ h) hq hc
theorem rd_p8 {l : List Asn} {S : Nat → Prop} {w0 : World} {i b off len cap : Nat} {q : List (BitVec 8)} {T : TypeId} (h : l[i]? = some (blk b (c8 q) T)) (hq : off + len ≤ q.length) (hc : len ≤ cap) : ∀ w, Mem S w0 w l → Rd w (sl b off len cap) len 1 (((q.drop off).take len).map U8) :=
  rd_blk h (by simp; omega) hc fun j u hj => by
    have hj' : j < len := by
      have := (List.getElem?_eq_some_iff.1 hj).1
      simp at this; omega
    rw [List.map_take, List.getElem?_take, if_pos hj', List.map_drop, List.getElem?_drop] at hj
    simpa [c8] using hj
theorem rd_w32 {l : List Asn} {S : Nat → Prop} {w0 : World} {i b len cap : Nat} {q : List (BitVec 32)} {T : TypeId} (h : l[i]? = some (blk b (c32 q) T)) (hq : q.length = len) (hc : len ≤ cap) : ∀ w, Mem S w0 w l → Rd w (sl b 0 len cap) len 1 (q.map U32) :=
  rd_blk h (by simp [hq]) hc fun j u hj => by rw [Nat.zero_add]; simpa [c32] using hj
theorem rd_l32 {l : List Asn} {S : Nat → Prop} {w0 : World} {i b len cap : Nat} {q : List (BitVec 32)} {cs : Array Value} {T : TypeId} (h : l[i]? = some (blk b cs T)) (he : cs = c32 q) (hq : q.length = len) (hc : len ≤ cap) : ∀ w, Mem S w0 w l → Rd w (sl b 0 len cap) len 1 (q.map U32) :=
  rd_w32 (he ▸ h) hq hc
theorem rd_p32 {l : List Asn} {S : Nat → Prop} {w0 : World} {i b off len cap : Nat} {q : List (BitVec 32)} {T : TypeId} (h : l[i]? = some (blk b (c32 q) T)) (hq : off + len ≤ q.length) (hc : len ≤ cap) : ∀ w, Mem S w0 w l → Rd w (sl b off len cap) len 1 (((q.drop off).take len).map U32) :=
  rd_blk h (by simp; omega) hc fun j u hj => by
    have hj' : j < len := by
      have := (List.getElem?_eq_some_iff.1 hj).1
      simp at this; omega
    rw [List.map_take, List.getElem?_take, if_pos hj', List.map_drop, List.getElem?_drop] at hj
    simpa [c32] using hj
theorem rd_w64 {l : List Asn} {S : Nat → Prop} {w0 : World} {i b len cap : Nat} {q : List (BitVec 64)} {T : TypeId} (h : l[i]? = some (blk b (c64 q) T)) (hq : q.length = len) (hc : len ≤ cap) : ∀ w, Mem S w0 w l → Rd w (sl b 0 len cap) len 1 (q.map U64) :=
  rd_blk h (by simp [hq]) hc fun j u hj => by rw [Nat.zero_add]; simpa [c64] using hj
theorem rd_l64 {l : List Asn} {S : Nat → Prop} {w0 : World} {i b len cap : Nat} {q : List (BitVec 64)} {cs : Array Value} {T : TypeId} (h : l[i]? = some (blk b cs T)) (he : cs = c64 q) (hq : q.length = len) (hc : len ≤ cap) : ∀ w, Mem S w0 w l → Rd w (sl b 0 len cap) len 1 (q.map U64) :=
  rd_w64 (he ▸ h) hq hc
theorem rd_p64 {l : List Asn} {S : Nat → Prop} {w0 : World} {i b off len cap : Nat} {q : List (BitVec 64)} {T : TypeId} (h : l[i]? = some (blk b (c64 q) T)) (hq : off + len ≤ q.length) (hc : len ≤ cap) : ∀ w, Mem S w0 w l → Rd w (sl b off len cap) len 1 (((q.drop off).take len).map U64) :=
  rd_blk h (by simp; omega) hc fun j u hj => by
    have hj' : j < len := by
      have := (List.getElem?_eq_some_iff.1 hj).1
      simp at this; omega
    rw [List.map_take, List.getElem?_take, if_pos hj', List.map_drop, List.getElem?_drop] at hj
    simpa [c64] using hj
theorem cells_rd {w : World} {v : Value} {n size : Nat} {xs : List Value} (h : Rd w v n size xs) : v.cells = #[v] := by
  rcases h.shape with ⟨h, _⟩ | h
  · subst h; rfl
  · rw [h]; rfl
theorem does_bytes {P : Program} {n : Nat} {S : Nat → Prop} {w0 : World} {E : Env} {l : List Asn} {x : Operand} {t t2 e ty : TypeId} {dst : Option Tmp} {pos : String} {af : Array Edge} {g : Option (Nat × Bool)} {s : List (BitVec 8)}
    (ht : P.underlying t = some .string) (ht2 : P.underlying t2 = some (.slice e)) (he : P.underlying e = some (.int .u8)) (hx : Env.ev E x = some (vS s)) :
    Does P n S w0 ⟨dst, .convert t t2 x, ty, pos, af, g⟩ E l (fun v => own v e 1 s.length (s.map U8)) := fun tt w hA _ K Q hK => by
  obtain ⟨w', cap, hr, _, ho, h1, h2, h3, h4, h5⟩ := run_bytes (P := P) (w := w) (s := s) he
  have hr' : (execOp (Act.eval ⟨tt, []⟩) ⟨dst, .convert t t2 x, ty, pos, af, g⟩).run P w = .ok (.value (sl w.heap.size 0 s.length cap)) w' := by
    have hc : (convert t t2 (vS s)).run P w = .ok (sl w.heap.size 0 s.length cap) w' := by
      unfold convert
      simp only [Sem.run_bind, run_underlying ht, run_underlying ht2, Result.andThen_ok, run_underlying he, hr]
    simp [execOp, hA.ev hx, hc]
  unfold Oper.wp
  rw [hr', Oper.upon_value]
  exact hK _ _ ((Mem.all w).add h1 h2 h3 h4 h5 ho (fun b hb => Nat.le_of_eq hb.symm))
/-! ### what a law's walk ends with -/
theorem Mem.blkRd8 {S : Nat → Prop} {w0 w : World} {l : List Asn} (M : Mem S w0 w l) {i b n cap : Nat} {q : List (BitVec 8)} {T : TypeId} (h : l[i]? = some (blk b (c8 q) T)) (hq : q.length = n) (hc : n ≤ cap) : Mem S w0 w (l.set i (rdA (sl b 0 n cap) n 1 (q.map U8))) :=
  M.replace h rfl rfl rfl (Nat.le_refl _) (fun _ _ _ => rfl) (rd_w8 (S := S) (w0 := w0) h hq hc w M) (fun b' hb => .inl hb)
theorem Mem.rdNil {S : Nat → Prop} {w0 w : World} {l : List Asn} (M : Mem S w0 w l) : Mem S w0 w (rdA nilS 0 1 [] :: l) :=
  M.add rfl rfl rfl (Nat.le_refl _) (fun _ _ => rfl) (Rd.nil w 1) (fun b hb => hb.elim)
theorem Mem.below {w w' : World} {l : List Asn} (M : Mem (All w) w w' l) : Go.RowKit.Below w.heap.size w w' :=
  ⟨M.os, M.tape, M.output, M.size, fun k hk => M.old k ⟨hk, fun h => h⟩⟩
/-! ### short names for what simp strikes -/
theorem z1 {p : Prop} [Decidable p] : (decide p = true) = p := decide_eq_true_eq
theorem z2 {p : Prop} [Decidable p] : (decide p = false) ↔ ¬ p := decide_eq_false_iff_not
theorem z3 (a b : Bool) : ((a && b) = true) = (a = true ∧ b = true) := Bool.and_eq_true a b
theorem z4 (a b : Bool) : ((a || b) = true) = (a = true ∨ b = true) := Bool.or_eq_true a b
theorem z5 {x y : Bool} : ((x && y) = false) ↔ (x = false ∨ y = false) := Bool.and_eq_false_iff
theorem z6 {x y : Bool} : ((x || y) = false) ↔ (x = false ∧ y = false) := Bool.or_eq_false_iff
theorem z7 (b : Bool) : (¬ (b = true)) = (b = false) := Bool.not_eq_true b
theorem z8 {a b : Bool} : ((!a) = b) ↔ (a = !b) := Bool.not_eq_eq_eq_not
theorem z9 : (!true) = false := rfl
theorem z10 : (!false) = true := rfl
theorem z11 {a b : Int} : (¬ a < b) ↔ b ≤ a := Int.not_lt
theorem z12 {a b : Int} : (¬ a ≤ b) ↔ b < a := Int.not_le
theorem z13.{u} {α : Sort u} (a b : α) : (a ≠ b) = ¬ (a = b) := ne_eq a b
theorem z14 {p : Prop} [Decidable p] : (¬ ¬ p) ↔ p := Decidable.not_not
theorem hop_mv {P : Program} {n : Nat} {S : Nat → Prop} {w0 : World} {L : List Oper} {SI : List Nat} {GL : List (Nat → Value → Asn)} {ls : Nat → (Nat → Value) → List Asn} {E0 : Env} {M N : Nat} {ms : List Nat} {i d : Nat} {x : Operand} {v : Value} {ty : TypeId} {pos : String} {af : Array Edge}
    (hs : SI.contains i = false) (hdn : d < n) (hG : GL[i]? = some (kpeq v)) (hx : Env.ev E0 x = some v) : HOp P n S w0 L SI GL ls E0 M N ms i ⟨some d, .move x, ty, pos, af, none⟩ :=
  hop_val [] [] hs rfl rfl hdn hG jnil xnil (fun _ _ _ _ => does_v (rv_move hx))
end Go.Proofs.YtjhjjhpfjadjpaaDoor
