/- Helpers: an open order, its floating operations taken first. -/
import Derived.Test.YtjhjjhpfjadjpaaDoorVT
import Derived.OrdersHeld
namespace Go.Proofs.YtjhjjhpfjadjpaaDoor
set_option linter.all false
open Go
section
variable {P : Program} {n : Nat} {S : Nat → Prop} {w0 : World} {E E0 : Env} {l : List Asn} {Q : Exit → Act → World → Prop} {K : Act → World → Prop} {L : List Oper} {o : Oper} {v : Value} {d : Nat}
/-- what is not listed yet comes in any order, and the old memory stays -/
def AnyH (P : Program) (S : Nat → Prop) (w0 : World) (L : List Oper) (Q : Exit → Act → World → Prop) (k : Nat) (D : List Bool) (a : Act) (w : World) : Prop :=
  wpAnyH P .any L.toArray Q (fun w => Mem S w0 w []) k D.toArray a w
theorem st_heldStart {id : Nat} (k : Nat) (D : List Bool) (hm : P.follows .mixedOrders = true) (hk : L.length = k) (hD : List.replicate k false = D) (h : St n S w0 (AnyH P S w0 L Q k D) E l) : St n S w0 ((Code.region id L.toArray true).wp P Q) E l := fun t w hA hM => by
  refine wp_region_held (S := fun w => Mem S w0 w []) hm ?_
  have := h t w.drew hA (hM.sameHeap rfl rfl rfl rfl)
  unfold AnyH at this
  subst hD; subst hk
  simpa using this
theorem st_heldTake (i : Nat) {k : Nat} {D D' : List Bool} (ho : L[i]? = some o) (hg : o.guard = none) (hb : (Region.noSelect L.toArray && Region.free .any L.toArray D.toArray i && (Region.ready .any L.toArray D.toArray).contains i) = true) (hD : D.set i true = D')
    (hQ : ∀ c a w, Q (.panic c) (a.put o.dst v) w → Q (.panic c) a w) (hd : o.dst = some d) (hdn : d < n) (hr : RunsV P n S w0 o E [] v) (h : St n S w0 (AnyH P S w0 L Q k D') ((d, v) :: E) l) : St n S w0 (AnyH P S w0 L Q (k + 1) D) E l := fun t w hA hM => by
  simp only [Bool.and_eq_true] at hb
  have hM0 : Mem S w0 w [] := hM.sublist (List.nil_sublist _)
  refine wpAnyH_take (i := i) (oi := o) (v := v) (by simpa using ho) hb.1.1 hb.1.2 hb.2 hQ (.inl ⟨by simp [Region.wanted, hg], fun w' hM' => hr t w' hA hM'⟩) hM0 ?_
  have := h _ w (hA.put hdn v) hM
  subst hD
  rw [hd]
  simpa [AnyH, Act.put] using this
theorem st_heldOp (i : Nat) {k : Nat} {D D' : List Bool} (ho : L[i]? = some o) (hr : Region.ready .any L.toArray D.toArray = [i]) (hD : D.set i true = D') (h : St n S w0 (wpList P L.toArray (Exit.then (fun a w => Mem S w0 w [] ∧ AnyH P S w0 L Q k D' a w) Q) [o]) E l) : St n S w0 (AnyH P S w0 L Q (k + 1) D) E l := fun t w hA hM => by
  refine wpAnyH_all hr (by simp) (fun j hj => ?_)
  obtain rfl := List.mem_singleton.1 hj
  have h := h t w hA hM
  subst hD
  have hrec : ∀ a' w', (Mem S w0 w' [] ∧ AnyH P S w0 L Q k (D.set j true) a' w') → Mem S w0 w' [] ∧ wpAnyH P .any L.toArray Q (fun w => Mem S w0 w []) k (D.toArray.setIfInBounds j true) a' w' := fun a' w' h' => ⟨h'.1, by simpa [AnyH] using h'.2⟩
  unfold wpList at h
  unfold wpOp
  rw [List.getElem?_toArray, ho]
  simp only []
  split
  · rename_i hw
    rw [if_pos hw] at h
    rcases h with h | ⟨h1, a', w', h2⟩
    · refine .inl (Oper.wp_mono hrec ?_)
      unfold Oper.wp at *
      generalize (execOp (Act.eval ⟨t, []⟩) o).run P w = rr at *
      cases rr with
      | ok nx w' =>
        cases nx <;> simp only [Oper.upon] at h ⊢
        case value u => exact h
        case skip => exact h
        case defer dd => exact h
        case enter f args =>
          refine h.mono fun e w'' he => ?_
          cases e with
          | returned v => exact he
          | panicked ch => exact he
          | outgrown => exact he
        case row rw args => exact h.mono fun v w'' he => he
      | halt x w' => cases x <;> simp only [Oper.upon] at h ⊢; exact h
    · exact .inr ⟨h1, a', w', h2⟩
  · rename_i hw
    rw [if_neg hw] at h
    exact hrec _ _ h
theorem st_thenH {Q' : Exit → Act → World → Prop} {k : Nat} {D : List Bool} (h : St n S w0 (AnyH P S w0 L Q k D) E l) : St n S w0 (Exit.then (fun a w => Mem S w0 w [] ∧ AnyH P S w0 L Q k D a w) Q' .normal) E l := fun t w hA hM => ⟨hM.sublist (List.nil_sublist _), h t w hA hM⟩
theorem st_heldDone {k : Nat} {D : List Bool} (hr : Region.ready .any L.toArray D.toArray = []) (h : St n S w0 (Q .normal) E l) : St n S w0 (AnyH P S w0 L Q k D) E l := fun t w hA hM => wpAnyH_done hr (h t w hA hM) k
/-- a slice over a whole block -/
def slV (cs : Array Value) (T : TypeId) (k : Nat) (v : Value) : Asn where
  holds w := v = sl (vblk v) 0 k k ∧ (blk (vblk v) cs T).holds w
  foot b := b = vblk v
  turn b := b = vblk v
  keep w w' h hr := ⟨hr.1, (blk (vblk v) cs T).keep w w' h hr.2⟩
  live w hr b hb := (blk (vblk v) cs T).live w hr.2 b hb
  sub _ h := h
theorem st_openS {i k : Nat} {cs : Array Value} {T : TypeId} (hl : l[i]? = some (slV cs T k v)) (h : ∀ b, v = sl b 0 k k → St n S w0 K E (l.set i (blk b cs T))) : St n S w0 K E l := fun t w hA hM => by
  have hh := hM.holds _ (List.mem_of_getElem? hl)
  exact h (vblk v) hh.1 t w hA (hM.replace hl rfl rfl rfl (Nat.le_refl _) (fun _ _ _ => rfl) hh.2 fun b' hb' => .inl hb')
/-- make([]byte, n), in an open order -/
theorem does_make8 {t e ty : TypeId} {dst : Option Tmp} {pos : String} {af : Array Edge} {g : Option (Nat × Bool)} {x y : Operand} {bytes : Nat} (len : Nat) (ht : P.underlying t = some (.slice e)) (hz : TyZ P e (.int .u8 0) 1 bytes) (hx : Env.ev E x = some (vI len)) (hy : Env.ev E y = some (vI len))
    (hb : len * bytes ≤ 281474976710656) (hc : len ≤ 9223372036854775807) : Does P n S w0 ⟨dst, .makeSlice t x y, ty, pos, af, g⟩ E l (fun v => slV (c8 (List.replicate len 0#8)) e len v) := fun tt w hA _ K Q hK => by
  obtain ⟨i, hi, hz, hs, rfl⟩ := hz
  have hb' : (i.bytes : Int) * (len : Int) ≤ 281474976710656 := by
    rw [← Int.natCast_mul, Nat.mul_comm]; omega
  have hr : (execOp (Act.eval ⟨tt, []⟩) ⟨dst, .makeSlice t x y, ty, pos, af, g⟩).run P w = .ok (.value (sl w.heap.size 0 len len)) (w.alloc (.cells (c8 (List.replicate len 0#8)) e)) := by
    have hm := run_make (P := P) w t e i (.int .u8 0) ht hi hz .i64 .i64 len len (by omega) (by omega) hb' (by omega)
    have e1 : madeCells (Value.int IntKind.u8 0).cells ((len : Int).toNat * i.size) = c8 (List.replicate len 0#8) := by
      have e2 : c8 (List.replicate len 0#8) = (List.replicate len (Value.int .u8 0)).toArray := by simp [c8]
      rw [hs, Nat.mul_one, Int.toNat_natCast, e2]; exact madeCells_one (.int .u8 0) len rfl
    rw [e1] at hm
    simp [execOp, hA.ev hx, hA.ev hy, hm]
  unfold Oper.wp
  rw [hr, Oper.upon_value]
  refine hK _ _ ?_
  have hM := (Mem.all w).alloc (c8 (List.replicate len 0#8)) e
  have hb0 : (blk w.heap.size (c8 (List.replicate len 0#8)) e).holds _ := hM.holds _ List.mem_cons_self
  exact hM.replace (i := 0) (y := slV (c8 (List.replicate len 0#8)) e len (sl w.heap.size 0 len len)) rfl rfl rfl rfl (Nat.le_refl _) (fun _ _ _ => rfl) ⟨rfl, hb0⟩ (fun b hb => .inl hb)
end
theorem fill2 {z v1 v2 : Value} (h1 : v1.cells = #[v1]) (h2 : v2.cells = #[v2]) : fillL (fun i => some (i * 1, 1)) (List.replicate 2 z).toArray [(0, v1), (1, v2)] = some #[v1, v2] := by
  simp only [fillL, h1, h2]
  rfl
theorem fill3 {z v1 v2 v3 : Value} (h1 : v1.cells = #[v1]) (h2 : v2.cells = #[v2]) (h3 : v3.cells = #[v3]) : fillL (fun i => some (i * 1, 1)) (List.replicate 3 z).toArray [(0, v1), (1, v2), (2, v3)] = some #[v1, v2, v3] := by
  simp only [fillL, h1, h2, h3]
  rfl
section
variable {P : Program} {n : Nat} {S : Nat → Prop} {w0 : World} {E : Env} {l : List Asn} {dst : Option Tmp} {ty xt yt : TypeId} {pos : String} {af : Array Edge} {g : Option (Nat × Bool)} {x y : Operand}
/-- a shift to the right, of an int -/
theorem rv_shrN {k' : IntKind} {z : Int} {a s : Nat} (hx : Env.ev E x = some (vI (a : Nat))) (hy : Env.ev E y = some (.int k' z)) (hz : z = (s : Int)) (hs : s ≤ 64) : RunsV P n S w0 ⟨dst, .binOp .shr xt x y yt, ty, pos, af, g⟩ E l (vI (a / 2 ^ s : Nat)) :=
  rv_shift hx hy fun w => by
    subst hz
    have h0 : ¬ ((s : Int) < 0) := by omega
    have e : (a : Int).fdiv (2 ^ (min s IntKind.i64.bits)) = ((a / 2 ^ s : Nat) : Int) := by
      rw [Int.fdiv_eq_ediv_of_nonneg _ (by exact Int.le_of_lt (Int.pow_pos (by decide)))]
      simp only [IntKind.bits]
      rw [Nat.min_eq_left hs]; simp
    simp only [binOp_shr, Op.shift, h0, if_false, Int.toNat_natCast, e]
    rfl
end
theorem rd_I {l : List Asn} {S : Nat → Prop} {w0 : World} {i b len cap : Nat} {q : List Int} {cs : Array Value} {T : TypeId} (h : l[i]? = some (blk b cs T)) (he : cs = (q.map fun z => vI z).toArray) (hq : q.length = len) (hc : len ≤ cap) :
    ∀ w, Mem S w0 w l → Rd w (sl b 0 len cap) len 1 (q.map fun z => vI z) :=
  rd_blk h (by simp [hq]) hc fun j u hj => by rw [Nat.zero_add, he]; simpa using hj
end Go.Proofs.YtjhjjhpfjadjpaaDoor
