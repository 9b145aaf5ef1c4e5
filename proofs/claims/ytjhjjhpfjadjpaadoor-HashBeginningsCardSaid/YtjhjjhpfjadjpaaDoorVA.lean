/- Helpers: environments of a frame, assertions on memory, and the rules by which a walk goes from operation to operation. -/
import Derived.WalkKit
import Derived.KernelRfl
import Derived.Deep.LoopGhost
namespace Go.Proofs.YtjhjjhpfjadjpaaDoor
set_option linter.all false
open Go

/-! ### what slots hold -/
abbrev Env := List (Nat × Value)
def Env.get : List (Nat × Value) → Nat → Option Value
  | [], _ => none
  | (k, v) :: r, i => bif Nat.beq k i then some v else Env.get r i
def Env.ev (E : List (Nat × Value)) : Operand → Option Value
  | .tmp t => Env.get E t
  | .const v => some v
  | .global g => some (.pointer (some ⟨g, 0, none⟩))
  | .func f => some (.func (.func f) #[] #[])
structure Ag (n : Nat) (t : Array Value) (E : Env) : Prop where
  size : t.size = n
  get : ∀ i v, Env.get E i = some v → t[i]? = some v
theorem Ag.ev {n : Nat} {t : Array Value} {E : Env} (h : Ag n t E) {x : Operand} {v : Value} (hx : Env.ev E x = some v) : Act.eval ⟨t, []⟩ x = v := by
  cases x with
  | tmp i =>
    have := h.get i v hx
    simp [Act.eval, this]
  | const u => exact Option.some.inj hx
  | global g => exact Option.some.inj hx
  | func f => exact Option.some.inj hx
theorem Ag.put {n : Nat} {t : Array Value} {E : Env} (h : Ag n t E) {d : Nat} (hd : d < n) (v : Value) : Ag n (t.setIfInBounds d v) ((d, v) :: E) := by
  refine ⟨by simp [h.size], fun i u hi => ?_⟩
  simp only [Env.get] at hi
  cases hb : Nat.beq d i with
  | true =>
    obtain rfl : d = i := Nat.eq_of_beq_eq_true hb
    rw [hb] at hi
    obtain rfl : v = u := Option.some.inj hi
    simp [h.size, hd]
  | false =>
    have hne : d ≠ i := fun e => by subst e; simp at hb
    rw [hb] at hi
    rw [Array.getElem?_setIfInBounds_ne hne]
    exact h.get i u hi
theorem Ag.ext {n : Nat} {t : Array Value} {E : Env} (h : Ag n t E) {d : Nat} {v : Value} (hv : t[d]? = some v) : Ag n t ((d, v) :: E) := by
  refine ⟨h.size, fun i u hi => ?_⟩
  simp only [Env.get] at hi
  cases hb : Nat.beq d i with
  | true =>
    obtain rfl : d = i := Nat.eq_of_beq_eq_true hb
    rw [hb] at hi
    obtain rfl : v = u := Option.some.inj hi
    exact hv
  | false => rw [hb] at hi; exact h.get i u hi
/-- E' says no more than E. -/
def SubE (E' E : Env) : Prop := ∀ i v, Env.get E' i = some v → Env.get E i = some v
theorem Ag.sub {n : Nat} {t : Array Value} {E E' : Env} (h : Ag n t E) (hs : SubE E' E) : Ag n t E' := ⟨h.size, fun i v hi => h.get i v (hs i v hi)⟩
theorem SubE.refl (E : Env) : SubE E E := fun _ _ h => h
theorem SubE.nil (E : Env) : SubE [] E := fun _ _ h => by cases h
theorem SubE.cons {E E' : Env} {d : Nat} {v : Value} (hv : Env.get E d = some v) (h : SubE E' E) : SubE ((d, v) :: E') E := by
  intro i u hi
  simp only [Env.get] at hi
  cases hb : Nat.beq d i with
  | true =>
    obtain rfl : d = i := Nat.eq_of_beq_eq_true hb
    rw [hb] at hi
    obtain rfl : v = u := Option.some.inj hi
    exact hv
  | false => rw [hb] at hi; exact h i u hi
/-- the arguments' slots -/
def Env.args : Nat → List Value → Env
  | _, [] => []
  | i, v :: r => (i, v) :: Env.args (i + 1) r
theorem Env.get_args (l : List Value) : ∀ k i v, Env.get (Env.args k l) i = some v → k ≤ i ∧ l[i - k]? = some v := by
  induction l with
  | nil => intro k i v h; cases h
  | cons x r ih =>
    intro k i v h
    simp only [Env.args, Env.get] at h
    cases hb : Nat.beq k i with
    | true =>
      obtain rfl : k = i := Nat.eq_of_beq_eq_true hb
      rw [hb] at h
      obtain rfl : x = v := Option.some.inj h
      simp
    | false =>
      rw [hb] at h
      obtain ⟨h1, h2⟩ := ih (k + 1) i v h
      refine ⟨by omega, ?_⟩
      rw [show i - k = (i - (k + 1)) + 1 by omega]
      simpa using h2

/-! ### what memory holds -/
structure Asn where
  holds : World → Prop
  foot : Nat → Prop
  turn : Nat → Prop
  keep : ∀ w w' : World, (∀ b, foot b → w'.heap[b]? = w.heap[b]?) → holds w → holds w'
  live : ∀ w : World, holds w → ∀ b, foot b → b < w.heap.size
  sub : ∀ b, turn b → foot b
def Apart (x y : Asn) : Prop := ∀ b, (x.turn b → ¬ y.foot b) ∧ (y.turn b → ¬ x.foot b)
theorem Apart.symm {x y : Asn} (h : Apart x y) : Apart y x := fun b => ⟨(h b).2, (h b).1⟩
structure Mem (S : Nat → Prop) (w0 w : World) (l : List Asn) : Prop where
  os : w.os = w0.os
  tape : w.tape = w0.tape
  output : w.output = w0.output
  size : w0.heap.size ≤ w.heap.size
  inS : ∀ b, S b → b < w0.heap.size
  old : ∀ b, S b → w.heap[b]? = w0.heap[b]?
  holds : ∀ x ∈ l, x.holds w
  apart : l.Pairwise Apart
  off : ∀ x ∈ l, ∀ b, x.foot b → ¬ S b
def Old (w : World) (ms : Nat → Prop) : Nat → Prop := fun b => b < w.heap.size ∧ ¬ ms b
abbrev All (w : World) : Nat → Prop := Old w (fun _ => False)
section
variable {S : Nat → Prop} {w0 w w' : World} {l l' lm lf : List Asn}
theorem Mem.nil (w : World) (hS : ∀ b, S b → b < w.heap.size) : Mem S w w [] :=
  ⟨rfl, rfl, rfl, Nat.le_refl _, hS, fun _ _ => rfl, (fun _ h => by cases h), .nil, (fun _ h => by cases h)⟩
theorem Mem.all (w : World) : Mem (All w) w w [] := .nil w fun _ h => h.1
theorem Mem.sublist (M : Mem S w0 w l) (h : l'.Sublist l) : Mem S w0 w l' :=
  { M with holds := fun x hx => M.holds x (h.subset hx), apart := M.apart.sublist h, off := fun x hx => M.off x (h.subset hx) }
theorem Mem.perm (M : Mem S w0 w l) (h : l.Perm l') : Mem S w0 w l' :=
  { M with holds := fun x hx => M.holds x (h.mem_iff.2 hx), apart := h.pairwise M.apart fun h => h.symm, off := fun x hx => M.off x (h.mem_iff.2 hx) }
theorem Mem.sameHeap (M : Mem S w0 w l) (hh : w'.heap = w.heap) (ho : w'.os = w.os) (ht : w'.tape = w.tape) (hp : w'.output = w.output) : Mem S w0 w' l :=
  ⟨ho.trans M.os, ht.trans M.tape, hp.trans M.output, by rw [hh]; exact M.size, M.inS, fun b hb => by rw [hh]; exact M.old b hb,
   fun x hx => x.keep w w' (fun b _ => by rw [hh]) (M.holds x hx), M.apart, M.off⟩
/-- WHAT A CALL LEAVES, IN THE CALLER's WORLD. -/
theorem Mem.frame {ms : Nat → Prop} (M : Mem S w0 w (lm ++ lf)) (hms : ∀ b, ms b → ∃ x ∈ lm, x.turn b) (M' : Mem (Old w ms) w w' l') : Mem S w0 w' (l' ++ lf) := by
  have hlm : ∀ b, ms b → ¬ S b := fun b hb hs => by
    obtain ⟨x, hx, hm⟩ := hms b hb
    exact M.off x (List.mem_append.2 (.inl hx)) b (x.sub b hm) hs
  have hlt : ∀ x ∈ lf, ∀ b, x.foot b → Old w ms b := fun x hx b hb => by
    refine ⟨x.live w (M.holds x (List.mem_append.2 (.inr hx))) b hb, fun hm => ?_⟩
    obtain ⟨y, hy, hym⟩ := hms b hm
    exact ((List.pairwise_append.1 M.apart).2.2 y hy x hx b).1 hym hb
  refine ⟨M'.os.trans M.os, M'.tape.trans M.tape, M'.output.trans M.output, Nat.le_trans M.size M'.size, M.inS, fun b hb => ?_, fun x hx => ?_, ?_, fun x hx b hb hs => ?_⟩
  · exact (M'.old b ⟨Nat.lt_of_lt_of_le (M.inS b hb) M.size, fun h => hlm b h hb⟩).trans (M.old b hb)
  · rcases List.mem_append.1 hx with hx | hx
    · exact M'.holds x hx
    · exact x.keep w w' (fun b hb => M'.old b (hlt x hx b hb)) (M.holds x (List.mem_append.2 (.inr hx)))
  · refine List.pairwise_append.2 ⟨M'.apart, (List.pairwise_append.1 M.apart).2.1, fun x hx y hy b => ⟨fun hm hf => ?_, fun hm hf => ?_⟩⟩
    · exact M'.off x hx b (x.sub b hm) (hlt y hy b hf)
    · exact M'.off x hx b hf (hlt y hy b (y.sub b hm))
  · rcases List.mem_append.1 hx with hx | hx
    · exact M'.off x hx b hb ⟨Nat.lt_of_lt_of_le (M.inS b hs) M.size, fun h => hlm b h hs⟩
    · exact M.off x (List.mem_append.2 (.inr hx)) b hb hs
theorem Mem.call (M : Mem S w0 w l) (M' : Mem (All w) w w' l') : Mem S w0 w' (l' ++ l) := Mem.frame (lm := []) M (fun _ h => h.elim) M'
/-- A block: its cells, none of them frozen. -/
def blk (b : Nat) (cs : Array Value) (T : TypeId) : Asn where
  holds w := ∃ fr : Nat × Nat, w.heap[b]? = some (.cells cs T fr) ∧ ∀ i, i < cs.size → ¬ (fr.1 ≤ i ∧ i < fr.2)
  foot b' := b' = b
  turn b' := b' = b
  keep w w' h := fun ⟨fr, h1, h2⟩ => ⟨fr, (h b rfl).trans h1, h2⟩
  live w := fun ⟨fr, h1, _⟩ b' hb => by
    subst hb
    by_cases hlt : b' < w.heap.size
    · exact hlt
    · rw [Array.getElem?_eq_none (by omega)] at h1; cases h1
  sub _ h := h
theorem Mem.blkAt (M : Mem S w0 w l) {i b : Nat} {cs : Array Value} {T : TypeId} (h : l[i]? = some (blk b cs T)) :
    ∃ fr : Nat × Nat, w.heap[b]? = some (.cells cs T fr) ∧ ∀ i, i < cs.size → ¬ (fr.1 ≤ i ∧ i < fr.2) := M.holds _ (List.mem_of_getElem? h)
theorem Mem.alloc (M : Mem S w0 w l) (cs : Array Value) (T : TypeId) : Mem S w0 (w.alloc (.cells cs T)) (blk w.heap.size cs T :: l) := by
  have hold : ∀ b, b < w.heap.size → (w.alloc (.cells cs T)).heap[b]? = w.heap[b]? := fun b hb => Go.RowKit.Below.heap_alloc w _ b hb
  have hlt : ∀ x ∈ l, ∀ b, x.foot b → b < w.heap.size := fun x hx b hb => x.live w (M.holds x hx) b hb
  refine ⟨M.os, M.tape, M.output, by simp; have := M.size; omega, M.inS, fun b hb => (hold b (Nat.lt_of_lt_of_le (M.inS b hb) M.size)).trans (M.old b hb), fun x hx => ?_, ?_, fun x hx b hb hs => ?_⟩
  · rcases List.mem_cons.1 hx with rfl | hx
    · exact ⟨(0, 0), heap_alloc_new w _, fun i _ h => by omega⟩
    · exact x.keep w _ (fun b hb => hold b (hlt x hx b hb)) (M.holds x hx)
  · refine List.pairwise_cons.2 ⟨fun y hy b => ⟨fun hm hf => ?_, fun hm hf => ?_⟩, M.apart⟩
    · obtain rfl : b = w.heap.size := hm
      exact absurd (hlt y hy _ hf) (by omega)
    · obtain rfl : b = w.heap.size := hf
      exact absurd (hlt y hy _ (y.sub _ hm)) (by omega)
  · rcases List.mem_cons.1 hx with rfl | hx
    · obtain rfl : b = w.heap.size := hb
      have := M.inS _ hs; have := M.size; omega
    · exact M.off x hx b hb hs
/-- w' is w but for the block b, which now holds cs. -/
structure Upd (w w' : World) (b : Nat) (cs : Array Value) (T : TypeId) : Prop where
  os : w'.os = w.os
  tape : w'.tape = w.tape
  output : w'.output = w.output
  size : w'.heap.size = w.heap.size
  new : ∃ fr : Nat × Nat, w'.heap[b]? = some (.cells cs T fr) ∧ ∀ i, i < cs.size → ¬ (fr.1 ≤ i ∧ i < fr.2)
  old : ∀ b', b' ≠ b → w'.heap[b']? = w.heap[b']?
theorem Mem.upd (M : Mem S w0 w l) {i b : Nat} {cs cs' : Array Value} {T T' : TypeId} (h : l[i]? = some (blk b cs T)) (U : Upd w w' b cs' T') : Mem S w0 w' (l.set i (blk b cs' T')) := by
  have hi : i < l.length := (List.getElem?_eq_some_iff.1 h).1
  have hb : ¬ S b := M.off _ (List.mem_of_getElem? h) b rfl
  have hne : ∀ j x, j ≠ i → l[j]? = some x → ¬ x.foot b := by
    intro j x hj hx hf
    have hjl : j < l.length := (List.getElem?_eq_some_iff.1 hx).1
    have hpw := List.pairwise_iff_getElem.1 M.apart
    have e1 : l[i] = blk b cs T := (List.getElem?_eq_some_iff.1 h).2
    have e2 : l[j] = x := (List.getElem?_eq_some_iff.1 hx).2
    rcases Nat.lt_or_gt_of_ne hj with hlt | hlt
    · have := hpw j i hjl hi hlt
      rw [e1, e2] at this
      exact (this b).2 rfl hf
    · have := hpw i j hi hjl hlt
      rw [e1, e2] at this
      exact (this b).1 rfl hf
  refine ⟨U.os.trans M.os, U.tape.trans M.tape, U.output.trans M.output, by rw [U.size]; exact M.size, M.inS, fun b' hb' => (U.old b' (fun e => hb (e ▸ hb'))).trans (M.old b' hb'), fun x hx => ?_, ?_, fun x hx b' hf => ?_⟩
  · obtain ⟨j, hj⟩ := List.mem_iff_getElem?.1 hx
    by_cases hji : j = i
    · subst hji
      rw [List.getElem?_set_self hi] at hj
      obtain rfl := Option.some.inj hj
      exact U.new
    · rw [List.getElem?_set_ne (Ne.symm hji)] at hj
      exact x.keep w w' (fun b' hf => U.old b' (fun e => hne j x hji hj (e ▸ hf))) (M.holds x (List.mem_of_getElem? hj))
  · rw [List.pairwise_iff_getElem]
    intro j k hj hk hjk
    have hpw := List.pairwise_iff_getElem.1 M.apart j k (by simpa using hj) (by simpa using hk) hjk
    have hfe : ∀ b', (blk b cs' T').foot b' = (blk b cs T).foot b' := fun _ => rfl
    have hme : ∀ b', (blk b cs' T').turn b' = (blk b cs T).turn b' := fun _ => rfl
    have e1 : l[i] = blk b cs T := (List.getElem?_eq_some_iff.1 h).2
    rw [List.getElem_set, List.getElem_set]
    by_cases h1 : i = j
    · subst h1
      rw [if_pos rfl, if_neg (by omega)]
      rw [e1] at hpw
      exact hpw
    · rw [if_neg h1]
      by_cases h2 : i = k
      · subst h2
        rw [if_pos rfl]
        rw [e1] at hpw
        exact hpw
      · rw [if_neg h2]; exact hpw
  · obtain ⟨j, hj⟩ := List.mem_iff_getElem?.1 hx
    by_cases hji : j = i
    · subst hji
      rw [List.getElem?_set_self hi] at hj
      obtain rfl := Option.some.inj hj
      obtain rfl : b' = b := hf
      exact hb
    · rw [List.getElem?_set_ne (Ne.symm hji)] at hj
      exact M.off x (List.mem_of_getElem? hj) b' hf
theorem Upd.setCell {b j : Nat} {cs : Array Value} {T : TypeId} {fr : Nat × Nat} (hh : w.heap[b]? = some (.cells cs T fr)) (hf : ∀ i, i < cs.size → ¬ (fr.1 ≤ i ∧ i < fr.2)) (v : Value) :
    Upd w (w.setCell ⟨b, j, none⟩ v) b (cs.setIfInBounds j v) T := by
  refine ⟨rfl, rfl, rfl, by simp, ⟨fr, ?_, fun i hi => hf i (by simpa using hi)⟩, fun b' hb' => heap_setCell_other w _ b' v hb'⟩
  rw [setCell_eq_setRow w b j cs T fr v hh]
  exact setRow_heap w b cs _ T _ hh
theorem Upd.trans {w1 w2 : World} {b : Nat} {cs1 cs2 : Array Value} {T1 T2 : TypeId} (h1 : Upd w w1 b cs1 T1) (h2 : Upd w1 w2 b cs2 T2) : Upd w w2 b cs2 T2 :=
  ⟨h2.os.trans h1.os, h2.tape.trans h1.tape, h2.output.trans h1.output, h2.size.trans h1.size, h2.new, fun b' hb' => (h2.old b' hb').trans (h1.old b' hb')⟩
end

/-! ### the judgement, and the rules for code -/
def St (n : Nat) (S : Nat → Prop) (w0 : World) (K : Act → World → Prop) (E : Env) (l : List Asn) : Prop :=
  ∀ t w, Ag n t E → Mem S w0 w l → K ⟨t, []⟩ w
section
variable {P : Program} {n : Nat} {S : Nat → Prop} {w0 : World} {E E' : Env} {l l' : List Asn} {Q : Exit → Act → World → Prop} {K : Act → World → Prop} {ops : Array Oper} {rest : List Oper} {o : Oper}
theorem St.weak (h : St n S w0 K E' l') (hE : SubE E' E) (hl : ∀ w, Mem S w0 w l → Mem S w0 w l') : St n S w0 K E l := fun t w hA hM => h t w (hA.sub hE) (hl w hM)
theorem St.env (h : St n S w0 K E' l) (hE : SubE E' E) : St n S w0 K E l := fun t w hA hM => h t w (hA.sub hE) hM
theorem St.mem (h : St n S w0 K E l') (hl : ∀ w, Mem S w0 w l → Mem S w0 w l') : St n S w0 K E l := fun t w hA hM => h t w hA (hl w hM)
/-- a fact that memory gives -/
theorem St.know {p : Prop} (hp : ∀ w, Mem S w0 w l → p) (h : p → St n S w0 K E l) : St n S w0 K E l := fun t w hA hM => h (hp w hM) t w hA hM
theorem st_seq {x y : Code} (h : St n S w0 (x.wp P (Exit.then (y.wp P Q) Q)) E l) : St n S w0 ((Code.seq x y).wp P Q) E l := fun t w hA hM => wp_seq (h t w hA hM)
theorem st_then (h : St n S w0 K E l) : St n S w0 (Exit.then K Q .normal) E l := h
theorem st_then_ret (h : St n S w0 (Q .ret) E l) : St n S w0 (Exit.then K Q .ret) E l := h
theorem st_then_exit {id : Nat} (h : St n S w0 (Q (.exit id)) E l) : St n S w0 (Exit.then K Q (.exit id)) E l := h
theorem st_skip (h : St n S w0 (Q .normal) E l) : St n S w0 (Code.skip.wp P Q) E l := fun t w hA hM => wp_skip (h t w hA hM)
theorem st_ret (h : St n S w0 (Q .ret) E l) : St n S w0 (Code.ret.wp P Q) E l := fun t w hA hM => wp_ret (h t w hA hM)
theorem st_exit {id : Nat} (h : St n S w0 (Q (.exit id)) E l) : St n S w0 ((Code.exit id).wp P Q) E l := fun t w hA hM => wp_exit (h t w hA hM)
theorem st_block {id : Nat} {c : Code} (h : St n S w0 (c.wp P (Exit.inBlock id Q)) E l) : St n S w0 ((Code.block id c).wp P Q) E l := fun t w hA hM => wp_block (h t w hA hM)
theorem st_in_normal {id : Nat} (h : St n S w0 (Q .normal) E l) : St n S w0 (Exit.inBlock id Q .normal) E l := h
theorem st_in_ret {id : Nat} (h : St n S w0 (Q .ret) E l) : St n S w0 (Exit.inBlock id Q .ret) E l := h
theorem st_in_exit {id : Nat} (h : St n S w0 (Q .normal) E l) : St n S w0 (Exit.inBlock id Q (.exit id)) E l := fun t w hA hM => by
  simp only [Exit.inBlock, ↓reduceIte]; exact h t w hA hM
theorem st_in_other {id id' : Nat} (hne : id' ≠ id) (h : St n S w0 (Q (.exit id')) E l) : St n S w0 (Exit.inBlock id Q (.exit id')) E l := fun t w hA hM => by
  simp only [Exit.inBlock, if_neg hne]; exact h t w hA hM
theorem st_cond {c : Operand} {x y : Code} {b : Bool} (hc : Env.ev E c = some (.bool b)) (ht : b = true → St n S w0 (x.wp P Q) E l) (hf : b = false → St n S w0 (y.wp P Q) E l) :
    St n S w0 ((Code.cond c x y).wp P Q) E l := fun t w hA hM => wp_cond_split (hA.ev hc) (fun h => ht h t w hA hM) (fun h => hf h t w hA hM)
theorem st_true {c : Operand} {x y : Code} (hc : Env.ev E c = some (.bool true)) (h : St n S w0 (x.wp P Q) E l) : St n S w0 ((Code.cond c x y).wp P Q) E l :=
  fun t w hA hM => wp_cond_true (hA.ev hc) (h t w hA hM)
theorem st_false {c : Operand} {x y : Code} (hc : Env.ev E c = some (.bool false)) (h : St n S w0 (y.wp P Q) E l) : St n S w0 ((Code.cond c x y).wp P Q) E l :=
  fun t w hA hM => wp_cond_false (hA.ev hc) (h t w hA hM)
theorem st_region {id : Nat} {L : List Oper} (h : St n S w0 (wpList P L.toArray Q L) E l) : St n S w0 ((Code.region id L.toArray false).wp P Q) E l := fun t w hA hM => wp_region_lit (h t w hA hM)
theorem st_nil (h : St n S w0 (Q .normal) E l) : St n S w0 (wpList P ops Q []) E l := fun t w hA hM => wpList_nil (h t w hA hM)
/-- A LOOP: 's' what is known ahead of a round, 'm' a measure that falls. -/
theorem st_loop {σ : Type} (F : σ → Env) (L : σ → List Asn) (I : σ → Prop) (m : σ → Nat) (s0 : σ) {c : Code} (h0 : I s0) (hE : SubE (F s0) E) (hl : ∀ w, Mem S w0 w l → Mem S w0 w (L s0))
    (round : ∀ s, I s → St n S w0 (c.wp P (Exit.then (fun a w => ∃ s' t, I s' ∧ m s' < m s ∧ a = ⟨t, []⟩ ∧ Ag n t (F s') ∧ Mem S w0 w (L s')) Q)) (F s) (L s)) :
    St n S w0 ((Code.loop c).wp P Q) E l := by
  intro t w hA hM
  refine wp_loop_ghost (fun k a w => ∃ s t, I s ∧ m s = k ∧ a = ⟨t, []⟩ ∧ Ag n t (F s) ∧ Mem S w0 w (L s)) (m s0) ⟨s0, t, h0, rfl, rfl, hA.sub hE, hl w hM⟩ ?_
  rintro k a w' ⟨s, t', hI, rfl, rfl, hA', hM'⟩
  refine wp_mono (round s hI t' w' hA' hM') fun e a' w'' hq => ?_
  cases e with
  | normal =>
    obtain ⟨s', t'', h1, h2, h3, h4, h5⟩ := hq
    exact ⟨m s', h2, s', t'', h1, rfl, h3, h4, h5⟩
  | _ => exact hq
/-- the round's end -/
theorem st_again {σ : Type} {F : σ → Env} {L : σ → List Asn} {I : σ → Prop} {m : σ → Nat} {k : Nat} (s' : σ) (h1 : I s') (h2 : m s' < k) (hE : SubE (F s') E) (hl : ∀ w, Mem S w0 w l → Mem S w0 w (L s')) :
    St n S w0 (fun a w => ∃ s' t, I s' ∧ m s' < k ∧ a = ⟨t, []⟩ ∧ Ag n t (F s') ∧ Mem S w0 w (L s')) E l :=
  fun t w hA hM => ⟨s', t, h1, h2, rfl, hA.sub hE, hl w hM⟩
/-- WAYS MEET: what is known behind x is F, L at some s. -/
theorem st_cut {σ : Type} (F : σ → Env) (L : σ → List Asn) (I : σ → Prop) {x y : Code}
    (hx : St n S w0 (x.wp P (Exit.then (fun a w => ∃ s t, I s ∧ a = ⟨t, []⟩ ∧ Ag n t (F s) ∧ Mem S w0 w (L s)) Q)) E l)
    (hy : ∀ s, I s → St n S w0 (y.wp P Q) (F s) (L s)) : St n S w0 ((Code.seq x y).wp P Q) E l := fun t w hA hM => by
  refine wp_seq (wp_mono (hx t w hA hM) fun e a' w' hq => ?_)
  cases e with
  | normal =>
    obtain ⟨s, t', h1, rfl, h3, h4⟩ := hq
    exact hy s h1 t' w' h3 h4
  | _ => exact hq
theorem st_meet {σ : Type} {F : σ → Env} {L : σ → List Asn} {I : σ → Prop} (s : σ) (h1 : I s) (hE : SubE (F s) E) (hl : ∀ w, Mem S w0 w l → Mem S w0 w (L s)) :
    St n S w0 (fun a w => ∃ s t, I s ∧ a = ⟨t, []⟩ ∧ Ag n t (F s) ∧ Mem S w0 w (L s)) E l := fun t w hA hM => ⟨s, t, h1, rfl, hA.sub hE, hl w hM⟩

/-! ### entering and leaving a function -/
theorem calls_of_st {n : Nat} {f : FuncId} {fn : Func} {c : Code} {args : List Value} {w : World} {R : Ending → World → Prop} (hf : P.funcs[f]? = some fn) (hb : fn.body = some c) (hnt : fn.ntmps = n) (hn : args.length ≤ n)
    (M : Mem S w w l) (h : St n S w (c.wp P (bodyPost P fn R)) (Env.args 0 args) l) : Calls P f args.toArray w R := by
  subst hnt
  refine calls_of_wp hf hb (h _ w ⟨by simp; omega, fun i v hi => ?_⟩ M)
  obtain ⟨_, h2⟩ := Env.get_args args 0 i v hi
  simp only [Nat.sub_zero] at h2
  have hlt : i < args.length := (List.getElem?_eq_some_iff.1 h2).1
  rw [Array.getElem?_append_left (by simpa using hlt)]
  simpa using h2
theorem st_done {fn : Func} {R : Ending → World → Prop} {r : Tmp} {v : Value} (hr : fn.results = #[.tmp r]) (hv : Env.get E r = some v) (h : ∀ w, Mem S w0 w l → R (.returned v) w) :
    St n S w0 (bodyPost P fn R .ret) E l := fun t w hA hM => bodyPost_ret (results_tmp hr _ _ _) rfl (by
  have := hA.get r v hv
  simpa [this] using h w hM)
theorem st_done2 {fn : Func} {R : Ending → World → Prop} {r s : Tmp} {v u : Value} (hr : fn.results = #[.tmp r, .tmp s]) (hv : Env.get E r = some v) (hu : Env.get E s = some u)
    (h : ∀ w, Mem S w0 w l → R (.returned (.tuple #[v, u])) w) : St n S w0 (bodyPost P fn R .ret) E l := fun t w hA hM => bodyPost_ret (results_tmp2 hr _ _ _) rfl (by
  have h1 := hA.get r v hv
  have h2 := hA.get s u hu
  simpa [h1, h2] using h w hM)
theorem st_done0 {fn : Func} {R : Ending → World → Prop} (hr : fn.results = #[]) (h : ∀ w, Mem S w0 w l → R (.returned (.tuple #[])) w) :
    St n S w0 (bodyPost P fn R .ret) E l := fun t w hA hM => bodyPost_ret (results_none hr _ _ _) rfl (h w hM)
theorem st_done0' {fn : Func} {R : Ending → World → Prop} (hr : fn.results = #[]) (h : ∀ w, Mem S w0 w l → R (.returned (.tuple #[])) w) :
    St n S w0 (bodyPost P fn R .normal) E l := fun t w hA hM => bodyPost_ret (results_none hr _ _ _) rfl (h w hM)
end
end Go.Proofs.YtjhjjhpfjadjpaaDoor
