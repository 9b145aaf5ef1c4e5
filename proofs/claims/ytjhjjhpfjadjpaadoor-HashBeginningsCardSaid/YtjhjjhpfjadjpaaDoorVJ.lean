/- Helpers: the parts of a statement whose order is open. -/
import Derived.Test.YtjhjjhpfjadjpaaDoorVI
namespace Go.Proofs.YtjhjjhpfjadjpaaDoor
set_option linter.all false
open Go
section
variable {P : Program} {n : Nat} {S : Nat → Prop} {w0 : World} {E E0 : Env} {l : List Asn} {Q : Exit → Act → World → Prop} {K : Act → World → Prop} {L : List Oper} {SI : List Nat} {GL : List (Nat → Value → Asn)} {ls : Nat → (Nat → Value) → List Asn} {M N : Nat} {ms : List Nat}
  {dst : Option Tmp} {ty : TypeId} {pos : String} {af : Array Edge} {g : Option (Nat × Bool)} {v u : Value} {d : Nat} {op : Op} {x y : Operand} {t t2 T e : TypeId} {o : Oper}
/-! ### what single operations do -/
theorem does_v (h : RunsV P n S w0 o E l v) : Does P n S w0 o E l (peq v) := fun t w hA hM K Q hK => by
  unfold Oper.wp
  rw [h t w hA hM, Oper.upon_value]
  refine hK v w ⟨rfl, rfl, rfl, Nat.le_refl _, fun b hb => hb.1, fun _ _ => rfl, fun x hx => ?_, List.pairwise_singleton _ _, fun x hx b hb => ?_⟩
  · rw [List.mem_singleton.1 hx]; rfl
  · rw [List.mem_singleton.1 hx] at hb; exact hb.elim
theorem does_call {f : FuncId} {as : List Operand} {vs : List Value} {ats : Array TypeId} {G : Value → Asn} (hf : Callable P f) (hv : evs E as = some vs)
    (C : ∀ w, Mem S w0 w l → Calls P f vs.toArray w fun e w' => ∃ v, e = .returned v ∧ Mem (All w) w w' [G v]) :
    Does P n S w0 ⟨dst, .call { callee := .value (.func f), args := as.toArray, argTypes := ats }, ty, pos, af, g⟩ E l G := fun t w hA hM K Q hK => by
  unfold Oper.wp
  rw [run_call hA hf hv, Oper.upon_enter]
  refine (C w hM).mono fun e w' he => ?_
  obtain ⟨v, rfl, hM'⟩ := he
  exact hK v w' hM'
theorem Mem.peq' {S : Nat → Prop} {w w' : World} (M : Mem S w w' []) (v : Value) : Mem S w w' [peq v v] :=
  ⟨M.os, M.tape, M.output, M.size, M.inS, M.old, fun x hx => by rw [List.mem_singleton.1 hx]; rfl, List.pairwise_singleton _ _, fun x hx b hb => by rw [List.mem_singleton.1 hx] at hb; exact hb.elim⟩
theorem does_call0 {f : FuncId} {as : List Operand} {vs : List Value} {ats : Array TypeId} (hf : Callable P f) (hv : evs E as = some vs)
    (C : ∀ w, Mem S w0 w l → Calls P f vs.toArray w fun e w' => e = .returned v ∧ Mem (All w) w w' []) :
    Does P n S w0 ⟨dst, .call { callee := .value (.func f), args := as.toArray, argTypes := ats }, ty, pos, af, g⟩ E l (peq v) :=
  does_call hf hv fun w hM => (C w hM).mono fun e w' he => ⟨v, he.1, he.2.peq' v⟩
/-- a new block, known by its address -/
def blkV (cs : Array Value) (T : TypeId) (v : Value) : Asn where
  holds w := ∃ b, v = pt b 0 ∧ (blk b cs T).holds w
  foot b := v = pt b 0
  turn b := v = pt b 0
  keep w w' h hr := by
    obtain ⟨b, hv, hb⟩ := hr
    exact ⟨b, hv, (blk b cs T).keep w w' (fun b' hb' => by obtain rfl : b' = b := hb'; exact h b' hv) hb⟩
  live w hr b hb := by
    obtain ⟨b', hv, hb'⟩ := hr
    rw [hb] at hv
    simp only [Value.pointer.injEq, Option.some.injEq, Addr.mk.injEq] at hv
    obtain ⟨rfl, _⟩ := hv
    exact (blk b cs T).live w hb' b rfl
  sub _ h := h
theorem Mem.blkV' {S : Nat → Prop} {w w' : World} {cs : Array Value} {T : TypeId} {b : Nat} {r : List Asn} (M : Mem S w w' (blk b cs T :: r)) : Mem S w w' (blkV cs T (pt b 0) :: r) := by
  have hf : ∀ b', (blkV cs T (pt b 0)).foot b' → (blk b cs T).foot b' := fun b' h => by
    have h : pt b 0 = pt b' 0 := h
    simp only [Value.pointer.injEq, Option.some.injEq, Addr.mk.injEq] at h
    exact h.1.symm
  refine { M with holds := fun x hx => ?_, apart := ?_, off := fun x hx b' hb => ?_ }
  · rcases List.mem_cons.1 hx with rfl | hx
    · exact ⟨b, rfl, M.holds _ List.mem_cons_self⟩
    · exact M.holds x (List.mem_cons_of_mem _ hx)
  · obtain ⟨h1, h2⟩ := List.pairwise_cons.1 M.apart
    exact List.pairwise_cons.2 ⟨fun y hy b' => ⟨fun hm => (h1 y hy b').1 (hf b' hm), fun hm hff => (h1 y hy b').2 hm (hf b' hff)⟩, h2⟩
  · rcases List.mem_cons.1 hx with rfl | hx
    · exact M.off _ List.mem_cons_self b' (hf b' hb)
    · exact M.off x (List.mem_cons_of_mem _ hx) b' hb
theorem Mem.blkV_blk {S : Nat → Prop} {w w' : World} {cs : Array Value} {T : TypeId} {v : Value} {r : List Asn} (M : Mem S w w' (blkV cs T v :: r)) : ∃ b, v = pt b 0 ∧ Mem S w w' (blk b cs T :: r) := by
  obtain ⟨b, hv, hb⟩ := M.holds _ List.mem_cons_self
  refine ⟨b, hv, ?_⟩
  have hf : ∀ b', (blk b cs T).foot b' → (blkV cs T v).foot b' := fun b' h => by obtain rfl : b' = b := h; exact hv
  refine { M with holds := fun x hx => ?_, apart := ?_, off := fun x hx b' hb' => ?_ }
  · rcases List.mem_cons.1 hx with rfl | hx
    · exact hb
    · exact M.holds x (List.mem_cons_of_mem _ hx)
  · obtain ⟨h1, h2⟩ := List.pairwise_cons.1 M.apart
    exact List.pairwise_cons.2 ⟨fun y hy b' => ⟨fun hm => (h1 y hy b').1 (hf b' hm), fun hm hff => (h1 y hy b').2 hm (hf b' hff)⟩, h2⟩
  · rcases List.mem_cons.1 hx with rfl | hx
    · exact M.off _ List.mem_cons_self b' (hf b' hb')
    · exact M.off x (List.mem_cons_of_mem _ hx) b' hb'
theorem does_alloc {z : Value} {size bytes : Nat} {cs : Array Value} (hz : TyZ P t z size bytes) (hc : z.cells = cs) : Does P n S w0 ⟨dst, .alloc t, ty, pos, af, g⟩ E l (blkV cs t) := fun tt w hA hM K Q hK => by
  obtain ⟨i, hi, hz, _⟩ := hz
  have hr : (execOp (Act.eval ⟨tt, []⟩) ⟨dst, .alloc t, ty, pos, af, g⟩).run P w = .ok (.value (pt w.heap.size 0)) (w.alloc (.cells cs t)) := by
    simp [execOp, Instr.alloc, zeroValue, typeInfo, hi, hz, newVar, newRow, hc]
  unfold Oper.wp
  rw [hr, Oper.upon_value]
  exact hK _ _ ((Mem.all w).alloc cs t).blkV'
theorem does_box {cs : Array Value} (hx : Env.ev E x = some v) (hc : v.cells = cs) : Does P n S w0 ⟨dst, .box t x, ty, pos, af, g⟩ E l (blkV cs t) := fun tt w hA hM K Q hK => by
  have hr : (execOp (Act.eval ⟨tt, []⟩) ⟨dst, .box t x, ty, pos, af, g⟩).run P w = .ok (.value (pt w.heap.size 0)) (w.alloc (.cells cs t)) := by
    simp [execOp, Instr.box, hA.ev hx, newVar, newRow, hc]
  unfold Oper.wp
  rw [hr, Oper.upon_value]
  exact hK _ _ ((Mem.all w).alloc cs t).blkV'
/-! ### what is taken from the operations ahead -/
def JP (L : List Oper) (SI : List Nat) (GL : List (Nat → Value → Asn)) (A : Nat → Bool) (M N : Nat) (x : Nat × Nat × Value) : Prop :=
  A x.1 = true ∧ (M ≤ x.1 ∧ x.1 < N) ∧ SI.contains x.1 = false ∧ (L[x.1]?).bind (·.dst) = some x.2.1 ∧ GL[x.1]? = some (kpeq x.2.2)
def JAll (L : List Oper) (SI : List Nat) (GL : List (Nat → Value → Asn)) (A : Nat → Bool) (M N : Nat) : List (Nat × Nat × Value) → Prop
  | [] => True
  | x :: r => JP L SI GL A M N x ∧ JAll L SI GL A M N r
def jenv : List (Nat × Nat × Value) → Env
  | [] => []
  | x :: r => (x.2.1, x.2.2) :: jenv r
/-- facts with memory -/
def XP (L : List Oper) (SI : List Nat) (GL : List (Nat → Value → Asn)) (A : Nat → Bool) (M N : Nat) (x : Nat × Nat × (Nat → Value → Asn)) : Prop :=
  A x.1 = true ∧ (M ≤ x.1 ∧ x.1 < N) ∧ SI.contains x.1 = false ∧ (L[x.1]?).bind (·.dst) = some x.2.1 ∧ GL[x.1]? = some x.2.2
def XAll (L : List Oper) (SI : List Nat) (GL : List (Nat → Value → Asn)) (A : Nat → Bool) (M N : Nat) : Nat → List (Nat × Nat × (Nat → Value → Asn)) → Prop
  | _, [] => True
  | k, x :: r => k ≤ x.1 ∧ XP L SI GL A M N x ∧ XAll L SI GL A M N (x.1 + 1) r
def xenv (vals : Nat → Value) : List (Nat × Nat × (Nat → Value → Asn)) → Env
  | [] => []
  | x :: r => (x.2.1, vals x.1) :: xenv vals r
def xmem (p : Nat) (vals : Nat → Value) : List (Nat × Nat × (Nat → Value → Asn)) → List Asn
  | [] => []
  | x :: r => x.2.2 p (vals x.1) :: xmem p vals r
variable {A : Nat → Bool} {vals : Nat → Value} {p : Nat}
theorem facs_mem {i : Nat} {G : Nat → Value → Asn} (hA : A i = true) (hs : SI.contains i = false) (hG : GL[i]? = some G) : ∀ k, i < k → G p (vals i) ∈ facs GL SI p A vals k
  | 0, h => by omega
  | k + 1, h => by
    simp only [facs]
    by_cases hik : i = k
    · subst hik
      refine List.mem_append.2 (.inr ?_)
      have hs' : (!SI.contains i) = true := by rw [hs]; rfl
      simp only [hA, hs', Bool.and_self, if_true, fac1_some hG, List.mem_singleton]
    · exact List.mem_append.2 (.inl (facs_mem hA hs hG k (by omega)))
/-- those from k on -/
def facsFrom (GL : List (Nat → Value → Asn)) (SI : List Nat) (p : Nat) (D : Nat → Bool) (vals : Nat → Value) (k : Nat) : Nat → List Asn
  | 0 => []
  | m + 1 => facsFrom GL SI p D vals k m ++ (if decide (k ≤ m) && (D m && !SI.contains m) then fac1 GL p vals m else [])
theorem facsFrom_zero : ∀ m, facsFrom GL SI p A vals 0 m = facs GL SI p A vals m
  | 0 => rfl
  | m + 1 => by simp [facsFrom, facs, facsFrom_zero m]
theorem facsFrom_none {k : Nat} : ∀ (m : Nat), m ≤ k → facsFrom GL SI p A vals k m = []
  | 0, _ => rfl
  | m + 1, h => by
    have h1 : ¬ k ≤ m := by omega
    have h2 := facsFrom_none (k := k) m (Nat.le_of_succ_le h)
    simp only [facsFrom, h2, h1, decide_false, Bool.false_and, Bool.false_eq_true, if_false, List.append_nil]
theorem facsFrom_cons {k i : Nat} {G : Nat → Value → Asn} (hki : k ≤ i) (hA : A i = true) (hs : SI.contains i = false) (hG : GL[i]? = some G) : ∀ m, i < m → ((G p (vals i)) :: facsFrom GL SI p A vals (i + 1) m).Sublist (facsFrom GL SI p A vals k m)
  | 0, h => by omega
  | m + 1, h => by
    by_cases him : i = m
    · subst him
      have : ¬ i + 1 ≤ i := by omega
      simp only [facsFrom]
      rw [facsFrom_none i (by omega)]
      simp only [this, decide_false, Bool.false_and, Bool.false_eq_true, if_false, List.append_nil, hki, decide_true, hA, hs, Bool.not_false, Bool.and_self, if_true, fac1_some hG]
      exact List.sublist_append_right _ _
    · have ih := facsFrom_cons hki hA hs hG m (by omega)
      have h1 : i + 1 ≤ m := by omega
      have h2 : k ≤ m := by omega
      simp only [facsFrom, h1, h2, decide_true, Bool.true_and]
      exact List.Sublist.append ih (List.Sublist.refl _)
theorem xmem_sub : ∀ (xs : List (Nat × Nat × (Nat → Value → Asn))) (k : Nat), XAll L SI GL A M N k xs → (xmem p vals xs).Sublist (facsFrom GL SI p A vals k N)
  | [], _, _ => List.nil_sublist _
  | x :: r, k, ⟨h1, h2, h3⟩ => by
    obtain ⟨a1, a2, a3, a4, a5⟩ := h2
    exact ((xmem_sub r _ h3).cons_cons _).trans (facsFrom_cons h1 a1 a3 a5 N a2.2)
theorem ag_of {tt : Array Value} {w : World} (hA0 : Ag n tt E0) (hslot : ∀ j oj d, M ≤ j → j < N → A j = true → L[j]? = some oj → oj.dst = some d → tt[d]? = some (vals j))
    (hM : Mem S w0 w (ls p vals ++ facs GL SI p A vals N)) : ∀ (js : List (Nat × Nat × Value)), JAll L SI GL A M N js → Ag n tt (jenv js ++ E0)
  | [], _ => hA0
  | x :: r, ⟨⟨h1, h2, h3, h4, h5⟩, hr⟩ => by
    have ih := ag_of hA0 hslot hM r hr
    refine ih.ext ?_
    cases hL : L[x.1]? with
    | none => simp [hL] at h4
    | some oj =>
      simp only [hL, Option.bind_some] at h4
      rw [hslot x.1 oj x.2.1 h2.1 h2.2 h1 hL h4]
      have h6 := hM.holds _ (List.mem_append.2 (.inr (facs_mem (p := p) (vals := vals) h1 h3 h5 N h2.2)))
      have h7 : vals x.1 = x.2.2 := h6
      rw [h7]
theorem agx_of {tt : Array Value} (hslot : ∀ j oj d, M ≤ j → j < N → A j = true → L[j]? = some oj → oj.dst = some d → tt[d]? = some (vals j)) {E : Env} (hA : Ag n tt E) :
    ∀ (xs : List (Nat × Nat × (Nat → Value → Asn))) (k : Nat), XAll L SI GL A M N k xs → Ag n tt (xenv vals xs ++ E)
  | [], _, _ => hA
  | x :: r, k, ⟨_, ⟨h1, h2, h3, h4, h5⟩, hr⟩ => by
    have ih := agx_of hslot hA r _ hr
    refine ih.ext ?_
    cases hL : L[x.1]? with
    | none => simp [hL] at h4
    | some oj =>
      simp only [hL, Option.bind_some] at h4
      exact hslot x.1 oj x.2.1 h2.1 h2.2 h1 hL h4
theorem memx_of {w : World} (hM : Mem S w0 w (ls p vals ++ facs GL SI p A vals N)) (xs : List (Nat × Nat × (Nat → Value → Asn))) (hx : XAll L SI GL A M N 0 xs) : Mem S w0 w (xmem p vals xs ++ ls p vals) := by
  have h1 := xmem_sub (p := p) (vals := vals) xs 0 hx
  rw [facsFrom_zero] at h1
  exact (hM.sublist (List.Sublist.append (List.Sublist.refl _) h1)).perm List.perm_append_comm
/-- values of the operations that change memory -/
def YAll (L : List Oper) (A : Nat → Bool) (M N : Nat) : List (Nat × Nat) → Prop
  | [] => True
  | x :: r => (A x.1 = true ∧ (M ≤ x.1 ∧ x.1 < N) ∧ (L[x.1]?).bind (·.dst) = some x.2) ∧ YAll L A M N r
def yenv (vals : Nat → Value) : List (Nat × Nat) → Env
  | [] => []
  | x :: r => (x.2, vals x.1) :: yenv vals r
theorem agy_of {tt : Array Value} (hslot : ∀ j oj d, M ≤ j → j < N → A j = true → L[j]? = some oj → oj.dst = some d → tt[d]? = some (vals j)) {E : Env} (hA : Ag n tt E) :
    ∀ (ys : List (Nat × Nat)), YAll L A M N ys → Ag n tt (yenv vals ys ++ E)
  | [], _ => hA
  | x :: r, ⟨⟨h1, h2, h4⟩, hr⟩ => by
    have ih := agy_of hslot hA r hr
    refine ih.ext ?_
    cases hL : L[x.1]? with
    | none => simp [hL] at h4
    | some oj =>
      simp only [hL, Option.bind_some] at h4
      exact hslot x.1 oj x.2 h2.1 h2.2 h1 hL h4
/-- a value of the head -/
theorem hop_valY {i : Nat} {G : Nat → Value → Asn} (js : List (Nat × Nat × Value)) (xs : List (Nat × Nat × (Nat → Value → Asn))) (ys : List (Nat × Nat)) (hs : SI.contains i = false) (hg : o.guard = none) (hd : o.dst = some d) (hdn : d < n) (hG : GL[i]? = some G)
    (hj : JAll L SI GL (fun j => prd o j) M N js) (hx : XAll L SI GL (fun j => prd o j) M N 0 xs) (hy : YAll L (fun j => prd o j) M N ys)
    (h : ∀ p, lo SI ms i ≤ p → p ≤ hi' SI ms i → ∀ vals : Nat → Value, Does P n S w0 o (yenv vals ys ++ (xenv vals xs ++ (jenv js ++ E0))) (xmem p vals xs ++ ls p vals) (G p)) : HOp P n S w0 L SI GL ls E0 M N ms i o := by
  unfold HOp
  rw [hs]
  simp only [Bool.false_eq_true, if_false]
  refine ⟨d, G, hd, hdn, hG, fun p h1 h2 t w vals hA hslot hM => .inl ⟨by simp [Region.wanted, hg], fun K Q hK => ?_⟩⟩
  exact h p h1 h2 vals t w (agy_of hslot (agx_of hslot (ag_of hA hslot hM js hj) xs 0 hx) ys hy) (memx_of hM xs hx) K Q hK
theorem hop_val {i : Nat} {G : Nat → Value → Asn} (js : List (Nat × Nat × Value)) (xs : List (Nat × Nat × (Nat → Value → Asn))) (hs : SI.contains i = false) (hg : o.guard = none) (hd : o.dst = some d) (hdn : d < n) (hG : GL[i]? = some G)
    (hj : JAll L SI GL (fun j => prd o j) M N js) (hx : XAll L SI GL (fun j => prd o j) M N 0 xs)
    (h : ∀ p, lo SI ms i ≤ p → p ≤ hi' SI ms i → ∀ vals : Nat → Value, Does P n S w0 o (xenv vals xs ++ (jenv js ++ E0)) (xmem p vals xs ++ ls p vals) (G p)) : HOp P n S w0 L SI GL ls E0 M N ms i o :=
  hop_valY js xs [] hs hg hd hdn hG hj hx trivial h
/-- a guarded one whose guard says yes -/
theorem hop_on {i j s : Nat} {b : Bool} {G : Nat → Value → Asn} (js : List (Nat × Nat × Value)) (xs : List (Nat × Nat × (Nat → Value → Asn))) (hs : SI.contains i = false) (hg : o.guard = some (j, b)) (hgj : (L.toArray[j]?).bind (·.dst) = some s)
    (hgs : Env.get (jenv js ++ E0) s = some (.bool b)) (hd : o.dst = some d) (hdn : d < n) (hG : GL[i]? = some G)
    (hj : JAll L SI GL (fun j => prd o j) M N js) (hx : XAll L SI GL (fun j => prd o j) M N 0 xs)
    (h : ∀ p, lo SI ms i ≤ p → p ≤ hi' SI ms i → ∀ vals : Nat → Value, Does P n S w0 o (xenv vals xs ++ (jenv js ++ E0)) (xmem p vals xs ++ ls p vals) (G p)) : HOp P n S w0 L SI GL ls E0 M N ms i o := by
  unfold HOp
  rw [hs]
  simp only [Bool.false_eq_true, if_false]
  refine ⟨d, G, hd, hdn, hG, fun p h1 h2 t w vals hA hslot hM => .inl ⟨?_, fun K Q hK => ?_⟩⟩
  · have hy := yielded_of (ops := L.toArray) (ag_of hA hslot hM js hj) hgj hgs
    simp [Region.wanted, hg, hy]
  · exact h p h1 h2 vals t w (agx_of hslot (ag_of hA hslot hM js hj) xs 0 hx) (memx_of hM xs hx) K Q hK
/-- a guarded one whose guard says no -/
theorem hop_off {i j s : Nat} {b want : Bool} (js : List (Nat × Nat × Value)) (hs : SI.contains i = false) (hg : o.guard = some (j, want)) (hgj : (L.toArray[j]?).bind (·.dst) = some s)
    (hgs : Env.get (jenv js ++ E0) s = some (.bool b)) (hne : (b == want) = false) (hd : o.dst = some d) (hdn : d < n) (hG : GL[i]? = some (kpeq undef))
    (hj : JAll L SI GL (fun j => prd o j) M N js) : HOp P n S w0 L SI GL ls E0 M N ms i o := by
  unfold HOp
  rw [hs]
  simp only [Bool.false_eq_true, if_false]
  refine ⟨d, kpeq undef, hd, hdn, hG, fun p h1 h2 t w vals hA hslot hM => .inr ⟨?_, (Mem.all w).peq' undef⟩⟩
  have hy := yielded_of (ops := L.toArray) (ag_of hA hslot hM js hj) hgj hgs
  simp only [Region.wanted, hg, hy]
  cases b <;> cases want <;> simp_all
/-- no fact hangs on the phase -/
def PFree (k : Nat) : List (Nat → Value → Asn) → Prop
  | [] => True
  | G :: r => (∀ v, G k v = G (k + 1) v) ∧ PFree k r
theorem perm_abrf {α : Type} (a b r F : List α) : (a ++ ((b ++ r) ++ F)).Perm ((b ++ a) ++ (r ++ F)) := by
  have e : a ++ ((b ++ r) ++ F) = (a ++ b) ++ (r ++ F) := by simp only [List.append_assoc]
  rw [e]
  exact List.Perm.append_right _ List.perm_append_comm
theorem PFree.get {k : Nat} : ∀ {GL : List (Nat → Value → Asn)}, PFree k GL → ∀ (j : Nat) (G : Nat → Value → Asn) (v : Value), GL[j]? = some G → G k v = G (k + 1) v
  | [], _, j, G, v, h => by simp at h
  | _ :: r, ⟨h1, h2⟩, 0, G, v, h => by
    simp at h; subst h; exact h1 v
  | _ :: r, ⟨h1, h2⟩, j + 1, G, v, h => PFree.get h2 j G v (by simpa using h)
/-- what an operation that changes memory does -/
def DoesM (P : Program) (n : Nat) (S : Nat → Prop) (w0 : World) (o : Oper) (E : Env) (l : List Asn) (l' : Value → Value → List Asn) : Prop :=
  ∀ t w F, Ag n t E → Mem S w0 w (l ++ F) → ∀ (K : Act → World → Prop) (Q : Exit → Act → World → Prop), (∀ v u w', Mem S w0 w' (l' v u ++ F) → K (Act.put ⟨t, []⟩ o.dst v) w') → o.wp P ⟨t, []⟩ w K Q
/-- an operation of the head that changes memory -/
theorem hop_mem {i : Nat} (js : List (Nat × Nat × Value)) (xs : List (Nat × Nat × (Nat → Value → Asn))) (ys : List (Nat × Nat)) (hs : SI.contains i = true) (hlo : lo SI ms i = hi' SI ms i) (hg : o.guard = none) (hdn : ∀ d, o.dst = some d → d < n)
    (hGc : PFree (lo SI ms i) GL) (hj : JAll L SI GL (fun j => prd o j) M N js) (hx : XAll L SI GL (fun j => prd o j) M N 0 xs) (hy : YAll L (fun j => prd o j) M N ys)
    (h : ∀ vals : Nat → Value, DoesM P n S w0 o (yenv vals ys ++ (xenv vals xs ++ (jenv js ++ E0))) (xmem (lo SI ms i) vals xs ++ ls (lo SI ms i) vals) (fun v u => xmem (lo SI ms i) vals xs ++ ls (lo SI ms i + 1) (fun j => if j = i then v else if j = i + 1000 then u else vals j))) :
    HOp P n S w0 L SI GL ls E0 M N ms i o := by
  unfold HOp
  rw [hs, if_pos rfl]
  refine ⟨hlo, hg, hdn, fun j G v h1 _ _ => hGc.get j G v h1, fun t w vals F hA hslot hM K Q hK => ?_⟩
  have hM1 : Mem S w0 w (ls (lo SI ms i) vals ++ facs GL SI (lo SI ms i) (fun j => prd o j) vals N) := hM.sublist (List.Sublist.append (List.Sublist.refl _) (List.sublist_append_left _ _))
  have hsub := xmem_sub (p := lo SI ms i) (vals := vals) xs 0 hx
  rw [facsFrom_zero] at hsub
  obtain ⟨r, hr⟩ := hsub.exists_perm_append
  have e1 : facs GL SI (lo SI ms i) (fun j => prd o j) vals N = facs GL SI (lo SI ms i + 1) (fun j => prd o j) vals N := facs_phase (fun j G v h1 _ _ => hGc.get j G v h1) N
  refine h vals t w (r ++ F) (agy_of hslot (agx_of hslot (ag_of hA hslot hM1 js hj) xs 0 hx) ys hy) (hM.perm ?_) K Q fun v u w' hM' => hK v u w' (hM'.perm ?_)
  · exact ((List.Perm.append_left (ls (lo SI ms i) vals) (hr.append_right F))).trans (perm_abrf _ _ _ _)
  · rw [← e1]
    exact (perm_abrf _ _ _ _).symm.trans (List.Perm.append_left _ (hr.symm.append_right F))
/-- behind the head -/
theorem draw_endY (js : List (Nat × Nat × Value)) (xs : List (Nat × Nat × (Nat → Value → Asn))) (ys : List (Nat × Nat)) (hS : (SI.all fun s => decide (s < N)) = true) (hj : JAll L SI GL (fun j => decide (j < N)) M N js) (hx : XAll L SI GL (fun j => decide (j < N)) M N 0 xs)
    (hy : YAll L (fun j => decide (j < N)) M N ys)
    (h : ∀ vals : Nat → Value, St n S w0 (DrW P L Q N) (yenv vals ys ++ (xenv vals xs ++ (jenv js ++ E0))) (xmem SI.length vals xs ++ ls SI.length vals)) :
    ∀ t w, HInv P n S w0 L SI GL ls E0 M N (fun j => decide (j < N)) t w → DrW P L Q N ⟨t, []⟩ w := by
  intro t w ⟨hA, vals, hslot, hM⟩
  have hc : cnt SI (fun j => decide (j < N)) = SI.length := by
    unfold cnt
    rw [List.filter_eq_self.2 (fun s hs => List.all_eq_true.1 hS s hs)]
  rw [hc] at hM
  exact h vals t w (agy_of hslot (agx_of hslot (ag_of hA hslot hM js hj) xs 0 hx) ys hy) (memx_of hM xs hx)
theorem draw_end (js : List (Nat × Nat × Value)) (xs : List (Nat × Nat × (Nat → Value → Asn))) (hS : (SI.all fun s => decide (s < N)) = true) (hj : JAll L SI GL (fun j => decide (j < N)) M N js) (hx : XAll L SI GL (fun j => decide (j < N)) M N 0 xs)
    (h : ∀ vals : Nat → Value, St n S w0 (DrW P L Q N) (xenv vals xs ++ (jenv js ++ E0)) (xmem SI.length vals xs ++ ls SI.length vals)) :
    ∀ t w, HInv P n S w0 L SI GL ls E0 M N (fun j => decide (j < N)) t w → DrW P L Q N ⟨t, []⟩ w := draw_endY js xs [] hS hj hx trivial h
/-! ### lists, one by one -/
theorem hall_nil {i : Nat} : HAll P n S w0 L SI GL ls E0 M N ms i [] := trivial
theorem hall_cons {i : Nat} {r : List Oper} (h : HOp P n S w0 L SI GL ls E0 M N ms i o) (hr : HAll P n S w0 L SI GL ls E0 M N ms (i + 1) r) : HAll P n S w0 L SI GL ls E0 M N ms i (o :: r) := ⟨fun _ => h, hr⟩
theorem hall_skip {i : Nat} {r : List Oper} (h : decide (i < M) = true) (hr : HAll P n S w0 L SI GL ls E0 M N ms (i + 1) r) : HAll P n S w0 L SI GL ls E0 M N ms i (o :: r) := ⟨fun h' => absurd (of_decide_eq_true h) (by omega), hr⟩
theorem jnil : JAll L SI GL A M N [] := trivial
theorem jcons {j s : Nat} {r : List (Nat × Nat × Value)} (h1 : A j = true) (h2 : (decide (M ≤ j) && decide (j < N)) = true) (h3 : SI.contains j = false) (h4 : (L[j]?).bind (·.dst) = some s) (h5 : GL[j]? = some (kpeq v)) (hr : JAll L SI GL A M N r) : JAll L SI GL A M N ((j, s, v) :: r) :=
  ⟨⟨h1, by simpa using h2, h3, h4, h5⟩, hr⟩
theorem xnil {k : Nat} : XAll L SI GL A M N k [] := trivial
theorem xcons {k j s : Nat} {G : Nat → Value → Asn} {r : List (Nat × Nat × (Nat → Value → Asn))} (h1 : A j = true) (h2 : (decide (M ≤ j) && decide (j < N)) = true) (h3 : SI.contains j = false) (h4 : (L[j]?).bind (·.dst) = some s) (h5 : GL[j]? = some G) (hk : decide (k ≤ j) = true)
    (hr : XAll L SI GL A M N (j + 1) r) : XAll L SI GL A M N k ((j, s, G) :: r) := ⟨of_decide_eq_true hk, ⟨h1, by simpa using h2, h3, h4, h5⟩, hr⟩
theorem ynil : YAll L A M N [] := trivial
theorem ycons {j s : Nat} {r : List (Nat × Nat)} (h1 : A j = true) (h2 : (decide (M ≤ j) && decide (j < N)) = true) (h4 : (L[j]?).bind (·.dst) = some s) (hr : YAll L A M N r) : YAll L A M N ((j, s) :: r) := ⟨⟨h1, by simpa using h2, h4⟩, hr⟩
/-- phases, by what memory holds in each: the values of the operations that change memory may stand in it -/
def gvals (SI : List Nat) (vals : Nat → Value) : List Value := SI.map vals ++ SI.map fun s => vals (s + 1000)
def phs (SI : List Nat) (lf : List (List (List Value → Asn))) (p : Nat) (vals : Nat → Value) : List Asn := (lf.getD p []).map fun f => f (gvals SI vals)
theorem phs_skip (lf : List (List (List Value → Asn))) (p : Nat) (vals : Nat → Value) (i : Nat) (v : Value) (hi : i < 1000) (h : SI.contains i = false) : phs SI lf p (fun j => if j = i then v else vals j) = phs SI lf p vals := by
  unfold phs gvals
  have e1 : SI.map (fun j => if j = i then v else vals j) = SI.map vals := List.map_congr_left fun j hj => if_neg fun e => by subst e; simp [hj] at h
  have e2 : SI.map (fun s => if s + 1000 = i then v else vals (s + 1000)) = SI.map fun s => vals (s + 1000) := List.map_congr_left fun j hj => if_neg (by omega)
  rw [e1, e2]
theorem rv_to (hr : RunsV P n S w0 o E l v) (h : v = u) : RunsV P n S w0 o E l u := h ▸ hr
end
end Go.Proofs.YtjhjjhpfjadjpaaDoor
