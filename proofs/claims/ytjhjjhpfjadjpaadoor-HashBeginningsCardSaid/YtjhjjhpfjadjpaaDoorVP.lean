/- Helpers: operations that change memory, within a statement whose order is open. -/
import Derived.Test.YtjhjjhpfjadjpaaDoorVO
namespace Go.Proofs.YtjhjjhpfjadjpaaDoor
set_option linter.all false
open Go
/-! ### what memory holds, by the values of such operations -/
def kOwn (q : Nat) (T : TypeId) (size n : Nat) (xs : List Value) (vs : List Value) : Asn := own (vs.getD q undef) T size n xs
def kRd (q n size : Nat) (xs : List Value) (vs : List Value) : Asn := rdA (vs.getD q undef) n size xs
/-- a slice of one value, that of operation r -/
def kOne (q : Nat) (T : TypeId) (r : Nat) (vs : List Value) : Asn := own (vs.getD q undef) T 1 1 [vs.getD r undef]
/-- xs, and behind them the value of operation r -/
def kApp1 (q : Nat) (T : TypeId) (n : Nat) (xs : List Value) (r : Nat) (vs : List Value) : Asn := own (vs.getD q undef) T 1 n (xs ++ [vs.getD r undef])
def kBlk (q : Nat) (cs : Array Value) (T : TypeId) (vs : List Value) : Asn := blkV cs T (vs.getD q undef)
/-- a block of what operation r gave -/
def kBlk1 (q : Nat) (r : Nat) (T : TypeId) (vs : List Value) : Asn := blkV (vs.getD r undef).cells T (vs.getD q undef)
section
variable {P : Program} {n : Nat} {S : Nat → Prop} {w0 : World} {E : Env} {l : List Asn} {l' : Value → Value → List Asn} {ty T t t2 e : TypeId} {pos : String} {af : Array Edge} {g : Option (Nat × Bool)} {d i size bytes nn m : Nat} {u v z : Value} {x y : Operand} {xs news : List Value} {cs : Array Value} {op : Op}
theorem perm_end (l F : List Asn) (x : Asn) : (x :: (l ++ F)).Perm ((l ++ [x]) ++ F) := by
  rw [List.append_assoc]
  exact List.perm_middle.symm
theorem St.conv {K : Act → World → Prop} {E' : Env} {l1 : List Asn} (hE : E = E') (hl : l = l1) (h : St n S w0 K E' l1) : St n S w0 K E l := by subst hE; subst hl; exact h
theorem Mem.toOwnNew {w : World} {b len : Nat} (hM : Mem S w0 w (blk b cs e :: l)) (hs : cs.size = len) : Mem S w0 w (own (sl b 0 len len) e 1 len cs.toList :: l) := by
  have := hM.toOwn (i := 0) (off := 0) (n := len) (cap := len) (size := 1) (xs := cs.toList) rfl (by simp [hs]) (Nat.le_refl _) (by omega) (fun j u hj => by rw [Nat.zero_add]; rw [← Array.getElem?_toList]; exact hj)
  exact this
theorem dm_bytes {s : List (BitVec 8)} (ht : P.underlying t = some .string) (ht2 : P.underlying t2 = some (.slice e)) (he : P.underlying e = some (.int .u8)) (hx : Env.ev E x = some (vS s))
    (hl' : ∀ v u, l ++ [own v e 1 s.length (s.map U8)] = l' v u) : DoesM P n S w0 ⟨some d, .convert t t2 x, ty, pos, af, g⟩ E l l' := fun tt w F hA hM K Q hK => by
  obtain ⟨w', cap, hr, _, ho, h1, h2, h3, h4, h5⟩ := run_bytes (P := P) (w := w) (s := s) he
  have hM' : Mem S w0 w' (own (sl w.heap.size 0 s.length cap) e 1 s.length (s.map U8) :: (l ++ F)) := hM.add h1 h2 h3 h4 h5 ho (fun b hb => Nat.le_of_eq hb.symm)
  have hc : (convert t t2 (vS s)).run P w = .ok (sl w.heap.size 0 s.length cap) w' := by
    unfold convert
    simp only [Sem.run_bind, run_underlying ht, run_underlying ht2, Result.andThen_ok, run_underlying he, hr]
  have hr' : (execOp (Act.eval ⟨tt, []⟩) ⟨some d, .convert t t2 x, ty, pos, af, g⟩).run P w = .ok (.value (sl w.heap.size 0 s.length cap)) w' := by simp [execOp, hA.ev hx, hc]
  unfold Oper.wp
  rw [hr', Oper.upon_value]
  refine hK _ undef _ ?_
  rw [← hl']; exact hM'.perm (perm_end _ _ _)
theorem run_build {w : World} {tt : Array Value} {len : Nat} {ps : List (Nat × Operand)} {vs : List (Nat × Value)} (hA : Ag n tt E) (ht : P.underlying t = some (.slice e)) (hz : TyZ P e z 1 bytes) (hzc : z.cells = #[z]) (hp : evP E ps = some vs) (hlen : len ≤ 16777216)
    (hf : fillL (fun i => some (i * 1, 1)) (List.replicate len z).toArray vs = some cs) :
    (execOp (Act.eval ⟨tt, []⟩) ⟨some d, .buildSlice t len ps.toArray, ty, pos, af, g⟩).run P w = .ok (.value (sl w.heap.size 0 len len)) (w.alloc (.cells cs e)) := by
  obtain ⟨i, hi, hz, hs, rfl⟩ := hz
  have hev := evP_map hA ps hp
  have hev2 : (ps.toArray.map fun (x : Nat × Operand) => (x.1, Act.eval ⟨tt, []⟩ x.2)).toList = vs := by simpa using hev
  have hm := madeCells_one z len hzc
  have h24 : ¬ (len * 1 > 2 ^ 24) := by omega
  by_cases h0 : len = 0
  · subst h0
    have hf' : Instr.fill (fun i => some (i, 1)) #[] vs = some cs := by
      rw [fill_eq]; simpa using hf
    simp only [execOp, Instr.buildSlice, Sem.run_bind, run_underlying ht, Result.andThen_ok, run_sizeOf hi, hs, hev2]
    simp [hf', newRow, Array.range_zero']
  · have hf' : Instr.fill (fun i => some (i * 1, 1)) ((Array.range (len * 1)).map (fun x => z.cells[x % z.cells.size]!)) vs = some cs := by
      rw [fill_eq, Nat.mul_one, hm]; exact hf
    simp only [execOp, Instr.buildSlice, Sem.run_bind, run_underlying ht, Result.andThen_ok, run_sizeOf hi, hs, hev2]
    have h0' : ¬ (len * 1 = 0) := by omega
    simp only [h24, h0', if_false, Sem.run_bind, Sem.run_pure, Result.andThen_ok, zeroValue, typeInfo, run_program, hi, hz, hf', newRow, run_newObj]
    rfl
/-- a slice that is written out -/
theorem dm_build {len : Nat} {ps : List (Nat × Operand)} {vs : List (Nat × Value)} (ht : P.underlying t = some (.slice e)) (hz : TyZ P e z 1 bytes) (hzc : z.cells = #[z]) (hp : evP E ps = some vs) (hlen : len ≤ 16777216)
    (hf : fillL (fun i => some (i * 1, 1)) (List.replicate len z).toArray vs = some cs) (hs : cs.size = len) (hl' : ∀ v u, l ++ [own v e 1 len cs.toList] = l' v u) :
    DoesM P n S w0 ⟨some d, .buildSlice t len ps.toArray, ty, pos, af, g⟩ E l l' := fun tt w F hA hM K Q hK => by
  unfold Oper.wp
  rw [run_build hA ht hz hzc hp hlen hf, Oper.upon_value]
  refine hK _ undef _ ?_
  rw [← hl']
  exact ((hM.alloc cs e).toOwnNew hs).perm (perm_end _ _ _)
theorem st_buildO {Q : Exit → Act → World → Prop} {ops : Array Oper} {rest : List Oper} {len : Nat} {ps : List (Nat × Operand)} {vs : List (Nat × Value)} (ht : P.underlying t = some (.slice e)) (hz : TyZ P e z 1 bytes) (hzc : z.cells = #[z]) (hp : evP E ps = some vs) (hlen : len ≤ 16777216)
    (hf : fillL (fun i => some (i * 1, 1)) (List.replicate len z).toArray vs = some cs) (hs : cs.size = len) (hd : d < n) (h : ∀ v, St n S w0 (wpList P ops Q rest) ((d, v) :: E) (own v e 1 len cs.toList :: l)) :
    St n S w0 (wpList P ops Q (⟨some d, .buildSlice t len ps.toArray, ty, pos, af, none⟩ :: rest)) E l := fun tt w hA hM => by
  exact wpList_run rfl (run_build hA ht hz hzc hp hlen hf) (h _ _ _ (hA.put hd _) ((hM.alloc cs e).toOwnNew hs))
theorem own_one {k : Nat} (h : ∃ w, (own v T size k xs).holds w) : v.oneCell' = true ∧ v.cells = #[v] := by
  obtain ⟨w, h⟩ := h
  rcases h.2 with ⟨h1, _⟩ | ⟨cs, fr, h1, _⟩ <;> rw [h1] <;> exact ⟨rfl, rfl⟩
theorem ownOne {w : World} {k : Nat} (h : l[i]? = some (own v T size k xs)) (M : Mem S w0 w l) : v.oneCell' = true := (own_one ⟨w, M.holds _ (List.mem_of_getElem? h)⟩).1
theorem ownOneF {w : World} {k : Nat} {F : List Asn} (h : l[i]? = some (own v T size k xs)) (M : Mem S w0 w (l ++ F)) : v.oneCell' = true := (own_one ⟨w, M.holds _ (List.mem_append.2 (.inl (List.mem_of_getElem? h)))⟩).1
theorem ownCells {w : World} {k : Nat} (h : l[i]? = some (own v T size k xs)) (M : Mem S w0 w l) : v.cells = #[v] := (own_one ⟨w, M.holds _ (List.mem_of_getElem? h)⟩).2
theorem ownCellsF {w : World} {k : Nat} {F : List Asn} (h : l[i]? = some (own v T size k xs)) (M : Mem S w0 w (l ++ F)) : v.cells = #[v] := (own_one ⟨w, M.holds _ (List.mem_append.2 (.inl (List.mem_of_getElem? h)))⟩).2
theorem rd_one {w : World} {k : Nat} (h : Rd w v k size xs) : v.oneCell' = true := by
  rcases h.shape with ⟨h1, _⟩ | h1 <;> rw [h1] <;> rfl
theorem rdOne {w : World} {k : Nat} (h : l[i]? = some (rdA v k size xs)) (M : Mem S w0 w l) : v.oneCell' = true := rd_one (M.holds _ (List.mem_of_getElem? h) : Rd w v k size xs)
theorem rdCells {w : World} {k : Nat} (h : l[i]? = some (rdA v k size xs)) (M : Mem S w0 w l) : v.cells = #[v] := cells_rd (M.holds _ (List.mem_of_getElem? h) : Rd w v k size xs)
theorem rdOneF {w : World} {k : Nat} {F : List Asn} (h : l[i]? = some (rdA v k size xs)) (M : Mem S w0 w (l ++ F)) : v.oneCell' = true := rd_one (M.holds _ (List.mem_append.2 (.inl (List.mem_of_getElem? h))) : Rd w v k size xs)
theorem rdCellsF {w : World} {k : Nat} {F : List Asn} (h : l[i]? = some (rdA v k size xs)) (M : Mem S w0 w (l ++ F)) : v.cells = #[v] := cells_rd (M.holds _ (List.mem_append.2 (.inl (List.mem_of_getElem? h))) : Rd w v k size xs)
theorem fill_one {v : Value} (hc : v.cells = #[v]) : fillL (fun i => some (i * 1, 1)) (List.replicate 1 z).toArray [(0, v)] = some #[v] := by
  simp only [fillL, hc]
  rfl
/-- a slice of one value -/
theorem dm_build1 (ht : P.underlying t = some (.slice e)) (hz : TyZ P e z 1 bytes) (hzc : z.cells = #[z]) (hx : Env.ev E x = some v) (h1 : ∀ w F, Mem S w0 w (l ++ F) → v.cells = #[v]) (hl' : ∀ u r, l ++ [own u e 1 1 [v]] = l' u r) :
    DoesM P n S w0 ⟨some d, .buildSlice t 1 #[(0, x)], ty, pos, af, g⟩ E l l' := fun tt w F hA hM K Q hK =>
  dm_build (ps := [(0, x)]) (vs := [(0, v)]) (cs := #[v]) ht hz hzc (by simp [evP, hx]) (by decide) (fill_one (h1 w F hM)) rfl hl' tt w F hA hM K Q hK
theorem st_buildO1 {Q : Exit → Act → World → Prop} {ops : Array Oper} {rest : List Oper} (ht : P.underlying t = some (.slice e)) (hz : TyZ P e z 1 bytes) (hzc : z.cells = #[z]) (hx : Env.ev E x = some v) (h1 : ∀ w, Mem S w0 w l → v.cells = #[v]) (hd : d < n)
    (h : ∀ u, St n S w0 (wpList P ops Q rest) ((d, u) :: E) (own u e 1 1 [v] :: l)) : St n S w0 (wpList P ops Q (⟨some d, .buildSlice t 1 #[(0, x)], ty, pos, af, none⟩ :: rest)) E l := fun tt w hA hM =>
  st_buildO (ps := [(0, x)]) (vs := [(0, v)]) (cs := #[v]) ht hz hzc (by simp [evP, hx]) (by decide) (fill_one (h1 w hM)) rfl hd h tt w hA hM
theorem dm_append {d2 : TypeDesc} (ht : P.underlying t = some (.slice e)) (ht2 : P.underlying t2 = some d2) (hd2 : d2 = .string ∨ ∃ e2, d2 = .slice e2) (hz : TyZ P e z size bytes) (hzs : z.cells.size = size)
    (hx : Env.ev E x = some v) (hy : Env.ev E y = some u) (hl : l[i]? = some (own v e size nn xs)) (hx1 : ∀ u ∈ xs, u.oneCell' = true) (hsrc : ∀ w F, Mem S w0 w (l ++ F) → Src P w size m u news)
    (hb : (nn + m) * bytes ≤ 140737488355328) (hm : nn + m ≤ 9223372036854775807) (hl' : ∀ v' r, l.set i (own v' e size (nn + m) (xs ++ news)) = l' v' r) :
    DoesM P n S w0 ⟨some d, .call { callee := .builtin .append, args := #[x, y], argTypes := #[t, t2] }, ty, pos, af, g⟩ E l l' := fun tt w F hA hM K Q hK => by
  have hlt : i < l.length := (List.getElem?_eq_some_iff.1 hl).1
  have hlF : (l ++ F)[i]? = some (own v e size nn xs) := by rw [List.getElem?_append_left hlt]; exact hl
  obtain ⟨v', w', hr, ho, h1, h2, h3, h4, h5, h6⟩ := run_append_own' (ty := ty) ht ht2 hd2 hz hzs (hM.holds _ (List.mem_of_getElem? hlF)) hx1 (hsrc w F hM) hb hm
  have hM' := hM.replace hlF h1 h2 h3 h4 h5 ho h6
  have hr' : (execOp (Act.eval ⟨tt, []⟩) ⟨some d, .call { callee := .builtin .append, args := #[x, y], argTypes := #[t, t2] }, ty, pos, af, g⟩).run P w = .ok (.value v') w' := by simp [execOp, resolve, invoke, builtin, hA.ev hx, hA.ev hy, hr]
  unfold Oper.wp
  rw [hr', Oper.upon_value]
  refine hK _ undef _ ?_
  rw [← hl', ← List.set_append_left _ _ hlt]
  exact hM'
theorem dm_append8 {d2 : TypeDesc} {q r : List (BitVec 8)} (ht : P.underlying t = some (.slice e)) (ht2 : P.underlying t2 = some d2) (hd2 : d2 = .string ∨ ∃ e2, d2 = .slice e2) (hz : TyZ P e z size bytes) (hzs : z.cells.size = size)
    (hx : Env.ev E x = some v) (hy : Env.ev E y = some u) (hl : l[i]? = some (own v e size nn (q.map U8))) (hsrc : ∀ w F, Mem S w0 w (l ++ F) → Src P w size m u (r.map U8))
    (hb : (nn + m) * bytes ≤ 140737488355328) (hm : nn + m ≤ 9223372036854775807) (hl' : ∀ v' u', l.set i (own v' e size (nn + m) ((q ++ r).map U8)) = l' v' u') :
    DoesM P n S w0 ⟨some d, .call { callee := .builtin .append, args := #[x, y], argTypes := #[t, t2] }, ty, pos, af, g⟩ E l l' :=
  dm_append ht ht2 hd2 hz hzs hx hy hl (one8 q) hsrc hb hm fun v' u' => by rw [← List.map_append]; exact hl' v' u'
theorem dm_box (hx : Env.ev E x = some v) (hc : v.cells = cs) (hl' : ∀ v u, l ++ [blkV cs t v] = l' v u) : DoesM P n S w0 ⟨some d, .box t x, ty, pos, af, g⟩ E l l' := fun tt w F hA hM K Q hK => by
  have hr : (execOp (Act.eval ⟨tt, []⟩) ⟨some d, .box t x, ty, pos, af, g⟩).run P w = .ok (.value (pt w.heap.size 0)) (w.alloc (.cells cs t)) := by
    simp [execOp, Instr.box, hA.ev hx, newVar, newRow, hc]
  unfold Oper.wp
  rw [hr, Oper.upon_value]
  refine hK _ undef _ ?_
  rw [← hl']
  exact ((hM.alloc cs t).blkV' : Mem S w0 _ (blkV cs t (pt w.heap.size 0) :: (l ++ F))).perm (perm_end _ _ _)
theorem dm_alloc {cs : Array Value} (hz : TyZ P t z size bytes) (hc : z.cells = cs) (hl' : ∀ v u, l ++ [blkV cs t v] = l' v u) : DoesM P n S w0 ⟨some d, .alloc t, ty, pos, af, g⟩ E l l' := fun tt w F hA hM K Q hK => by
  obtain ⟨i, hi, hz, _⟩ := hz
  have hr : (execOp (Act.eval ⟨tt, []⟩) ⟨some d, .alloc t, ty, pos, af, g⟩).run P w = .ok (.value (pt w.heap.size 0)) (w.alloc (.cells cs t)) := by
    simp [execOp, Instr.alloc, zeroValue, typeInfo, hi, hz, newVar, newRow, hc]
  unfold Oper.wp
  rw [hr, Oper.upon_value]
  refine hK _ undef _ ?_
  rw [← hl']
  exact ((hM.alloc cs t).blkV' : Mem S w0 _ (blkV cs t (pt w.heap.size 0) :: (l ++ F))).perm (perm_end _ _ _)
/-- a value, while memory stays -/
theorem dm_v (h : ∀ F, RunsV P n S w0 ⟨some d, op, ty, pos, af, g⟩ E (l ++ F) v) (hl' : ∀ u r, u = v → l = l' u r) : DoesM P n S w0 ⟨some d, op, ty, pos, af, g⟩ E l l' := fun tt w F hA hM K Q hK => by
  unfold Oper.wp
  rw [h F tt w hA hM, Oper.upon_value]
  refine hK _ undef _ ?_
  rw [← hl' v undef rfl]; exact hM
/-- a call that makes new memory -/
theorem dm_call {f : FuncId} {as : List Operand} {vs : List Value} {ats : Array TypeId} {L : Value → List Asn} (hf : Callable P f) (hv : evs E as = some vs)
    (C : ∀ w F, Mem S w0 w (l ++ F) → Calls P f vs.toArray w fun e w' => ∃ v, e = .returned v ∧ Mem (All w) w w' (L v)) (hl' : ∀ v u, l ++ L v = l' v u) :
    DoesM P n S w0 ⟨some d, .call { callee := .value (.func f), args := as.toArray, argTypes := ats }, ty, pos, af, g⟩ E l l' := fun tt w F hA hM K Q hK => by
  unfold Oper.wp
  rw [run_call hA hf hv, Oper.upon_enter]
  refine (C w F hM).mono fun e w' he => ?_
  obtain ⟨v, rfl, hM'⟩ := he
  refine hK v undef w' ?_
  rw [← hl']
  refine (hM.call hM').perm ?_
  rw [← List.append_assoc]
  exact List.Perm.append_right _ List.perm_append_comm
/-- a call that makes new memory, named by its value and one more -/
theorem dm_callG {f : FuncId} {as : List Operand} {vs : List Value} {ats : Array TypeId} {L : Value → Value → List Asn} (hf : Callable P f) (hv : evs E as = some vs)
    (C : ∀ w F, Mem S w0 w (l ++ F) → Calls P f vs.toArray w fun e w' => ∃ v u, e = .returned v ∧ Mem (All w) w w' (L v u)) (hl' : ∀ v u, l ++ L v u = l' v u) :
    DoesM P n S w0 ⟨some d, .call { callee := .value (.func f), args := as.toArray, argTypes := ats }, ty, pos, af, g⟩ E l l' := fun tt w F hA hM K Q hK => by
  unfold Oper.wp
  rw [run_call hA hf hv, Oper.upon_enter]
  refine (C w F hM).mono fun e w' he => ?_
  obtain ⟨v, u, rfl, hM'⟩ := he
  refine hK v u w' ?_
  rw [← hl']
  refine (hM.call hM').perm ?_
  rw [← List.append_assoc]
  exact List.Perm.append_right _ List.perm_append_comm
/-- the block of a pointer -/
def pblk : Value → Nat | .pointer (some a) => a.block | _ => 0
end
end Go.Proofs.YtjhjjhpfjadjpaaDoor
