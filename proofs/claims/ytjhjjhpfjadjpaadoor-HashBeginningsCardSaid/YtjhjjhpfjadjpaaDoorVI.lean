/- Helpers: a statement whose order is open. What each of its operations does is shown once; the rule says that every order that its edges allow comes to the same. -/
import Derived.Test.YtjhjjhpfjadjpaaDoorVH
import Derived.StillTail
namespace Go.Proofs.YtjhjjhpfjadjpaaDoor
set_option linter.all false
open Go

/-! ### edges -/
def prd (o : Oper) (j : Nat) : Bool := o.after.toList.any fun e => Region.binds .any e && e.on == j
def bit (ms : List Nat) (j i : Nat) : Bool := (ms.getD j 0).testBit i
/-- ms: for each operation, some of those that come ahead of it; the first N come in any order, the others one behind the other -/
def drawOk (L : List Oper) (ms : List Nat) (N : Nat) : Bool :=
  (List.range L.length).all fun j => match L[j]? with
    | some o => o.after.toList.all (fun e => !Region.binds .any e || decide (e.on < j)) && (List.range L.length).all (fun i => !bit ms j i || prd o i || (List.range j).any fun k => prd o k && bit ms k i) &&
        (decide (j < N) || (List.range N).all fun i => bit ms j i)
    | none => true
/-- from N on each comes behind all those ahead of it -/
def tailOk (L : List Oper) (ms : List Nat) (N : Nat) : Bool := (List.range L.length).all fun j => decide (j < N) || (List.range j).all fun i => bit ms j i
section
variable {L : List Oper} {ms : List Nat} {N : Nat}
theorem drawOk_spec (h : drawOk L ms N = true) {j : Nat} {o : Oper} (hj : L[j]? = some o) :
    (∀ e ∈ o.after, Region.binds .any e = true → e.on < j) ∧ (∀ i, i < L.length → bit ms j i = true → prd o i = true ∨ ∃ k, k < j ∧ prd o k = true ∧ bit ms k i = true) ∧ (N ≤ j → ∀ i, i < N → bit ms j i = true) := by
  have hjl : j < L.length := (List.getElem?_eq_some_iff.1 hj).1
  have h1 := List.all_eq_true.1 h j (List.mem_range.2 hjl)
  rw [hj] at h1
  simp only [Bool.and_eq_true, Bool.or_eq_true, decide_eq_true_eq] at h1
  obtain ⟨⟨h1, h2⟩, h3⟩ := h1
  refine ⟨fun e he hb => ?_, fun i hi hb => ?_, fun hN i hi => ?_⟩
  · have := List.all_eq_true.1 h1 e (by simpa using he)
    simpa [hb] using this
  · have := List.all_eq_true.1 h2 i (List.mem_range.2 hi)
    simp only [Bool.or_eq_true, Bool.not_eq_true', hb] at this
    rcases this with (h | h) | h
    · cases h
    · exact .inl h
    · obtain ⟨k, hk, h⟩ := List.any_eq_true.1 h
      simp only [Bool.and_eq_true] at h
      exact .inr ⟨k, List.mem_range.1 hk, h.1, h.2⟩
  · rcases h3 with h3 | h3
    · omega
    · exact List.all_eq_true.1 h3 i (List.mem_range.2 hi)
theorem prd_spec {o : Oper} {j : Nat} (h : prd o j = true) : ∃ e ∈ o.after, Region.binds .any e = true ∧ e.on = j := by
  obtain ⟨e, he, h⟩ := List.any_eq_true.1 h
  simp only [Bool.and_eq_true, beq_iff_eq] at h
  exact ⟨e, by simpa using he, h.1, h.2⟩
/-- what is listed holds, with an operation, all that comes ahead of it -/
def Closed (L : List Oper) (D : Nat → Bool) : Prop := ∀ j o, L[j]? = some o → D j = true → ∀ e ∈ o.after, Region.binds .any e = true → D e.on = true
theorem bits_listed (h : drawOk L ms N = true) {D : Nat → Bool} (hD : Closed L D) : ∀ (j : Nat) (o : Oper), L[j]? = some o → (∀ e ∈ o.after, Region.binds .any e = true → D e.on = true) → ∀ i, i < L.length → bit ms j i = true → D i = true := by
  intro j
  induction j using Nat.strongRecOn with
  | _ j ih =>
    intro o hj hall i hi hb
    rcases (drawOk_spec h hj).2.1 i hi hb with hp | ⟨k, hk, hp, hb'⟩
    · obtain ⟨e, he, h1, h2⟩ := prd_spec hp
      rw [← h2]; exact hall e he h1
    · obtain ⟨e, he, h1, h2⟩ := prd_spec hp
      have hjl : j < L.length := (List.getElem?_eq_some_iff.1 hj).1
      have hDk : D k = true := by rw [← h2]; exact hall e he h1
      obtain ⟨ok, hok⟩ : ∃ ok, L[k]? = some ok := ⟨L[k]'(by omega), List.getElem?_eq_getElem (by omega)⟩
      exact ih k hk ok hok (hD k ok hok hDk) i hi hb'
end

/-! ### facts of the operations -/
def peq (v0 v : Value) : Asn where
  holds _ := v = v0
  foot _ := False
  turn _ := False
  keep _ _ _ h := h
  live _ _ _ h := h.elim
  sub _ h := h
/-- the pure fact: in every phase the value is v0 -/
def kpeq (v0 : Value) : Nat → Value → Asn := fun _ v => peq v0 v
def fac1 (GL : List (Nat → Value → Asn)) (p : Nat) (vals : Nat → Value) (k : Nat) : List Asn := match GL[k]? with | some G => [G p (vals k)] | none => []
theorem fac1_some {GL : List (Nat → Value → Asn)} {p : Nat} {vals : Nat → Value} {k : Nat} {G : Nat → Value → Asn} (h : GL[k]? = some G) : fac1 GL p vals k = [G p (vals k)] := by simp [fac1, h]
def facs (GL : List (Nat → Value → Asn)) (SI : List Nat) (p : Nat) (D : Nat → Bool) (vals : Nat → Value) : Nat → List Asn
  | 0 => []
  | k + 1 => facs GL SI p D vals k ++ (if D k && !SI.contains k then fac1 GL p vals k else [])
section
variable {GL : List (Nat → Value → Asn)} {SI : List Nat} {p : Nat} {D D' : Nat → Bool} {vals vals' : Nat → Value}
theorem facs_congr : ∀ k, (∀ j, j < k → D j = D' j) → (∀ j, j < k → D j = true → vals j = vals' j) → facs GL SI p D vals k = facs GL SI p D' vals' k
  | 0, _, _ => rfl
  | k + 1, h1, h2 => by
    simp only [facs]
    rw [facs_congr k (fun j hj => h1 j (by omega)) (fun j hj => h2 j (by omega)), h1 k (by omega)]
    cases hD : D' k with
    | false => rfl
    | true => simp only [fac1, h2 k (by omega) (by rw [h1 k (by omega)]; exact hD)]
theorem facs_sub : ∀ k, (∀ j, j < k → D j = true → D' j = true) → (facs GL SI p D vals k).Sublist (facs GL SI p D' vals k)
  | 0, _ => .slnil
  | k + 1, h => by
    refine List.Sublist.append (facs_sub k fun j hj => h j (by omega)) ?_
    cases hD : D k with
    | false => exact List.nil_sublist _
    | true => rw [h k (by omega) hD]; exact List.Sublist.refl _
/-- one more -/
theorem facs_add {i : Nat} {G : Nat → Value → Asn} {v : Value} (hG : GL[i]? = some G) (hs : SI.contains i = false) (hi : D i = false) : ∀ k, i < k →
    ((G p v) :: facs GL SI p D vals k).Perm (facs GL SI p (fun j => j == i || D j) (fun j => if j = i then v else vals j) k)
  | 0, h => by omega
  | k + 1, h => by
    by_cases hik : i = k
    · subst hik
      have e := facs_congr (GL := GL) (SI := SI) (p := p) (D := fun j => j == i || D j) (D' := D) (vals := fun j => if j = i then v else vals j) (vals' := vals) i (fun j hj => by simp; omega) (fun j hj _ => by rw [if_neg (by omega)])
      simp only [facs]
      rw [e]
      simp only [hi, Bool.false_and, Bool.false_eq_true, if_false, List.append_nil, beq_self_eq_true, Bool.true_or, hs, Bool.not_false, Bool.and_self, if_true, fac1_some hG, if_pos]
      exact (List.perm_append_singleton _ _).symm
    · have ih := facs_add (v := v) hG hs hi k (by omega)
      simp only [facs]
      have e1 : (k == i || D k) = D k := by simp; omega
      have e2 : fac1 GL p (fun j => if j = i then v else vals j) k = fac1 GL p vals k := by simp only [fac1, if_neg (Ne.symm hik)]
      simp only [e1, e2]
      exact ih.append_right _
theorem facs_phase {p' : Nat} (h : ∀ j G v, GL[j]? = some G → SI.contains j = false → D j = true → G p v = G p' v) : ∀ k, facs GL SI p D vals k = facs GL SI p' D vals k
  | 0 => rfl
  | k + 1 => by
    simp only [facs]
    rw [facs_phase h k]
    cases hD : D k with
    | false => rfl
    | true =>
      cases hs : SI.contains k with
      | true => rfl
      | false =>
        cases hG : GL[k]? with
        | none => simp only [fac1, hG]
        | some G => simp only [fac1, hG, h k G _ hG hs hD]
theorem facs_split {A : Nat → Bool} : ∀ k, (∀ j, j < k → A j = true → D j = true) → (facs GL SI p D vals k).Perm (facs GL SI p A vals k ++ facs GL SI p (fun j => D j && !A j) vals k)
  | 0, _ => .refl _
  | k + 1, h => by
    have ih := facs_split (A := A) k fun j hj => h j (by omega)
    simp only [facs]
    by_cases hA : A k = true
    · have hD := h k (by omega) hA
      simp only [hA, hD, Bool.not_true, Bool.and_false, Bool.false_and, Bool.true_and, Bool.false_eq_true, if_false, List.append_nil]
      refine (ih.append_right _).trans ?_
      rw [List.append_assoc, List.append_assoc]
      exact List.Perm.append_left _ List.perm_append_comm
    · have hA : A k = false := by simpa using hA
      simp only [hA, Bool.not_false, Bool.and_true, Bool.false_and, Bool.false_eq_true, if_false, List.append_nil]
      refine (ih.append_right _).trans ?_
      rw [List.append_assoc]
theorem facs_store {i : Nat} (hs : SI.contains i = true) : ∀ k, facs GL SI p (fun j => j == i || D j) vals k = facs GL SI p D vals k
  | 0 => rfl
  | k + 1 => by
    simp only [facs]
    rw [facs_store hs k]
    by_cases hik : k = i
    · subst hik; simp only [hs, Bool.not_true, Bool.and_false]
    · simp [hik]
end

/-! ### what an operation does, whatever stands behind it -/
section
variable (P : Program) (n : Nat) (S : Nat → Prop) (w0 : World)
def Does (o : Oper) (E : Env) (l : List Asn) (G : Value → Asn) : Prop := ∀ t w, Ag n t E → Mem S w0 w l → ∀ (K : Act → World → Prop) (Q : Exit → Act → World → Prop),
  (∀ v w', Mem (All w) w w' [G v] → K (Act.put ⟨t, []⟩ o.dst v) w') → o.wp P ⟨t, []⟩ w K Q
/-- one operation of the head: a value -/
def HVal (L : List Oper) (SI : List Nat) (GL : List (Nat → Value → Asn)) (ls : Nat → (Nat → Value) → List Asn) (E0 : Env) (M N i : Nat) (o : Oper) (G : Nat → Value → Asn) (p : Nat) : Prop :=
  ∀ t w (vals : Nat → Value), Ag n t E0 → (∀ j oj d, M ≤ j → j < N → prd o j = true → L[j]? = some oj → oj.dst = some d → t[d]? = some (vals j)) →
    Mem S w0 w (ls p vals ++ facs GL SI p (fun j => prd o j) vals N) →
    (Region.wanted o (yielded L.toArray t) = true ∧ ∀ (K : Act → World → Prop) (Q : Exit → Act → World → Prop), (∀ v w', Mem (All w) w w' [G p v] → K (Act.put ⟨t, []⟩ o.dst v) w') → o.wp P ⟨t, []⟩ w K Q) ∨
    (Region.wanted o (yielded L.toArray t) = false ∧ Mem (All w) w w [G p undef])
/-- one operation of the head that changes memory: ls at the next phase, with the value -/
def HSto (L : List Oper) (SI : List Nat) (GL : List (Nat → Value → Asn)) (ls : Nat → (Nat → Value) → List Asn) (E0 : Env) (M N i : Nat) (o : Oper) (k : Nat) : Prop :=
  o.guard = none ∧ (∀ d, o.dst = some d → d < n) ∧ (∀ j G v, GL[j]? = some G → SI.contains j = false → prd o j = false → G k v = G (k + 1) v) ∧
  ∀ t w (vals : Nat → Value) (F : List Asn), Ag n t E0 → (∀ j oj d, M ≤ j → j < N → prd o j = true → L[j]? = some oj → oj.dst = some d → t[d]? = some (vals j)) →
    Mem S w0 w (ls k vals ++ (facs GL SI k (fun j => prd o j) vals N ++ F)) → ∀ (K : Act → World → Prop) (Q : Exit → Act → World → Prop),
      (∀ v u w', Mem S w0 w' (ls (k + 1) (fun j => if j = i then v else if j = i + 1000 then u else vals j) ++ (facs GL SI (k + 1) (fun j => prd o j) vals N ++ F)) → K (Act.put ⟨t, []⟩ o.dst v) w') → o.wp P ⟨t, []⟩ w K Q
/-- how many stores lie behind, ahead of operation i -/
def lo (SI : List Nat) (ms : List Nat) (i : Nat) : Nat := (SI.filter fun s => bit ms i s).length
def hi' (SI : List Nat) (ms : List Nat) (i : Nat) : Nat := (SI.filter fun s => !(bit ms s i) && s != i).length
def HOp (L : List Oper) (SI : List Nat) (GL : List (Nat → Value → Asn)) (ls : Nat → (Nat → Value) → List Asn) (E0 : Env) (M N : Nat) (ms : List Nat) (i : Nat) (o : Oper) : Prop :=
  if SI.contains i then lo SI ms i = hi' SI ms i ∧ HSto P n S w0 L SI GL ls E0 M N i o (lo SI ms i)
  else ∃ d G, o.dst = some d ∧ d < n ∧ GL[i]? = some G ∧ ∀ p, lo SI ms i ≤ p → p ≤ hi' SI ms i → HVal P n S w0 L SI GL ls E0 M N i o G p
def HAll (L : List Oper) (SI : List Nat) (GL : List (Nat → Value → Asn)) (ls : Nat → (Nat → Value) → List Asn) (E0 : Env) (M N : Nat) (ms : List Nat) : Nat → List Oper → Prop
  | _, [] => True
  | i, o :: r => (M ≤ i → HOp P n S w0 L SI GL ls E0 M N ms i o) ∧ HAll L SI GL ls E0 M N ms (i + 1) r
end
/-- the slots that the head writes: each once, none of them in E0 -/
def slotsOk (L : List Oper) (M N : Nat) (ks : List Nat) : Bool :=
  (List.range N).all fun i => decide (i < M) || match L[i]? with
    | some o => match o.dst with
      | some d => !ks.contains d && (List.range N).all fun j => decide (j < M) || i == j || (match L[j]? with | some oj => oj.dst != some d | none => true)
      | none => true
    | none => true
section
variable {P : Program} {n : Nat} {S : Nat → Prop} {w0 : World} {E0 : Env} {Q : Exit → Act → World → Prop} {L : List Oper} {SI : List Nat} {GL : List (Nat → Value → Asn)} {ls : Nat → (Nat → Value) → List Asn} {M N : Nat} {ms : List Nat}
theorem HAll.get : ∀ (r : List Oper) (k : Nat), HAll P n S w0 L SI GL ls E0 M N ms k r → ∀ i o, r[i]? = some o → M ≤ k + i → HOp P n S w0 L SI GL ls E0 M N ms (k + i) o
  | [], _, _, i, o, h => by simp at h
  | a :: r, k, h, 0, o, ho => by
    obtain rfl : a = o := by simpa using ho
    exact h.1
  | a :: r, k, h, i + 1, o, ho => by
    have := HAll.get r (k + 1) h.2 i o (by simpa using ho)
    rw [show k + 1 + i = k + (i + 1) by omega] at this
    exact this
def cnt (SI : List Nat) (D : Nat → Bool) : Nat := (SI.filter D).length
/-- what is known when D is done -/
structure HInv (P : Program) (n : Nat) (S : Nat → Prop) (w0 : World) (L : List Oper) (SI : List Nat) (GL : List (Nat → Value → Asn)) (ls : Nat → (Nat → Value) → List Asn) (E0 : Env) (M N : Nat) (D : Nat → Bool) (t : Array Value) (w : World) : Prop where
  ag : Ag n t E0
  mem : ∃ vals : Nat → Value, (∀ j oj d, M ≤ j → j < N → D j = true → L[j]? = some oj → oj.dst = some d → t[d]? = some (vals j)) ∧ Mem S w0 w (ls (cnt SI D) vals ++ facs GL SI (cnt SI D) D vals N)
theorem Ag.putOther {t : Array Value} {E : Env} (h : Ag n t E) {d : Nat} (hd : ∀ v, Env.get E d ≠ some v) (v : Value) : Ag n (t.setIfInBounds d v) E := by
  refine ⟨by simp [h.size], fun i u hi => ?_⟩
  have hne : d ≠ i := fun e => hd u (e ▸ hi)
  rw [Array.getElem?_setIfInBounds_ne hne]
  exact h.get i u hi
theorem cnt_le {D D' : Nat → Bool} (h : ∀ s ∈ SI, D s = true → D' s = true) : cnt SI D ≤ cnt SI D' := by
  unfold cnt
  induction SI with
  | nil => simp
  | cons a r ih =>
    have ih := ih (fun s hs => h s (List.mem_cons_of_mem _ hs))
    have ha := h a List.mem_cons_self
    simp only [List.filter_cons]
    split
    · rename_i h1
      rw [if_pos (ha h1)]
      simpa using ih
    · split
      · simp; omega
      · exact ih
theorem cnt_add {D : Nat → Bool} {i : Nat} (hn : SI.Nodup) (hi : i ∈ SI) (hD : D i = false) : cnt SI (fun j => j == i || D j) = cnt SI D + 1 := by
  unfold cnt
  induction SI with
  | nil => cases hi
  | cons a r ih =>
    obtain ⟨h1, h2⟩ := List.nodup_cons.1 hn
    simp only [List.filter_cons]
    by_cases hai : a = i
    · subst hai
      have : r.filter (fun j => j == a || D j) = r.filter D := by
        apply List.filter_congr
        intro x hx
        have : x ≠ a := fun e => h1 (e ▸ hx)
        simp [this]
      simp [hD, this]
    · have := ih h2 ((List.mem_cons.1 hi).resolve_left (Ne.symm hai))
      have e : (a == i || D a) = D a := by simp [hai]
      rw [e]
      split
      · simp [this]
      · exact this
theorem cnt_skip {D : Nat → Bool} {i : Nat} (hi : SI.contains i = false) : cnt SI (fun j => j == i || D j) = cnt SI D := by
  unfold cnt
  congr 1
  apply List.filter_congr
  intro x hx
  have : x ≠ i := fun e => by subst e; simp [hx] at hi
  simp [this]
/-- one step of the head, whichever comes up -/
theorem head_step (hok : drawOk L ms N = true) (hN : N ≤ L.length) (hN2 : N ≤ 1000) (hSI : SI.Nodup) (hSN : ∀ s ∈ SI, s < N) (hls : ∀ p vals i v, i < 1000 → SI.contains i = false → ls p (fun j => if j = i then v else vals j) = ls p vals) (ks : List Nat) (hks : ∀ d v, Env.get E0 d = some v → ks.contains d = true) (hsl : slotsOk L M N ks = true)
    (hall : HAll P n S w0 L SI GL ls E0 M N ms 0 (L.take N)) {D : Nat → Bool} {t : Array Value} {w : World} (hD : Closed L D) (inv : HInv P n S w0 L SI GL ls E0 M N D t w) {i : Nat} {o : Oper} (hMi : M ≤ i) (hi : i < N) (ho : L[i]? = some o)
    (hDi : D i = false) (hpre : ∀ e ∈ o.after, Region.binds .any e = true → D e.on = true) {K : Act → World → Prop}
    (h : ∀ t' w', HInv P n S w0 L SI GL ls E0 M N (fun j => j == i || D j) t' w' → K ⟨t', []⟩ w') : wpOp P L.toArray Q i K ⟨t, []⟩ w := by
  have hop := HAll.get (L.take N) 0 hall i o (by rw [List.getElem?_take, if_pos hi]; exact ho) (by omega)
  rw [Nat.zero_add] at hop
  obtain ⟨hA, vals, hvals, hM⟩ := inv
  have hil : i < L.length := by omega
  have hpD : ∀ j, prd o j = true → D j = true := fun j hj => by
    obtain ⟨e, he, h1, h2⟩ := prd_spec hj
    rw [← h2]; exact hpre e he h1
  have hbits := bits_listed hok hD i o ho hpre
  have hlo : lo SI ms i ≤ cnt SI D := cnt_le (D := fun s => bit ms i s) (fun s hs hb => hbits s (by have := hSN s hs; omega) hb)
  have hhi : cnt SI D ≤ hi' SI ms i := cnt_le (D' := fun s => !(bit ms s i) && s != i) (fun s hs hb => by
    have hsl : s < L.length := by have := hSN s hs; omega
    have hne : s ≠ i := fun e => by rw [e, hDi] at hb; cases hb
    have hnb : bit ms s i = false := by
      cases hbb : bit ms s i with
      | false => rfl
      | true =>
        obtain ⟨os, hos⟩ : ∃ os, L[s]? = some os := ⟨L[s]'hsl, List.getElem?_eq_getElem hsl⟩
        have := bits_listed hok hD s os hos (hD s os hos hb) i hil hbb
        rw [hDi] at this; cases this
    simp [hnb, hne])
  unfold wpOp
  rw [List.getElem?_toArray, ho]
  simp only []
  have hslots : ∀ j oj d, M ≤ j → j < N → prd o j = true → L[j]? = some oj → oj.dst = some d → t[d]? = some (vals j) := fun j oj d h0 h1 h2 h4 h5 => hvals j oj d h0 h1 (hpD j h2) h4 h5
  have hput : ∀ v, (∀ d, o.dst = some d → d < n) → ∃ t', Act.put ⟨t, []⟩ o.dst v = ⟨t', []⟩ ∧ Ag n t' E0 ∧ ∀ j oj d, M ≤ j → j < N → (j == i || D j) = true → L[j]? = some oj → oj.dst = some d → t'[d]? = some (if j = i then v else vals j) := by
    intro v hdn
    cases hd : o.dst with
    | none =>
      refine ⟨t, rfl, hA, fun j oj d h0 h1 h2 h4 h5 => ?_⟩
      have hji : j ≠ i := fun e => by
        subst e
        rw [ho] at h4
        obtain rfl := Option.some.inj h4
        rw [hd] at h5; cases h5
      rw [if_neg hji]
      exact hvals j oj d h0 h1 (by simpa [hji] using h2) h4 h5
    | some d =>
      have hdn := hdn d hd
      have hEd : ∀ v, Env.get E0 d ≠ some v := fun v hv => by
        have h1 := hks d v hv
        have h2 := List.all_eq_true.1 hsl i (List.mem_range.2 hi)
        have hMf : decide (i < M) = false := decide_eq_false (by omega)
        simp only [hMf, Bool.false_or, ho, hd, Bool.and_eq_true, Bool.not_eq_true'] at h2
        rw [h1] at h2; cases h2.1
      refine ⟨t.setIfInBounds d v, rfl, hA.putOther hEd v, fun j oj d' h0 h1 h2 h4 h5 => ?_⟩
      by_cases hji : j = i
      · subst hji
        rw [ho] at h4
        obtain rfl := Option.some.inj h4
        rw [hd] at h5
        obtain rfl := Option.some.inj h5
        simp [hA.size, hdn]
      · have h6 := List.all_eq_true.1 hsl i (List.mem_range.2 hi)
        have hMf : decide (i < M) = false := decide_eq_false (by omega)
        have hMj : decide (j < M) = false := decide_eq_false (by omega)
        simp only [hMf, Bool.false_or, ho, hd, Bool.and_eq_true] at h6
        have h7 := List.all_eq_true.1 h6.2 j (List.mem_range.2 h1)
        have hij : (i == j) = false := by simp; omega
        simp only [hij, hMj, h4, h5, Bool.false_or, bne_iff_ne, ne_eq, Option.some.injEq] at h7
        rw [if_neg hji, Array.getElem?_setIfInBounds_ne (fun e => h7 e.symm)]
        exact hvals j oj d' h0 h1 (by simpa [hji] using h2) h4 h5
  unfold HOp at hop
  cases hs : SI.contains i with
  | true =>
    rw [hs, if_pos rfl] at hop
    obtain ⟨hlh, hg, hdn, hGp, hrun⟩ := hop
    have hp : cnt SI D = lo SI ms i := by omega
    rw [← hp] at hrun hGp
    have hsp : ∀ p, (facs GL SI p D vals N).Perm (facs GL SI p (fun j => prd o j) vals N ++ facs GL SI p (fun j => D j && !prd o j) vals N) := fun p => facs_split N fun j _ hj => hpD j hj
    have hph : facs GL SI (cnt SI D) (fun j => D j && !prd o j) vals N = facs GL SI (cnt SI D + 1) (fun j => D j && !prd o j) vals N := facs_phase (fun j G v h1 h2 h3 => hGp j G v h1 h2 (by simp at h3; exact h3.2)) N
    rw [if_pos (by simp [Region.wanted, hg])]
    refine .inl (hrun t w vals (facs GL SI (cnt SI D) (fun j => D j && !prd o j) vals N) hA hslots (hM.perm (List.Perm.append_left _ (hsp _))) _ _ fun v u w' hM' => ?_)
    obtain ⟨t', ht', hA', hsl'⟩ := hput v hdn
    rw [ht']
    refine h t' w' ⟨hA', fun j => if j = i then v else if j = i + 1000 then u else vals j, fun j oj d h0 h1 h2 h4 h5 => ?_, ?_⟩
    · have := hsl' j oj d h0 h1 h2 h4 h5
      have hne : j ≠ i + 1000 := by omega
      show t'[d]? = some (if j = i then v else if j = i + 1000 then u else vals j)
      rw [if_neg hne]; exact this
    rw [cnt_add hSI (by simpa using hs) hDi, facs_store hs, facs_congr (D' := D) (vals' := vals) N (fun _ _ => rfl) (fun j hjN hj => by
      show (if j = i then v else if j = i + 1000 then u else vals j) = vals j
      rw [if_neg (fun e => by subst e; rw [hDi] at hj; cases hj), if_neg (by omega)])]
    refine hM'.perm (List.Perm.append_left _ ?_)
    rw [hph]
    exact (hsp _).symm
  | false =>
    rw [hs] at hop
    simp only [Bool.false_eq_true, if_false] at hop
    obtain ⟨d, G, hd, hdn, hG, hval⟩ := hop
    have hM2 : Mem S w0 w (ls (cnt SI D) vals ++ facs GL SI (cnt SI D) (fun j => prd o j) vals N) := hM.sublist (List.Sublist.append (List.Sublist.refl _) (facs_sub N fun j _ hj => hpD j hj))
    have hnew : ∀ v w', Mem (All w) w w' [G (cnt SI D) v] → K (Act.put ⟨t, []⟩ o.dst v) w' := by
      intro v w' hM'
      obtain ⟨t', ht', hA', hsl'⟩ := hput v (fun d' h' => by rw [hd] at h'; obtain rfl := Option.some.inj h'; exact hdn)
      rw [ht']
      refine h t' w' ⟨hA', fun j => if j = i then v else vals j, hsl', ?_⟩
      rw [cnt_skip hs, hls _ _ _ _ (by omega) hs]
      have h8 := hM.call hM'
      refine h8.perm ?_
      refine List.Perm.trans ?_ (List.Perm.append_left _ (facs_add (p := cnt SI D) (v := v) (vals := vals) hG hs hDi N hi))
      exact (List.perm_middle (l₁ := ls (cnt SI D) vals)).symm
    rcases hval (cnt SI D) hlo hhi t w vals hA hslots hM2 with ⟨hw, hK⟩ | ⟨hw, hU⟩
    · rw [if_pos hw]
      exact .inl (hK K Q hnew)
    · rw [if_neg (by simp [hw])]
      exact hnew undef w hU
/-- the tail: one behind the other -/
theorem tail_steps (hok : drawOk L ms N = true) (hto : tailOk L ms N = true) : ∀ (r : List Oper) (m : Nat) (listed : Array Bool) (a : Act) (w : World), (∀ j, r[j]? = L[m + j]?) → N ≤ m → listed.size = L.length →
    (∀ j, j < L.length → listed.getD j true = decide (j < m)) → wpList P L.toArray Q r a w → wpAny P .any L.toArray Q r.length listed a w
  | [], m, listed, a, w, hr, hNm, hsz, hl, h => by
    refine ⟨?_, h⟩
    have hm : L.length ≤ m := by
      have := hr 0
      simp at this
      exact this
    apply List.eq_nil_iff_forall_not_mem.2
    intro j hj
    obtain ⟨h1, o, ho, _⟩ := mem_ready.1 hj
    have hjl : j < L.length := by have := (Array.getElem?_eq_some_iff.1 ho).1; simpa using this
    rw [hl j hjl] at h1
    simp at h1
    omega
  | o :: r, m, listed, a, w, hr, hNm, hsz, hl, h => by
    have hom : L[m]? = some o := by have := hr 0; simpa using this.symm
    have hml : m < L.length := (List.getElem?_eq_some_iff.1 hom).1
    have hmr : m ∈ Region.ready .any L.toArray listed := by
      refine mem_ready.2 ⟨by rw [hl m hml]; simp, o, by simpa using hom, fun e he hb => ?_⟩
      have h1 := (drawOk_spec hok hom).1 e he hb
      have h2 := hl e.on (by omega)
      simp only [h1, decide_true] at h2
      have : e.on < listed.size := by rw [hsz]; omega
      simp [this] at h2 ⊢
      exact h2
    refine ⟨fun h0 => (by rw [h0] at hmr; cases hmr), fun i hi => ?_⟩
    have him : i = m := by
      obtain ⟨h1, oi, hoi, hall⟩ := mem_ready.1 hi
      have hil : i < L.length := by have := (Array.getElem?_eq_some_iff.1 hoi).1; simpa using this
      rw [hl i hil] at h1
      have hge : m ≤ i := by simpa using h1
      by_cases heq : i = m
      · exact heq
      · exfalso
        have hoi' : L[i]? = some oi := by simpa using hoi
        have hb : bit ms i m = true := by
          have h1 := List.all_eq_true.1 hto i (List.mem_range.2 hil)
          have h2 : decide (i < N) = false := decide_eq_false (by omega)
          rw [h2, Bool.false_or] at h1
          exact List.all_eq_true.1 h1 m (List.mem_range.2 (by omega))
        let D : Nat → Bool := fun j => listed.getD j false
        have hD : Closed L D := by
          intro j oj hj hDj e he hbd
          have hjl : j < L.length := (List.getElem?_eq_some_iff.1 hj).1
          have h3 := hl j hjl
          have h4 : listed.getD j true = true := by
            have : j < listed.size := by rw [hsz]; omega
            simp [this]
            simpa [D, this] using hDj
          rw [h4] at h3
          have hjm : j < m := by simpa using h3.symm
          have h5 := (drawOk_spec hok hj).1 e he hbd
          have h6 := hl e.on (by omega)
          have : e.on < listed.size := by rw [hsz]; omega
          have h7 : e.on < m := by omega
          simp [D, this, h7] at h6 ⊢
          exact h6
        have := bits_listed hok hD i oi hoi' (fun e he hbd => hall e he hbd) m hml hb
        have h8 := hl m hml
        have : m < listed.size := by rw [hsz]; omega
        simp_all [D]
    subst him
    unfold wpList at h
    unfold wpOp
    rw [List.getElem?_toArray, hom]
    simp only []
    have hrec : ∀ a' w', wpList P L.toArray Q r a' w' → wpAny P .any L.toArray Q r.length (listed.setIfInBounds i true) a' w' := fun a' w' h' => by
      refine tail_steps hok hto r (i + 1) (listed.setIfInBounds i true) a' w' (fun j => by have := hr (j + 1); simpa [Nat.add_assoc, Nat.add_comm 1 j] using this) (by omega) (by simp [hsz]) (fun j hj => ?_) h'
      by_cases hji : i = j
      · subst hji
        have : i < listed.size := by rw [hsz]; omega
        simp [this]
      · rw [getD_set_ne true hji, hl j hj]
        by_cases h9 : j < i
        · simp [h9]; omega
        · simp [h9]; omega
    split
    · rename_i hw
      rw [if_pos hw] at h
      rcases h with h | h
      · exact .inl (Oper.wp_mono hrec h)
      · exact .inr h
    · rename_i hw
      rw [if_neg hw] at h
      exact hrec _ _ h
/-- the first m are done, the rest comes in any order that the edges allow -/
def DrW (P : Program) (L : List Oper) (Q : Exit → Act → World → Prop) (m : Nat) (a : Act) (w : World) : Prop :=
  ∀ listed : Array Bool, listed.size = L.length → (∀ j, j < L.length → listed.getD j true = decide (j < m)) → wpAny P .any L.toArray Q (L.length - m) listed a w
theorem st_drawTail {l : List Asn} {E : Env} (ms : List Nat) (hok : drawOk L ms N = true) (hto : tailOk L ms N = true) (h : St n S w0 (wpList P L.toArray Q (L.drop N)) E l) : St n S w0 (DrW P L Q N) E l := fun t w hA hM listed hsz hl => by
  have hlen : (L.drop N).length = L.length - N := by simp
  rw [← hlen]
  exact tail_steps hok hto (L.drop N) N listed ⟨t, []⟩ w (fun j => by rw [List.getElem?_drop]) (Nat.le_refl _) hsz hl (h t w hA hM)
theorem st_drawStart {id : Nat} {l : List Asn} {E : Env} (hm : P.follows .mixedOrders = true) (h : St n S w0 (DrW P L Q 0) E l) : St n S w0 ((Code.region id L.toArray true).wp P Q) E l := fun t w hA hM => by
  refine wp_region_any hm ?_
  have := h t w.drew hA (hM.sameHeap rfl rfl rfl rfl) (Array.replicate L.length false) (by simp) (fun j hj => by simp [hj])
  simpa using this
/-- the head -/
theorem head_steps (hok : drawOk L ms N = true) (hN : N ≤ L.length) (hN2 : N ≤ 1000) (hSI : SI.Nodup) (hSN : ∀ s ∈ SI, s < N) (hls : ∀ p vals i v, i < 1000 → SI.contains i = false → ls p (fun j => if j = i then v else vals j) = ls p vals) (ks : List Nat) (hks : ∀ d v, Env.get E0 d = some v → ks.contains d = true) (hsl : slotsOk L M N ks = true)
    (hall : HAll P n S w0 L SI GL ls E0 M N ms 0 (L.take N))
    (hend : ∀ t w, HInv P n S w0 L SI GL ls E0 M N (fun j => decide (j < N)) t w → DrW P L Q N ⟨t, []⟩ w) :
    ∀ (k : Nat) (listed : Array Bool) (t : Array Value) (w : World), listed.size = L.length → (∀ j, j < M → listed.getD j true = true) → (List.range N).countP (fun j => !listed.getD j true) = k → (∀ j, N ≤ j → j < L.length → listed.getD j true = false) →
      Closed L (fun j => listed.getD j false) → HInv P n S w0 L SI GL ls E0 M N (fun j => listed.getD j false) t w → wpAny P .any L.toArray Q (k + (L.length - N)) listed ⟨t, []⟩ w := by
  intro k
  induction k with
  | zero =>
    intro listed t w hsz hMl hk htl hcl inv
    have hdone : ∀ j, j < N → listed.getD j true = true := fun j hj => by
      have := (List.countP_eq_zero.1 hk) j (List.mem_range.2 hj)
      simpa using this
    have hfull : ∀ j, listed.getD j false = decide (j < N) := fun j => by
      by_cases hj : j < N
      · have h1 := hdone j hj
        have h2 : j < listed.size := by rw [hsz]; omega
        simp [h2] at h1 ⊢
        rw [h1]; simp [hj]
      · by_cases hj2 : j < L.length
        · have h1 := htl j (by omega) hj2
          have h2 : j < listed.size := by rw [hsz]; omega
          simp [h2] at h1 ⊢
          rw [h1]; simp; omega
        · have h2 : ¬ j < listed.size := by rw [hsz]; omega
          simp [h2]; omega
    have einv : HInv P n S w0 L SI GL ls E0 M N (fun j => decide (j < N)) t w := by
      have : (fun j => listed.getD j false) = (fun j => decide (j < N)) := funext hfull
      rwa [this] at inv
    rw [Nat.zero_add]
    refine hend t w einv listed hsz (fun j hj => ?_)
    by_cases hjN : j < N
    · rw [hdone j hjN]; simp [hjN]
    · rw [htl j (by omega) hj]; simp; omega
  | succ k ih =>
    intro listed t w hsz hMl hk htl hcl inv
    rw [show k + 1 + (L.length - N) = (k + (L.length - N)) + 1 by omega]
    -- one of the head that is not listed, the first of them, may come up
    have hex : ∃ m, m < N ∧ listed.getD m true = false ∧ ∀ j, j < m → listed.getD j true = true := by
      have h0 : 0 < (List.range N).countP (fun j => !listed.getD j true) := by omega
      obtain ⟨a, ha, hb⟩ := List.countP_pos_iff.1 h0
      have haN := List.mem_range.1 ha
      have hb' : listed.getD a true = false := by simpa using hb
      clear hb h0 ha
      induction a using Nat.strongRecOn with
      | _ a iha =>
        by_cases hall' : ∀ j, j < a → listed.getD j true = true
        · exact ⟨a, haN, hb', hall'⟩
        · have hne : ∃ j, j < a ∧ listed.getD j true = false := by
            apply Classical.byContradiction
            intro hcon
            apply hall'
            intro j hj
            cases hg : listed.getD j true with
            | true => rfl
            | false => exact absurd ⟨j, hj, hg⟩ hcon
          obtain ⟨j, hj, hjf⟩ := hne
          exact iha j hj (by omega) hjf
    obtain ⟨m, hmN, hmf, hmb⟩ := hex
    have getF : ∀ j, j < L.length → listed.getD j true = listed.getD j false := fun j hj => by
      have h2 : j < listed.size := by rw [hsz]; omega
      simp [h2]
    refine ⟨fun h0 => ?_, fun i hi => ?_⟩
    · exfalso
      have hml : m < L.length := by omega
      have : m ∈ Region.ready .any L.toArray listed := mem_ready.2 ⟨hmf, L[m], by simp [hml], fun e he hb => by
        have h1 := (drawOk_spec hok (List.getElem?_eq_getElem hml)).1 e he hb
        rw [← getF e.on (by omega)]; exact hmb e.on h1⟩
      rw [h0] at this; cases this
    · obtain ⟨h1, o, ho, hall'⟩ := mem_ready.1 hi
      have hil : i < L.length := by have := (Array.getElem?_eq_some_iff.1 ho).1; simpa using this
      have ho' : L[i]? = some o := by simpa using ho
      have hiN : i < N := by
        apply Classical.byContradiction
        intro hcon
        have hb := (drawOk_spec hok ho').2.2 (by omega) m hmN
        have := bits_listed hok hcl i o ho' (fun e he hbd => hall' e he hbd) m (by omega) hb
        rw [← getF m (by omega), hmf] at this
        cases this
      have hif : listed.getD i false = false := by rw [← getF i hil]; exact h1
      have hMi : M ≤ i := Nat.le_of_not_lt fun hlt => by
        have h1' : listed.getD i true = false := h1
        rw [hMl i hlt] at h1'; cases h1'
      refine head_step hok hN hN2 hSI hSN hls ks hks hsl hall hcl inv hMi hiN ho' hif (fun e he hb => hall' e he hb) (K := wpAny P .any L.toArray Q (k + (L.length - N)) (listed.setIfInBounds i true)) (fun t' w' inv' => ?_)
      have hset : (fun j => (listed.setIfInBounds i true).getD j false) = (fun j => j == i || listed.getD j false) := by
        funext j
        by_cases hji : i = j
        · subst hji
          have : i < listed.size := by rw [hsz]; omega
          simp [this]
        · rw [getD_set_ne false hji]
          have : (j == i) = false := by simp; omega
          simp [this]
      refine ih (listed.setIfInBounds i true) t' w' (by simp [hsz]) (fun j hj => by rw [getD_set_ne true (by omega)]; exact hMl j hj) ?_ (fun j hj hjl => ?_) ?_ ?_
      · have hc : ∀ M, i < M → (List.range M).countP (fun j => !listed.getD j true) = (List.range M).countP (fun j => !(listed.setIfInBounds i true).getD j true) + 1 := by
          intro M
          induction M with
          | zero => intro h; omega
          | succ M ihM =>
            intro hM
            rw [List.range_succ, List.countP_append, List.countP_append]
            by_cases hiM : i = M
            · subst hiM
              have e1 : (List.range i).countP (fun j => !listed.getD j true) = (List.range i).countP (fun j => !(listed.setIfInBounds i true).getD j true) := by
                apply List.countP_congr
                intro x hx
                have : i ≠ x := by have := List.mem_range.1 hx; omega
                rw [getD_set_ne true this]
              have h2 : i < listed.size := by rw [hsz]; omega
              have e2 : (listed.setIfInBounds i true).getD i true = true := by simp [h2]
              rw [e1]
              simp only [List.countP_singleton, h1, e2, Bool.not_false, if_true, Bool.not_true, Bool.false_eq_true, if_false]
            · rw [ihM (by omega)]
              simp only [List.countP_singleton, getD_set_ne true hiM]
              omega
        have := hc N hiN
        omega
      · rw [getD_set_ne true (by omega)]; exact htl j hj hjl
      · intro j oj hj hDj e he hb
        refine (congrFun hset e.on).trans ?_
        replace hDj := (congrFun hset j).symm.trans hDj
        by_cases hji : j = i
        · subst hji
          rw [ho'] at hj
          obtain rfl := Option.some.inj hj
          simp [hall' e he hb]
        · have : listed.getD j false = true := by simpa [hji] using hDj
          simp [hcl j oj hj this e he hb]
      · rw [hset]; exact inv'
/-- the fact that says nothing -/
def anyA : Asn where
  holds _ := True
  foot _ := False
  turn _ := False
  keep _ _ _ h := h
  live _ _ _ h := h.elim
  sub _ h := h
def kany : Nat → Value → Asn := fun _ _ => anyA
theorem Mem.anys {l r : List Asn} {w : World} (hM : Mem S w0 w l) (h : ∀ x ∈ r, x = anyA) : Mem S w0 w (l ++ r) := by
  refine { hM with holds := fun x hx => ?_, apart := ?_, off := fun x hx b hb => ?_ }
  · rcases List.mem_append.1 hx with hx | hx
    · exact hM.holds x hx
    · rw [h x hx]; exact trivial
  · refine List.pairwise_append.2 ⟨hM.apart, ?_, fun x _ y hy b => ?_⟩
    · refine List.pairwise_of_forall_mem_list fun x hx y hy b => ?_
      rw [h x hx]; exact ⟨fun h => h.elim, fun _ h => h.elim⟩
    · rw [h y hy]; exact ⟨fun _ h => h.elim, fun h => h.elim⟩
  · rcases List.mem_append.1 hx with hx | hx
    · exact hM.off x hx b hb
    · rw [h x hx] at hb; exact hb.elim
theorem facs_any {GL : List (Nat → Value → Asn)} {SI : List Nat} {p : Nat} {D : Nat → Bool} {vals : Nat → Value} (h : ∀ j G, GL[j]? = some G → D j = true → G = kany) : ∀ k, ∀ x ∈ facs GL SI p D vals k, x = anyA
  | 0, x, hx => by cases hx
  | k + 1, x, hx => by
    rcases List.mem_append.1 hx with hx | hx
    · exact facs_any h k x hx
    · split at hx
      · rename_i hc
        unfold fac1 at hx
        split at hx
        · rename_i G hG
          rw [List.mem_singleton.1 hx, h k G hG (by simp at hc; exact hc.1)]; rfl
        · cases hx
      · cases hx
theorem Env.get_key : ∀ (E : List (Nat × Value)) {d : Nat} {v : Value}, Env.get E d = some v → d ∈ E.map Prod.fst
  | [], _, _, h => by cases h
  | (k, u) :: r, d, v, h => by
    simp only [Env.get] at h
    cases hb : Nat.beq k d with
    | true =>
      obtain rfl : k = d := Nat.eq_of_beq_eq_true hb
      simp
    | false =>
      rw [hb] at h
      exact List.mem_cons_of_mem _ (Env.get_key r h)
/-- **A PART OF A STATEMENT WHOSE ORDER IS OPEN**: the operations from M up to N. -/
theorem st_drawSeg {l : List Asn} {E : Env} (SI : List Nat) (GL : List (Nat → Value → Asn)) (ls : Nat → (Nat → Value) → List Asn) (M N : Nat) (ms : List Nat) (ks : List Nat)
    (hok : drawOk L ms N = true) (hN : decide (M ≤ N ∧ N ≤ L.length ∧ N ≤ 1000) = true) (hSI : decide (SI.Nodup ∧ ∀ s ∈ SI, M ≤ s ∧ s < N) = true) (hsl : slotsOk L M N ks = true) (hks : E0.map Prod.fst = ks) (hG0 : GL.take M = List.replicate M kany)
    (hls : ∀ p vals i v, i < 1000 → SI.contains i = false → ls p (fun j => if j = i then v else vals j) = ls p vals) (hE : SubE E0 E) (hl : ∀ w, Mem S w0 w l → Mem S w0 w (ls 0 fun _ => undef)) (hall : HAll P n S w0 L SI GL ls E0 M N ms 0 (L.take N))
    (hend : ∀ t w, HInv P n S w0 L SI GL ls E0 M N (fun j => decide (j < N)) t w → DrW P L Q N ⟨t, []⟩ w) :
    St n S w0 (DrW P L Q M) E l := fun t w hA hM listed hsz hlst => by
  obtain ⟨hSI, hSN⟩ := of_decide_eq_true hSI
  obtain ⟨hMN, hN, hN2⟩ := of_decide_eq_true hN
  have hM' : Mem S w0 w (ls 0 fun _ => undef) := hl w hM
  have hks' : ∀ d v, Env.get E0 d = some v → ks.contains d = true := fun d v h => by
    subst hks
    have := Env.get_key E0 h
    simpa using this
  have hlf : ∀ j, listed.getD j false = decide (j < M) := fun j => by
    by_cases hj : j < L.length
    · have h1 := hlst j hj
      have h2 : j < listed.size := by rw [hsz]; omega
      simp [h2] at h1 ⊢
      exact h1
    · have h2 : ¬ j < listed.size := by rw [hsz]; omega
      simp [h2]; omega
  have hc0 : (List.range N).countP (fun j => !listed.getD j true) = N - M := by
    have : ∀ K, M ≤ K → K ≤ N → (List.range K).countP (fun j => !listed.getD j true) = K - M := by
      intro K hMK
      induction K with
      | zero => intro _; simp
      | succ K ih =>
        intro hK
        rw [List.range_succ, List.countP_append]
        by_cases hKM : M ≤ K
        · rw [ih hKM (by omega), List.countP_singleton, hlst K (by omega), decide_eq_false (by omega : ¬ K < M)]
          simp only [Bool.not_false, if_true]; omega
        · have hz : (List.range K).countP (fun j => !listed.getD j true) = 0 := List.countP_eq_zero.2 fun j hj => by
            have := List.mem_range.1 hj
            rw [hlst j (by omega)]; simp; omega
          rw [hz, List.countP_singleton, hlst K (by omega), decide_eq_true (by omega : K < M)]
          simp only [Bool.not_true, Bool.false_eq_true, if_false]; omega
    exact this N hMN (Nat.le_refl _)
  have := head_steps (Q := Q) hok hN hN2 hSI (fun s hs => (hSN s hs).2) hls ks hks' hsl hall hend (N - M) listed t w hsz (fun j hj => by rw [hlst j (by omega)]; simp [hj]) hc0 (fun j h1 h2 => by rw [hlst j h2]; simp; omega)
    (fun j o hj hD e he hb => by
      have hD' := (hlf j).symm.trans hD
      refine (hlf e.on).trans ?_
      have := (drawOk_spec hok hj).1 e he hb
      simp at hD' ⊢; omega) (by
    have e : (fun j => listed.getD j false) = fun j => decide (j < M) := funext hlf
    rw [e]
    have hcn : cnt SI (fun j => decide (j < M)) = 0 := by
      unfold cnt
      rw [List.filter_eq_nil_iff.2 (fun s hs => by have := (hSN s hs).1; simp; omega)]; rfl
    refine ⟨hA.sub hE, fun _ => undef, (fun j oj d h0 h1 h2 => by simp at h2; omega), ?_⟩
    rw [hcn]
    refine hM'.anys (facs_any (fun j G hG hj => ?_) N)
    have hjM : j < M := of_decide_eq_true hj
    have h1 : (GL.take M)[j]? = some G := by rw [List.getElem?_take, if_pos hjM]; exact hG
    rw [hG0, List.getElem?_replicate, if_pos hjM] at h1
    exact (Option.some.inj h1).symm)
  rwa [show N - M + (L.length - N) = L.length - M by omega] at this
end
end Go.Proofs.YtjhjjhpfjadjpaaDoor
