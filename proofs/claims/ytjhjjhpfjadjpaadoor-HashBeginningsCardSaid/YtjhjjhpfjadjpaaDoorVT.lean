/- Helpers: methods through interfaces; the entries of one thing in memory, together; states of hashes. -/
import Derived.Test.YtjhjjhpfjadjpaaDoorVS
namespace Go.Proofs.YtjhjjhpfjadjpaaDoor
set_option linter.all false
open Go
/-! ### methods through interfaces -/
/-- the method nm of the pointer type t is the function f -/
def MethodOf (P : Program) (t : TypeId) (nm : String) (f : FuncId) : Prop :=
  (∃ e, P.underlying t = some (.pointer e)) ∧ ((P.info? t).bind fun i => (i.methods.find? (·.name == nm)).map fun m => (m.func, m.path)) = some (some (f, true), #[])
section
variable {P : Program} {n : Nat} {S : Nat → Prop} {w0 : World} {E : Env} {l : List Asn} {Q : Exit → Act → World → Prop} {ops : Array Oper} {rest : List Oper} {ty t : TypeId} {pos : String} {af : Array Edge} {g : Option (Nat × Bool)} {d : Nat} {x : Operand} {v : Value} {dst : Option Tmp}
theorem rv_makeIface {T e : TypeId} (ht : P.underlying T = some (.pointer e)) (hx : Env.ev E x = some v) : RunsV P n S w0 ⟨dst, .makeInterface T x, ty, pos, af, g⟩ E l (.iface T v) := fun tt w hA _ => by
  simp [execOp, Instr.makeInterface, run_underlying ht, hA.ev hx]
theorem run_invoke {w : World} {tt : Array Value} {f : FuncId} {nm : String} {as : List Operand} {vs : List Value} {ats : Array TypeId} (hA : Ag n tt E) (hm : MethodOf P t nm f) (hf : Callable P f) (hx : Env.ev E x = some (.iface t v)) (hv : evs E as = some vs) :
    (execOp (Act.eval ⟨tt, []⟩) ⟨dst, .call { callee := .invoke x nm, args := as.toArray, argTypes := ats }, ty, pos, af, g⟩).run P w = .ok (.enter f (v :: vs).toArray) w := by
  obtain ⟨⟨e, hu⟩, hm⟩ := hm
  obtain ⟨fn, h1, h2, h3⟩ := hf
  cases hi : P.info? t with
  | none => simp [hi] at hm
  | some i =>
    simp only [hi, Option.bind_some, Option.map_eq_some_iff, Prod.mk.injEq] at hm
    obtain ⟨m, hfm, hmf, hmp⟩ := hm
    have h4 := evs_map hA as hv
    have h5 : ∀ args : Array Value, (callFunc f args).run P w = .ok (.enter f args) w := fun args => by
      simp only [callFunc, Sem.run_bind, run_program, Result.andThen_ok, h1, h2, h3, Bool.false_eq_true, if_false, Sem.run_pure]
    have h6 : ∀ k, (Go.method (k + 1) t v nm).run P w = .ok (f, v) w := fun k => by
      simp [Go.method, typeInfo, hi, hfm, hmf, hmp, Go.follow, Go.receiverAt, run_underlying hu, Go.Place.get]
    have h7 : ∀ k, k + Made.depth = (k + (Made.depth - 1)) + 1 := fun k => by
      have : 1 ≤ Made.depth := by decide
      omega
    have h8 : (callMethod (.iface t v) nm vs.toArray).run P w = .ok (.enter f (v :: vs).toArray) w := by
      simp only [callMethod, Sem.run_bind, run_program, Result.andThen_ok]
      rw [h7, h6]
      simp only [Result.andThen_ok, h5]
      simp
    have h9 : Array.map (Act.eval ⟨tt, []⟩) as.toArray = vs.toArray := by rw [← h4]; simp
    simp only [execOp, resolve, Sem.run_bind, Sem.run_pure, Result.andThen_ok, hA.ev hx, h9]
    simp only [invoke]
    have e1 : (#[Value.iface t v] ++ vs.toArray)[0]? = some (.iface t v) := by simp
    have e2 : (#[Value.iface t v] ++ vs.toArray).extract 1 (#[Value.iface t v] ++ vs.toArray).size = vs.toArray := by simp
    rw [e1, e2]
    exact h8
/-- a call through an interface, for what it changes: the entry X becomes Y r; N r is new -/
theorem wpList_enter {w w' : World} {o : Oper} {a : Act} {f : FuncId} {args : Array Value} (hg : o.guard = none) (hr : (execOp a.eval o).run P w = .ok (.enter f args) w')
    (h : Calls P f args w' fun e w'' => ∃ v, e = .returned v ∧ wpList P ops Q rest (a.put o.dst v) w'') : wpList P ops Q (o :: rest) a w := wpList_call hg hr h
end
/-! ### entries, together -/
def tn (lm : List Asn) : Nat → Prop := fun b => ∃ x ∈ lm, x.turn b
def sepA (l : List Asn) : Asn where
  holds w := (∀ x ∈ l, x.holds w) ∧ l.Pairwise Apart
  foot b := ∃ x ∈ l, x.foot b
  turn b := ∃ x ∈ l, x.turn b
  keep w w' h hr := ⟨fun x hx => x.keep w w' (fun b hb => h b ⟨x, hx, hb⟩) (hr.1 x hx), hr.2⟩
  live w hr b hb := by obtain ⟨x, hx, hb⟩ := hb; exact x.live w (hr.1 x hx) b hb
  sub b h := by obtain ⟨x, hx, hb⟩ := h; exact ⟨x, hx, x.sub b hb⟩
section
variable {S : Nat → Prop} {w0 w : World} {l lm lf : List Asn} {X : Asn}
theorem Mem.focus (M : Mem S w0 w (lm ++ lf)) (ho : ∀ x ∈ lm, ∀ b, x.foot b → x.turn b) : Mem (Old w (tn lm)) w w lm :=
  ⟨rfl, rfl, rfl, Nat.le_refl _, fun b hb => hb.1, fun _ _ => rfl, fun x hx => M.holds x (List.mem_append.2 (.inl hx)), (List.pairwise_append.1 M.apart).1, fun x hx b hb hs => hs.2 ⟨x, hx, ho x hx b hb⟩⟩
theorem Mem.focusOff (M : Mem S w0 w (lm ++ lf)) {y : Asn} (hy : y ∈ lf) : ∀ b, y.foot b → Old w (tn lm) b := fun b hb => by
  refine ⟨y.live w (M.holds y (List.mem_append.2 (.inr hy))) b hb, fun ⟨x, hx, ht⟩ => ?_⟩
  exact ((List.pairwise_append.1 M.apart).2.2 x hx y hy b).1 ht hb
theorem Mem.focusS (M : Mem S w0 w (lm ++ lf)) : ∀ b, S b → Old w (tn lm) b := fun b hb => by
  refine ⟨Nat.lt_of_lt_of_le (M.inS b hb) M.size, fun ⟨x, hx, ht⟩ => ?_⟩
  exact M.off x (List.mem_append.2 (.inl hx)) b (x.sub b ht) hb
theorem Mem.pack (M : Mem S w0 w (lm ++ lf)) : Mem S w0 w (sepA lm :: lf) := by
  obtain ⟨a1, a2, a3⟩ := List.pairwise_append.1 M.apart
  refine { M with holds := fun y hy => ?_, apart := ?_, off := fun y hy b hb => ?_ }
  · rcases List.mem_cons.1 hy with rfl | hy
    · exact ⟨fun x hx => M.holds x (List.mem_append.2 (.inl hx)), a1⟩
    · exact M.holds y (List.mem_append.2 (.inr hy))
  · refine List.pairwise_cons.2 ⟨fun y hy b => ⟨fun ⟨x, hx, ht⟩ hf => (a3 x hx y hy b).1 ht hf, fun ht ⟨x, hx, hf⟩ => (a3 x hx y hy b).2 ht hf⟩, a2⟩
  · rcases List.mem_cons.1 hy with rfl | hy
    · obtain ⟨x, hx, hb⟩ := hb; exact M.off x (List.mem_append.2 (.inl hx)) b hb
    · exact M.off y (List.mem_append.2 (.inr hy)) b hb
theorem Mem.unpack (M : Mem S w0 w (sepA lm :: lf)) : Mem S w0 w (lm ++ lf) := by
  obtain ⟨a1, a2⟩ := List.pairwise_cons.1 M.apart
  obtain ⟨h1, h2⟩ := M.holds _ List.mem_cons_self
  refine { M with holds := fun y hy => ?_, apart := ?_, off := fun y hy b hb => ?_ }
  · rcases List.mem_append.1 hy with hy | hy
    · exact h1 y hy
    · exact M.holds y (List.mem_cons_of_mem _ hy)
  · exact List.pairwise_append.2 ⟨h2, a2, fun x hx y hy b => ⟨fun ht hf => (a1 y hy b).1 ⟨x, hx, ht⟩ hf, fun ht hf => (a1 y hy b).2 ht ⟨x, hx, hf⟩⟩⟩
  · rcases List.mem_append.1 hy with hy | hy
    · exact M.off _ List.mem_cons_self b ⟨y, hy, hb⟩
    · exact M.off y (List.mem_cons_of_mem _ hy) b hb
/-- a packed entry, alone -/
theorem sepA_alone (h : (sepA lm).holds w) (ho : ∀ x ∈ lm, ∀ b, x.foot b → x.turn b) : Mem (Old w (sepA lm).turn) w w lm :=
  ⟨rfl, rfl, rfl, Nat.le_refl _, fun b hb => hb.1, fun _ _ => rfl, h.1, h.2, fun x hx b hb hs => hs.2 ⟨x, hx, ho x hx b hb⟩⟩
theorem Mem.at (M : Mem S w0 w l) {i : Nat} (h : l[i]? = some X) : X.holds w := M.holds _ (List.mem_of_getElem? h)
/-- what is apart from an entry stays when that one changes -/
theorem Mem.offOf (M : Mem S w0 w l) {i j : Nat} {y : Asn} (hi : l[i]? = some X) (hj : l[j]? = some y) (hne : i ≠ j) : ∀ b, y.foot b → Old w X.turn b := fun b hb => by
  refine ⟨y.live w (M.at hj) b hb, fun ht => ?_⟩
  have hpw := List.pairwise_iff_getElem.1 M.apart
  obtain ⟨hil, ei⟩ := List.getElem?_eq_some_iff.1 hi
  obtain ⟨hjl, ej⟩ := List.getElem?_eq_some_iff.1 hj
  rcases Nat.lt_or_gt_of_ne hne with h | h
  · have := hpw i j hil hjl h
    rw [ei, ej] at this
    exact (this b).1 ht hb
  · have := hpw j i hjl hil h
    rw [ei, ej] at this
    exact (this b).2 ht hb
theorem Mem.offS (M : Mem S w0 w l) {i : Nat} (hi : l[i]? = some X) : ∀ b, S b → Old w X.turn b := fun b hb =>
  ⟨Nat.lt_of_lt_of_le (M.inS b hb) M.size, fun ht => M.off _ (List.mem_of_getElem? hi) b (X.sub b ht) hb⟩
end
section
variable {P : Program} {n : Nat} {S : Nat → Prop} {w0 : World} {E : Env} {l : List Asn} {Q : Exit → Act → World → Prop} {ops : Array Oper} {rest : List Oper} {ty : TypeId} {pos : String} {af : Array Edge} {d : Nat} {X : Asn} {i : Nat} {ρ : Type} {f : FuncId} {as : List Operand} {vs : List Value} {ats : Array TypeId}
theorem Mem.swap {w w' : World} {Y : Asn} {N : List Asn} (M : Mem S w0 w l) (hl : l[i]? = some X) (M' : Mem (Old w X.turn) w w' (Y :: N)) : Mem S w0 w' (N ++ l.set i Y) := by
  obtain ⟨p1, p2⟩ := perm_set (y := Y) hl
  have h := Mem.frame (lm := [X]) (lf := l.eraseIdx i) (ms := X.turn) (M.perm p1) (fun b hb => ⟨X, List.mem_singleton.2 rfl, hb⟩) M'
  refine h.perm ?_
  have e : (Y :: N) ++ l.eraseIdx i = Y :: (N ++ l.eraseIdx i) := rfl
  rw [e]
  exact (List.perm_middle (l₁ := N)).symm.trans (List.Perm.append_left _ p2)
theorem st_callE (V : ρ → Value) (I : ρ → Prop) (Y : ρ → Asn) (N : ρ → List Asn) (hf : Callable P f) (hv : evs E as = some vs) (hl : l[i]? = some X)
    (C : ∀ w, Mem S w0 w l → Calls P f vs.toArray w fun e w' => ∃ r, e = .returned (V r) ∧ I r ∧ Mem (Old w X.turn) w w' (Y r :: N r)) (hd : d < n)
    (h : ∀ r, I r → St n S w0 (wpList P ops Q rest) ((d, V r) :: E) (N r ++ l.set i (Y r))) :
    St n S w0 (wpList P ops Q (⟨some d, .call { callee := .value (.func f), args := as.toArray, argTypes := ats }, ty, pos, af, none⟩ :: rest)) E l := fun tt w hA hM => by
  refine wpList_call rfl (run_call hA hf hv) ((C w hM).mono fun e w' he => ?_)
  obtain ⟨r, rfl, hI, hM'⟩ := he
  exact ⟨_, rfl, h r hI _ w' (hA.put hd _) (hM.swap hl hM')⟩
/-- the same through an interface -/
theorem st_invE {t : TypeId} {x : Operand} {v : Value} {nm : String} (V : ρ → Value) (I : ρ → Prop) (Y : ρ → Asn) (N : ρ → List Asn) (hm : MethodOf P t nm f) (hf : Callable P f) (hx : Env.ev E x = some (.iface t v)) (hv : evs E as = some vs) (hl : l[i]? = some X)
    (C : ∀ w, Mem S w0 w l → Calls P f (v :: vs).toArray w fun e w' => ∃ r, e = .returned (V r) ∧ I r ∧ Mem (Old w X.turn) w w' (Y r :: N r)) (hd : d < n)
    (h : ∀ r, I r → St n S w0 (wpList P ops Q rest) ((d, V r) :: E) (N r ++ l.set i (Y r))) :
    St n S w0 (wpList P ops Q (⟨some d, .call { callee := .invoke x nm, args := as.toArray, argTypes := ats }, ty, pos, af, none⟩ :: rest)) E l := fun tt w hA hM => by
  refine wpList_call rfl (run_invoke hA hm hf hx hv) ((C w hM).mono fun e w' he => ?_)
  obtain ⟨r, rfl, hI, hM'⟩ := he
  exact ⟨_, rfl, h r hI _ w' (hA.put hd _) (hM.swap hl hM')⟩
/-- a call through an interface that makes new memory alone -/
theorem st_inv1 {t : TypeId} {x : Operand} {v : Value} {nm : String} (V : ρ → Value) (I : ρ → Prop) (N : ρ → List Asn) (hm : MethodOf P t nm f) (hf : Callable P f) (hx : Env.ev E x = some (.iface t v)) (hv : evs E as = some vs)
    (C : ∀ w, Mem S w0 w l → Calls P f (v :: vs).toArray w fun e w' => ∃ r, e = .returned (V r) ∧ I r ∧ Mem (All w) w w' (N r)) (hd : d < n)
    (h : ∀ r, I r → St n S w0 (wpList P ops Q rest) ((d, V r) :: E) (N r ++ l)) :
    St n S w0 (wpList P ops Q (⟨some d, .call { callee := .invoke x nm, args := as.toArray, argTypes := ats }, ty, pos, af, none⟩ :: rest)) E l := fun tt w hA hM => by
  refine wpList_call rfl (run_invoke hA hm hf hx hv) ((C w hM).mono fun e w' he => ?_)
  obtain ⟨r, rfl, hI, hM'⟩ := he
  exact ⟨_, rfl, h r hI _ w' (hA.put hd _) (hM.call hM')⟩
end
/-! ### a slice of one's own, cut -/
theorem own_cut {u : Value} {T : TypeId} {n lo : Nat} {xs : List Value} {w : World} (h : (own u T 1 n xs).holds w) (hlo : lo ≤ n) : (own (vsub u lo n 1) T 1 (n - lo) (xs.drop lo)).holds w ∧ (∀ b, vfoot (vsub u lo n 1) b → vfoot u b) := by
  obtain ⟨hl, hor⟩ := h
  rcases hor with ⟨hu, h0⟩ | ⟨cs, fr, hu, hcap, hfit, hblk, hfz, hcell⟩
  · subst h0; subst hu
    have : lo = 0 := by omega
    subst this
    refine ⟨⟨by simp [hl], .inl ⟨?_, by omega⟩⟩, fun b hb => ?_⟩
    · simp [vsub]
    · simpa [vsub] using hb
  · generalize vblk u = b0 at *
    generalize voff u = o0 at *
    generalize vcap u = c0 at *
    subst hu
    by_cases hc : c0 = lo
    · subst hc
      have hn : n = c0 := by omega
      subst hn
      refine ⟨⟨by simp [hl], .inr ⟨cs, fr, ?_, ?_, ?_, ?_, hfz, fun j v hj => ?_⟩⟩, fun b hb => ?_⟩
      · simp [vsub, vblk, voff, vcap]
      · simp [vsub, vcap]
      · simp [vsub, vcap, voff]; omega
      · simpa [vsub, vblk] using hblk
      · have : xs.drop n = [] := List.drop_of_length_le (by omega)
        rw [this] at hj; simp at hj
      · simpa [vsub, vfoot] using hb
    · have e : vsub (sl b0 o0 n c0) lo n 1 = sl b0 (o0 + lo) (n - lo) (c0 - lo) := by
        simp [vsub, hc, Addr.add_lit]
      rw [e]
      refine ⟨⟨by simp [hl], .inr ⟨cs, fr, rfl, by simp only [vcap]; omega, by simp only [voff, vcap]; omega, hblk, hfz, fun j v hj => ?_⟩⟩, fun b hb => hb⟩
      rw [List.getElem?_drop] at hj
      simp only [voff]
      rw [show o0 + lo + j = o0 + (lo + j) by omega]
      exact hcell _ v hj
theorem Mem.ownCut {S : Nat → Prop} {w0 w : World} {l : List Asn} {i : Nat} {u : Value} {T : TypeId} {n lo : Nat} {xs : List Value} (M : Mem S w0 w l) (h : l[i]? = some (own u T 1 n xs)) (hlo : lo ≤ n) : Mem S w0 w (l.set i (own (vsub u lo n 1) T 1 (n - lo) (xs.drop lo))) := by
  obtain ⟨h1, h2⟩ := own_cut (M.holds _ (List.mem_of_getElem? h)) hlo
  exact M.replace h rfl rfl rfl (Nat.le_refl _) (fun _ _ _ => rfl) h1 (fun b hb => .inl (h2 b hb))
end Go.Proofs.YtjhjjhpfjadjpaaDoor
