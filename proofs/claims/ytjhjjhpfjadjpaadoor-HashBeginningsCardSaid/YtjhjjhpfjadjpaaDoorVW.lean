/- Helpers: the compiler's own functions of math/bits; calls that write a block and hand back a value; loads out of a table of structs. -/
import Derived.Test.YtjhjjhpfjadjpaaDoorVU
import Derived.Laws.Externs
import Derived.Shelf.Spec.BitsCarry
namespace Go.Proofs.YtjhjjhpfjadjpaaDoor
set_option linter.all false
open Go
theorem vfoot_cut {v : Value} {lo hi size b : Nat} (h : vfoot (vsub v lo hi size) b) : vfoot v b := by
  cases v with
  | slice a len cap =>
    cases a with
    | none => simp only [vsub] at h; split at h <;> exact h
    | some a =>
      simp only [vsub] at h
      split at h
      · exact h
      · have e : (a.add (lo * size)).block = a.block := by unfold Addr.add; split <;> rfl
        have h' : b = (a.add (lo * size)).block := h
        rw [e] at h'
        exact h'
  | _ => exact h
section
variable {P : Program} {n : Nat} {S : Nat → Prop} {w0 : World} {E E' : Env} {l l' : List Asn} {Q : Exit → Act → World → Prop} {K : Act → World → Prop} {ops : Array Oper} {rest : List Oper} {o : Oper}
  {dst : Option Tmp} {ty : TypeId} {pos : String} {af : Array Edge} {g : Option (Nat × Bool)} {v u : Value} {d : Nat} {op : Op} {x y : Operand} {t T e : TypeId} {i b off k : Nat} {cs cs' : Array Value}
/-- a call that the model answers at once -/
theorem rv_ext {f : FuncId} {aa : List Operand} {vs : List Value} {ats : Array TypeId} (hv : evs E aa = some vs) (hc : ∀ w, (callFunc f vs.toArray).run P w = .ok (.value v) w) :
    RunsV P n S w0 ⟨dst, .call { callee := .value (.func f), args := aa.toArray, argTypes := ats }, ty, pos, af, g⟩ E l v := fun tt w hA _ => by
  have h4 := evs_map hA aa hv
  simp [execOp, resolve, Act.eval, Deferred.ofValue, invoke, h4, hc w]
def adcS (x y c : BitVec 64) : BitVec 64 := x + y + c
def adcC (x y c : BitVec 64) : BitVec 64 := BitVec.ofNat 64 ((x.toNat + y.toNat + c.toNat) / 18446744073709551616)
def sbbS (x y c : BitVec 64) : BitVec 64 := x - y - c
def sbbC (x y c : BitVec 64) : BitVec 64 := BitVec.ofNat 64 (if x.toNat < y.toNat + c.toNat then 1 else 0)
theorem adcC_le (x y c : BitVec 64) (h : c.toNat ≤ 1) : (adcC x y c).toNat ≤ 1 := by
  rw [adcC, BitVec.toNat_ofNat]; have := x.isLt; have := y.isLt; omega
theorem sbbC_le (x y c : BitVec 64) : (sbbC x y c).toNat ≤ 1 := by
  rw [sbbC]; split <;> decide
/-- math/bits.Add64, math/bits.Sub64 by their numbers in this program -/
def Is25 (P : Program) (f : FuncId) : Prop := ∃ fn, P.funcs[f]? = some fn ∧ (fn.name == "runtime.NumGoroutine") = false ∧ fn.body.isNone = true ∧ Extern.findNext fn = none ∧ Extern.find fn = some add64Entry
def Is26 (P : Program) (f : FuncId) : Prop := ∃ fn, P.funcs[f]? = some fn ∧ (fn.name == "runtime.NumGoroutine") = false ∧ fn.body.isNone = true ∧ Extern.findNext fn = none ∧ Extern.find fn = some sub64Entry
theorem run_add (f : FuncId) (h : Is25 P f) (a c q : BitVec 64) (hq : q.toNat ≤ 1) (w : World) : (callFunc f #[U64 a, U64 c, U64 q]).run P w = .ok (.value (.tuple #[U64 (adcS a c q), U64 (adcC a c q)])) w := by
  obtain ⟨fn, h1, h2, h3, h4, h5⟩ := h
  rw [run_callFunc_extern h1 h2 h3 h4 h5]
  have := run_add64 (P := P) a.toNat c.toNat q.toNat (by omega) (by omega) (by omega) (by omega) w
  rw [this]
  simp only [Result.andThen]
  have e1 : (adcS a c q).toNat = (a.toNat + c.toNat + q.toNat) % 18446744073709551616 := by
    rw [adcS, BitVec.toNat_add, BitVec.toNat_add]; omega
  have e2 : (adcC a c q).toNat = (a.toNat + c.toNat + q.toNat) / 18446744073709551616 := by
    rw [adcC, BitVec.toNat_ofNat]; have := a.isLt; have := c.isLt; omega
  rw [U64, U64, e1, e2]
  congr 5 <;> omega
theorem run_sub (f : FuncId) (h : Is26 P f) (a c q : BitVec 64) (hq : q.toNat ≤ 1) (w : World) : (callFunc f #[U64 a, U64 c, U64 q]).run P w = .ok (.value (.tuple #[U64 (sbbS a c q), U64 (sbbC a c q)])) w := by
  obtain ⟨fn, h1, h2, h3, h4, h5⟩ := h
  rw [run_callFunc_extern h1 h2 h3 h4 h5]
  rw [run_sub64 (P := P) a.toNat c.toNat q.toNat hq w]
  simp only [Result.andThen]
  have e1 : (sbbS a c q).toNat = (a.toNat + 18446744073709551616 - c.toNat - q.toNat) % 18446744073709551616 := by
    rw [sbbS, BitVec.toNat_sub, BitVec.toNat_sub]; have := a.isLt; have := c.isLt; have := q.isLt; omega
  have e2 : (sbbC a c q).toNat = if a.toNat < c.toNat + q.toNat then 1 else 0 := by
    rw [sbbC]; split <;> rfl
  rw [U64, U64, e1, e2]
/-- a guard that was not reckoned itself -/
theorem st_gskipU {j s : Nat} {want : Bool} (hj : (ops[j]?).bind (·.dst) = some s) (hs : Env.get E s = some undef) (hd : d < n)
    (h : St n S w0 (wpList P ops Q rest) ((d, undef) :: E) l) : St n S w0 (wpList P ops Q (⟨some d, op, ty, pos, af, some (j, want)⟩ :: rest)) E l := fun t w hA hM => by
  refine wpList_skip ?_ (h _ _ (hA.put hd undef) hM)
  have h1 := hA.get s _ hs
  have hy : yielded ops t j = none := by simp [yielded, hj, h1, undef]
  simp [Region.wanted, hy]
/-- a call that writes a block, and hands back a value -/
theorem st_callB {f : FuncId} {aa : List Operand} {vs : List Value} {ats : Array TypeId} (hf : Callable P f) (hv : evs E aa = some vs) (hl : l[i]? = some (blk b cs T))
    (C : ∀ w, Mem S w0 w l → Calls P f vs.toArray w fun e w' => e = .returned v ∧ Mem (Old w (fun b' => b' = b)) w w' [blk b cs' T]) (hd : d < n) (hl' : l.set i (blk b cs' T) = l')
    (h : St n S w0 (wpList P ops Q rest) ((d, v) :: E) l') :
    St n S w0 (wpList P ops Q (⟨some d, .call { callee := .value (.func f), args := aa.toArray, argTypes := ats }, ty, pos, af, none⟩ :: rest)) E l := by
  subst hl'
  obtain ⟨p1, p2⟩ := perm_set (y := blk b cs' T) hl
  refine st_call (fun _ : Unit => v) (fun _ => True) (fun _ => [blk b cs' T]) (ms := fun _ b' => b' = b) (lm := [blk b cs T]) (lf := l.eraseIdx i) hf hv p1 (fun w hM => ⟨fun b' hb => ⟨_, List.mem_singleton.2 rfl, hb⟩, ?_⟩) hd fun _ _ => ?_
  · exact (C w hM).mono fun e w' he => ⟨(), he.1, trivial, he.2⟩
  · exact h.mem fun w hM => hM.perm p2
/-! ### stores within an open order -/
theorem dm_store {vs : List Value} (hx : Env.ev E x = some (pt b off)) (hy : Env.ev E y = some v) (hl : l[i]? = some (blk b cs T)) (hi : Sz P t vs.length) (hv : v.cells = vs.toArray) (hk : off + vs.length ≤ cs.size) (h1 : ∀ u ∈ vs, u.oneCell' = true) (hcs : spl cs off vs = cs')
    {l'' : Value → Value → List Asn} (hl' : ∀ v u, l.set i (blk b cs' T) = l'' v u) : DoesM P n S w0 ⟨none, .store t x y, ty, pos, af, g⟩ E l l'' := fun tt w F hA hM K Q hK => by
  have hlt : i < l.length := (List.getElem?_eq_some_iff.1 hl).1
  have hlF : (l ++ F)[i]? = some (blk b cs T) := by rw [List.getElem?_append_left hlt]; exact hl
  obtain ⟨w', hr, hM'⟩ := st_upd (ty := ty) (pos := pos) (af := af) (g := g) hA hM hlF hx hy hi hv hk h1
  have hr' : (execOp (Act.eval ⟨tt, []⟩) ⟨none, .store t x y, ty, pos, af, g⟩).run P w = .ok .skip w' := by
    have := hr; simpa [execOp] using this
  unfold Oper.wp
  rw [hr']
  refine hK undef undef _ ?_
  rw [← hl' undef undef, ← hcs, ← List.set_append_left _ _ hlt]
  exact hM'
theorem dm_store64 {q : List (BitVec 64)} {a : BitVec 64} (hx : Env.ev E x = some (pt b off)) (hy : Env.ev E y = some (U64 a)) (hl : l[i]? = some (blk b (c64 q) T)) (hi : Sz P t 1) (hk : off < q.length)
    {l'' : Value → Value → List Asn} (hl' : ∀ v u, l.set i (blk b (c64 (q.set off a)) T) = l'' v u) : DoesM P n S w0 ⟨none, .store t x y, ty, pos, af, g⟩ E l l'' :=
  dm_store (vs := [U64 a]) hx hy hl hi rfl (by simp; omega) (one1 rfl) (set64 q off a) hl'
theorem dm_storeW64 {q r : List (BitVec 64)} (hx : Env.ev E x = some (pt b 0)) (hy : Env.ev E y = some (.agg (c64 r))) (hl : l[i]? = some (blk b (c64 q) T)) (hi : Sz P t k) (hk : r.length = k) (hkq : q.length = k)
    {l'' : Value → Value → List Asn} (hl' : ∀ v u, l.set i (blk b (c64 r) T) = l'' v u) : DoesM P n S w0 ⟨none, .store t x y, ty, pos, af, g⟩ E l l'' :=
  dm_store (vs := r.map U64) hx hy hl (by rw [List.length_map, hk]; exact hi) rfl (by simp; omega) (one64 r) (by rw [spl64 (by omega), over_all (by omega)]) hl'
theorem dm_storeV {vs : List Value} (hx : Env.ev E x = some u) (hy : Env.ev E y = some v) (hl : l[i]? = some (blkV cs T u)) (hi : Sz P t vs.length) (hv : v.cells = vs.toArray) (hk : vs.length = cs.size) (h1 : ∀ u ∈ vs, u.oneCell' = true) (hcs : spl cs 0 vs = cs')
    {l'' : Value → Value → List Asn} (hl' : ∀ v' u', l.set i (blkV cs' T u) = l'' v' u') : DoesM P n S w0 ⟨none, .store t x y, ty, pos, af, g⟩ E l l'' := fun tt w F hA hM K Q hK => by
  have hlt : i < l.length := (List.getElem?_eq_some_iff.1 hl).1
  have hlF : (l ++ F)[i]? = some (blkV cs T u) := by rw [List.getElem?_append_left hlt]; exact hl
  obtain ⟨b, rfl, hb⟩ := hM.holds _ (List.mem_of_getElem? hlF)
  have hM1 : Mem S w0 w ((l ++ F).set i (blk b cs T)) := hM.replace hlF rfl rfl rfl (Nat.le_refl _) (fun _ _ _ => rfl) hb fun b' hb' => .inl (by obtain rfl : b' = b := hb'; rfl)
  have hl1 : ((l ++ F).set i (blk b cs T))[i]? = some (blk b cs T) := List.getElem?_set_self (by rw [List.length_append]; omega)
  obtain ⟨w', hr, hM'⟩ := st_upd (ty := ty) (pos := pos) (af := af) (g := g) hA hM1 hl1 hx hy hi hv (by omega) h1
  have hr' : (execOp (Act.eval ⟨tt, []⟩) ⟨none, .store t x y, ty, pos, af, g⟩).run P w = .ok .skip w' := by
    have := hr; simpa [execOp] using this
  unfold Oper.wp
  rw [hr']
  refine hK undef undef _ ?_
  rw [List.set_set] at hM'
  have hl2 : ((l ++ F).set i (blk b (spl cs 0 vs) T))[i]? = some (blk b (spl cs 0 vs) T) := List.getElem?_set_self (by rw [List.length_append]; omega)
  have hb2 := hM'.holds _ (List.mem_of_getElem? hl2)
  have hM2 := hM'.replace (y := blkV (spl cs 0 vs) T (pt b 0)) hl2 rfl rfl rfl (Nat.le_refl _) (fun _ _ _ => rfl) ⟨b, rfl, hb2⟩ fun b' hb' => .inl (by
    have hb' : pt b 0 = pt b' 0 := hb'
    simp only [Value.pointer.injEq, Option.some.injEq, Addr.mk.injEq] at hb'
    exact hb'.1.symm)
  rw [List.set_set] at hM2
  rw [← hl' undef undef, ← hcs, ← List.set_append_left _ _ hlt]
  exact hM2
theorem dm_storeV64 {q r : List (BitVec 64)} (hx : Env.ev E x = some u) (hy : Env.ev E y = some (.agg (c64 r))) (hl : l[i]? = some (blkV (c64 q) T u)) (hi : Sz P t k) (hk : r.length = k) (hkq : q.length = k)
    {l'' : Value → Value → List Asn} (hl' : ∀ v' u', l.set i (blkV (c64 r) T u) = l'' v' u') : DoesM P n S w0 ⟨none, .store t x y, ty, pos, af, g⟩ E l l'' :=
  dm_storeV (vs := r.map U64) hx hy hl (by rw [List.length_map, hk]; exact hi) rfl (by simp; omega) (one64 r) (by rw [spl64 (by omega), over_all (by omega)]) hl'
theorem dm_storeOwnV {u : Value} {nn k : Nat} {xs : List Value} (hx : Env.ev E x = some (pt (vblk u) (voff u + k))) (hy : Env.ev E y = some v) (hl : l[i]? = some (own u T 1 nn xs)) (hi : Sz P t 1) (hk : k < xs.length) (h1 : v.oneCell' = true) (hv : v.cells = #[v])
    {l'' : Value → Value → List Asn} (hl' : ∀ v' u', l.set i (own u T 1 nn (xs.set k v)) = l'' v' u') : DoesM P n S w0 ⟨none, .store t x y, ty, pos, af, g⟩ E l l'' := fun tt w F hA hM K Q hK => by
  have hlt : i < l.length := (List.getElem?_eq_some_iff.1 hl).1
  have hlF : (l ++ F)[i]? = some (own u T 1 nn xs) := by rw [List.getElem?_append_left hlt]; exact hl
  have ho := hM.holds _ (List.mem_of_getElem? hlF)
  obtain ⟨hlen, hor⟩ := ho
  rcases hor with ⟨_, h0⟩ | ⟨cs, fr, hu, hcap, hfit, hblk, hfz, hcell⟩
  · rw [h0] at hlen; omega
  · have hkc : voff u + k < cs.size := by omega
    obtain ⟨w', hr, U⟩ := run_storeA (P := P) (w := w) (ty := t) (off := voff u + k) (vs := [v]) (v := v) hi hv hblk hfz (by simp; omega) (one1 h1)
    have hr' : (execOp (Act.eval ⟨tt, []⟩) ⟨none, .store t x y, ty, pos, af, g⟩).run P w = .ok .skip w' := by simp [execOp, hA.ev hx, hA.ev hy, Instr.storeAt, Instr.sureAddr, hr]
    unfold Oper.wp
    rw [hr']
    refine hK undef undef _ ?_
    rw [← hl' undef undef, ← List.set_append_left _ _ hlt]
    refine hM.replace hlF U.os U.tape U.output (by rw [U.size]; exact Nat.le_refl _) (fun b _ hb => U.old b (fun e => hb (by rw [hu, e]; rfl))) ⟨by simpa using hlen, .inr ?_⟩ (fun b hb => .inl hb)
    obtain ⟨fr', h2, h3⟩ := U.new
    refine ⟨_, fr', hu, hcap, by rw [size_spl]; exact hfit, h2, h3, fun j uu hj => ?_⟩
    rw [get_spl]
    by_cases hjk : j = k
    · subst hjk
      rw [if_pos (by simp; omega)]
      rw [List.getElem?_set_self hk] at hj
      simpa using hj
    · rw [if_neg (by simp; omega)]
      rw [List.getElem?_set_ne (Ne.symm hjk)] at hj
      exact hcell j uu hj

theorem dm_storeOwn8 {u : Value} {nn k : Nat} {q : List (BitVec 8)} {a : BitVec 8} (hx : Env.ev E x = some (pt (vblk u) (voff u + k))) (hy : Env.ev E y = some (U8 a)) (hl : l[i]? = some (own u T 1 nn (q.map U8))) (hi : Sz P t 1) (hk : k < q.length)
    {l'' : Value → Value → List Asn} (hl' : ∀ v' u', l.set i (own u T 1 nn ((q.set k a).map U8)) = l'' v' u') : DoesM P n S w0 ⟨none, .store t x y, ty, pos, af, g⟩ E l l'' :=
  dm_storeOwnV hx hy hl hi (by simpa using hk) rfl rfl (by rw [List.map_set] at hl'; exact hl')
/-- a slice that has elements is not nil -/
theorem rv_eqlNilR {u : Value} {nn size : Nat} {xs : List Value} {xt yt : TypeId} (hr : ∀ w, Mem S w0 w l → Rd w u nn size xs) (hn : 0 < nn) (h : P.underlying xt = some (.slice e)) (hx : Env.ev E x = some u) (hy : Env.ev E y = some (.slice none 0 0)) : RunsV P n S w0 ⟨dst, .binOp .eql xt x y yt, ty, pos, af, g⟩ E l (.bool false) := fun tt w hA hM => by
  rcases (hr w hM).shape with ⟨_, h0⟩ | h1
  · omega
  · rw [h1] at hx
    exact rv_eqlNil (P := P) (n := n) (S := S) (w0 := w0) (dst := dst) (ty := ty) (pos := pos) (af := af) (g := g) (l := l) h hx hy tt w hA hM
/-! ### leaving with a variable's value and another value -/
theorem st_doneCT {fn : Func} {R : Ending → World → Prop} {r s : Tmp} (ht : TyA P t k) (hr : fn.results = #[.cell r t, .tmp s]) (hv : Env.get E r = some (pt b 0)) (hl : l[i]? = some (blk b cs T)) (hk : cs.size = k) (hu : Env.get E s = some u)
    (h : ∀ w, Mem S w0 w l → R (.returned (.tuple #[.agg cs, u])) w) : St n S w0 (bodyPost P fn R .ret) E l := fun tt w hA hM => by
  obtain ⟨fr, hb, _⟩ := hM.blkAt hl
  have h1 := hA.get r _ hv
  have h4 := hA.get s _ hu
  refine bodyPost_ret (v := .tuple #[.agg cs, u]) ?_ rfl (h w hM)
  have h2 := run_loadA (P := P) (w := w) (off := 0) ht hb (by omega)
  have h3 : cs.extract 0 (0 + k) = cs := by subst hk; simp
  rw [h3] at h2
  simp [results, hr, h1, h4, asAddr, h2]
end
/-! ### a store into a block that is made within the same open order -/
section
variable {P : Program} {n : Nat} {S : Nat → Prop} {w0 : World} {E0 : Env} {L : List Oper} {SI : List Nat} {GL : List (Nat → Value → Asn)} {ls : Nat → (Nat → Value) → List Asn} {M N : Nat} {ms : List Nat} {o : Oper}
/-- a new block, till phase k and behind it -/
abbrev kAl (k : Nat) (z s : Array Value) (T : TypeId) (p : Nat) (v : Value) : Asn := blkV (bif Nat.ble p k then z else s) T v
def PFreeC (k c : Nat) : Nat → List (Nat → Value → Asn) → Prop
  | _, [] => True
  | i, G :: r => (Nat.beq i c = true ∨ ∀ v, G k v = G (k + 1) v) ∧ PFreeC k c (i + 1) r
theorem PFreeC.get {k c : Nat} : ∀ {GL : List (Nat → Value → Asn)} {i : Nat}, PFreeC k c i GL → ∀ (j : Nat) (G : Nat → Value → Asn) (v : Value), GL[j]? = some G → i + j ≠ c → G k v = G (k + 1) v
  | [], _, _, j, G, v, h, _ => by simp at h
  | _ :: r, i, ⟨h1, h2⟩, 0, G, v, h, hc => by
    simp at h; subst h
    rcases h1 with h1 | h1
    · exact absurd (Nat.eq_of_beq_eq_true h1) hc
    · exact h1 v
  | _ :: r, i, ⟨h1, h2⟩, j + 1, G, v, h, hc => PFreeC.get h2 j G v (by simpa using h) (by omega)
theorem facs_single {c p : Nat} {G : Nat → Value → Asn} {vals : Nat → Value} (hG : GL[c]? = some G) (hs : SI.contains c = false) : ∀ k, facs GL SI p (fun j => j == c) vals k = if c < k then [G p (vals c)] else []
  | 0 => by simp [facs]
  | k + 1 => by
    simp only [facs]
    rw [facs_single hG hs k]
    by_cases h : k = c
    · subst h
      have h1 : ¬ k < k := by omega
      simp only [beq_self_eq_true, hs, Bool.not_false, Bool.and_self, if_true, fac1_some hG, if_neg h1, List.nil_append]
      rw [if_pos (by omega)]
    · have hb : (k == c) = false := by simpa using h
      simp only [hb, Bool.false_and, Bool.false_eq_true, if_false, List.append_nil]
      by_cases h2 : c < k
      · rw [if_pos h2, if_pos (by omega)]
      · rw [if_neg h2, if_neg (by omega)]
theorem hop_memC {i : Nat} (c s : Nat) (G : Nat → Value → Asn) (js : List (Nat × Nat × Value)) (ys : List (Nat × Nat)) (hs : SI.contains i = true) (hlo : lo SI ms i = hi' SI ms i) (hg : o.guard = none) (hdn : ∀ d, o.dst = some d → d < n)
    (hc : (prd o c && (decide (M ≤ c) && decide (c < N)) && !SI.contains c) = true) (hcd : (L[c]?).bind (·.dst) = some s) (hG : GL[c]? = some G)
    (hGc : PFreeC (lo SI ms i) c 0 GL) (hj : JAll L SI GL (fun j => prd o j) M N js) (hy : YAll L (fun j => prd o j) M N ys)
    (h : ∀ vals : Nat → Value, DoesM P n S w0 o (yenv vals ys ++ ((s, vals c) :: (jenv js ++ E0))) (G (lo SI ms i) (vals c) :: ls (lo SI ms i) vals) (fun v u => G (lo SI ms i + 1) (vals c) :: ls (lo SI ms i + 1) (fun j => if j = i then v else if j = i + 1000 then u else vals j))) :
    HOp P n S w0 L SI GL ls E0 M N ms i o := by
  simp only [Bool.and_eq_true, Bool.not_eq_true', decide_eq_true_eq] at hc
  obtain ⟨⟨hc1, hc2, hc3⟩, hc4⟩ := hc
  unfold HOp
  rw [hs, if_pos rfl]
  refine ⟨hlo, hg, hdn, fun j G' v h1 _ h3 => hGc.get j G' v h1 (by
    rw [Nat.zero_add]
    rintro rfl
    rw [hc1] at h3; cases h3), fun t w vals F hA hslot hM K Q hK => ?_⟩
  have hM1 : Mem S w0 w (ls (lo SI ms i) vals ++ facs GL SI (lo SI ms i) (fun j => prd o j) vals N) := hM.sublist (List.Sublist.append (List.Sublist.refl _) (List.sublist_append_left _ _))
  have hsp : ∀ p, (facs GL SI p (fun j => prd o j) vals N).Perm ([G p (vals c)] ++ facs GL SI p (fun j => prd o j && !(j == c)) vals N) := fun p => by
    have h1 := facs_split (GL := GL) (SI := SI) (p := p) (vals := vals) (D := fun j => prd o j) (A := fun j => j == c) N (fun j _ hj => by
      have : j = c := by simpa using hj
      subst this; exact hc1)
    rw [facs_single hG hc4, if_pos hc3] at h1
    exact h1
  have e1 : facs GL SI (lo SI ms i) (fun j => prd o j && !(j == c)) vals N = facs GL SI (lo SI ms i + 1) (fun j => prd o j && !(j == c)) vals N := facs_phase (fun j G' v h1 _ h3 => hGc.get j G' v h1 (by
    rw [Nat.zero_add]
    rintro rfl
    simp at h3)) N
  have hAg : Ag n t (yenv vals ys ++ ((s, vals c) :: (jenv js ++ E0))) := by
    refine agy_of hslot ?_ ys hy
    refine (ag_of hA hslot hM1 js hj).ext ?_
    cases hL : L[c]? with
    | none => simp [hL] at hcd
    | some oj =>
      simp only [hL, Option.bind_some] at hcd
      exact hslot c oj s hc2 hc3 hc1 hL hcd
  have p1 : ∀ (a r F : List Asn) (x : Asn), (a ++ (([x] ++ r) ++ F)).Perm ((x :: a) ++ (r ++ F)) := fun a r F x => by
    have := perm_abrf a [x] r F
    exact this
  refine h vals t w (facs GL SI (lo SI ms i) (fun j => prd o j && !(j == c)) vals N ++ F) hAg (hM.perm ?_) K Q fun v u w' hM' => hK v u w' (hM'.perm ?_)
  · exact ((List.Perm.append_left (ls (lo SI ms i) vals) ((hsp _).append_right F))).trans (p1 _ _ _ _)
  · rw [e1]
    exact (p1 _ _ _ _).symm.trans (List.Perm.append_left _ ((hsp _).symm.append_right F))
end
end Go.Proofs.YtjhjjhpfjadjpaaDoor
