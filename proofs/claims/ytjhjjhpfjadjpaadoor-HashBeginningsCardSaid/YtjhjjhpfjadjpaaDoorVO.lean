/- Helpers: loops, and ways that meet, by what changes alone. -/
import Derived.Test.YtjhjjhpfjadjpaaDoorVN
namespace Go.Proofs.YtjhjjhpfjadjpaaDoor
set_option linter.all false
open Go
/-- what does not change -/
abbrev kst {σ α : Type} (a : α) : σ → α := fun _ => a
section
variable {P : Program} {n : Nat} {S : Nat → Prop} {w0 : World} {E : Env} {l : List Asn} {Q : Exit → Act → World → Prop}
theorem st_loopA {σ : Type} (es : List (Nat × (σ → Value))) (ms : List (σ → Asn)) (I : σ → Prop) (m : σ → Nat) (s0 : σ) {c : Code} (h0 : I s0) (hE : SubE (es.map fun e => (e.1, e.2 s0)) E) (hl : ∀ w, Mem S w0 w l → Mem S w0 w (ms.map fun f => f s0))
    (round : ∀ s, I s → St n S w0 (c.wp P (Exit.then (fun a w => ∃ s' t, I s' ∧ m s' < m s ∧ a = ⟨t, []⟩ ∧ Ag n t (es.map fun e => (e.1, e.2 s')) ∧ Mem S w0 w (ms.map fun f => f s')) Q)) (es.map fun e => (e.1, e.2 s)) (ms.map fun f => f s)) :
    St n S w0 ((Code.loop c).wp P Q) E l := st_loop (fun s => es.map fun e => (e.1, e.2 s)) (fun s => ms.map fun f => f s) I m s0 h0 hE hl round
theorem st_cutB {σ : Type} (fe : List (Nat × Value)) (fm : List Asn) (_hE : SubE fe E) (_hm : ∀ w, Mem S w0 w l → Mem S w0 w fm) (es : List (Nat × (σ → Value))) (ms : List (σ → Asn)) (I : σ → Prop) {x y : Code}
    (hx : St n S w0 (x.wp P (Exit.then (fun a w => ∃ s t, I s ∧ a = ⟨t, []⟩ ∧ Ag n t ((es.map fun e => (e.1, e.2 s)) ++ fe) ∧ Mem S w0 w ((ms.map fun f => f s) ++ fm)) Q)) E l)
    (hy : ∀ s, I s → St n S w0 (y.wp P Q) ((es.map fun e => (e.1, e.2 s)) ++ fe) ((ms.map fun f => f s) ++ fm)) : St n S w0 ((Code.seq x y).wp P Q) E l := st_cut (fun s => (es.map fun e => (e.1, e.2 s)) ++ fe) (fun s => (ms.map fun f => f s) ++ fm) I hx hy
theorem st_cutA {σ : Type} (es : List (Nat × (σ → Value))) (ms : List (σ → Asn)) (I : σ → Prop) {x y : Code}
    (hx : St n S w0 (x.wp P (Exit.then (fun a w => ∃ s t, I s ∧ a = ⟨t, []⟩ ∧ Ag n t (es.map fun e => (e.1, e.2 s)) ∧ Mem S w0 w (ms.map fun f => f s)) Q)) E l)
    (hy : ∀ s, I s → St n S w0 (y.wp P Q) (es.map fun e => (e.1, e.2 s)) (ms.map fun f => f s)) : St n S w0 ((Code.seq x y).wp P Q) E l := st_cut _ _ I hx hy
end
end Go.Proofs.YtjhjjhpfjadjpaaDoor
