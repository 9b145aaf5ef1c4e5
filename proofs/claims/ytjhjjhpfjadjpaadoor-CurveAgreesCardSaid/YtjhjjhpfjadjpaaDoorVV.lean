/- Helpers: a value that holds one number of its own, known by that value. -/
import Derived.Test.YtjhjjhpfjadjpaaDoorVY
namespace Go.Proofs.YtjhjjhpfjadjpaaDoor
set_option linter.all false
open Go
/-- a struct of one slice of one's own -/
def fA (T : TypeId) (n : Nat) (xs : List Value) (v : Value) : Asn where
  holds w := ∃ r, v = .agg #[r] ∧ (own r T 1 n xs).holds w
  foot b := ∃ r, v = .agg #[r] ∧ vfoot r b
  turn b := ∃ r, v = .agg #[r] ∧ vfoot r b
  keep w w' h hr := by
    obtain ⟨r, hv, hr⟩ := hr
    exact ⟨r, hv, (own r T 1 n xs).keep w w' (fun b hb => h b ⟨r, hv, hb⟩) hr⟩
  live w hr b hb := by
    obtain ⟨r, hv, hr⟩ := hr
    obtain ⟨r', hv', hb⟩ := hb
    rw [hv] at hv'
    cases hv'
    exact (own r T 1 n xs).live w hr b hb
  sub _ h := h
section
variable {P : Program} {n : Nat} {S : Nat → Prop} {w0 w : World} {E : Env} {l : List Asn} {K : Act → World → Prop} {T : TypeId} {m i : Nat} {xs : List Value} {v r : Value}
theorem Mem.toF (M : Mem S w0 w l) (h : l[i]? = some (own r T 1 m xs)) : Mem S w0 w (l.set i (fA T m xs (.agg #[r]))) :=
  M.replace h rfl rfl rfl (Nat.le_refl _) (fun _ _ _ => rfl) ⟨r, rfl, M.holds _ (List.mem_of_getElem? h)⟩ fun b hb => .inl (by
    obtain ⟨r', hv, hb⟩ := hb
    cases hv
    exact hb)
theorem asF {P : Program} {f : FuncId} {args : Array Value} {w : World} (h : Calls P f args w (fun e w' => ∃ r, e = .returned (.agg #[r]) ∧ Mem (All w) w w' [own r T 1 m xs])) : Calls P f args w (fun e w' => ∃ v, e = .returned v ∧ Mem (All w) w w' [fA T m xs v]) :=
  h.mono fun e w' ⟨r, h1, h2⟩ => ⟨_, h1, h2.toF (i := 0) rfl⟩
theorem st_openF (hl : l[i]? = some (fA T m xs v)) (h : ∀ r, v = .agg #[r] → St n S w0 K E (l.set i (own r T 1 m xs))) : St n S w0 K E l := fun t w hA hM => by
  obtain ⟨r, hv, hr⟩ := hM.holds _ (List.mem_of_getElem? hl)
  refine h r hv t w hA (hM.replace hl rfl rfl rfl (Nat.le_refl _) (fun _ _ _ => rfl) hr fun b hb => .inl ⟨r, hv, hb⟩)
end
end Go.Proofs.YtjhjjhpfjadjpaaDoor
