/- What the rows' list of package-level tables gives: the table of moduli, in memory. -/
import Derived.Test.YtjhjjhpfjadjpaaDoorCB
import Derived.Test.YtjhjjhpfjadjpaaDoorCards
import Derived.Test.YtjhjjhpfjadjpaaDoorTie
import Derived.WalkKit
import Derived.ProofKit
import Derived.OpenShut
import Derived.Deep.DeepHandedRow
import Derived.Lib.LaidTab
import Derived.Stop.LaidErr
namespace Go.Proofs.YtjhjjhpfjadjpaaDoor
set_option linter.all false
open Go Go.ChangeShapes Go.WideShapes Go.ChangeAt Go.RowKit
theorem ownNone : ownKnob Tryd.prog.godebug = none := by kernel_rfl
theorem gMod : Tryd.prog.globalNamed "securelink/mont.moduli" = some 4 := by kernel_rfl
theorem gModT : (Tryd.prog.globals[4]?).map (·.type) = some 174 := by kernel_rfl
theorem mdU : Tryd.prog.underlying 174 = some (.array 4 142) := by kernel_rfl
theorem mdS : Tryd.prog.underlying 142 = some (.struct #[{ name := "M", type := 79, offset := 0, embedded := false, tag := "", pkgPath := "", byteOffset := 0 }, { name := "neg", type := 77, offset := 4, embedded := false, tag := "", pkgPath := "securelink/mont", byteOffset := 32 }, { name := "one", type := 79, offset := 5, embedded := false, tag := "", pkgPath := "securelink/mont", byteOffset := 40 }, { name := "sq", type := 79, offset := 9, embedded := false, tag := "", pkgPath := "securelink/mont", byteOffset := 72 }]) := by kernel_rfl
theorem mdA : Tryd.prog.underlying 79 = some (.array 4 77) := by kernel_rfl
theorem md64 : Tryd.prog.underlying 77 = some (.int .u64) := by kernel_rfl
theorem mdcU : Tryd.prog.cellsOf 174 = 52 := by kernel_rfl
theorem mdcS : Tryd.prog.cellsOf 142 = 13 := by kernel_rfl
theorem mdcA : Tryd.prog.cellsOf 79 = 4 := by kernel_rfl
theorem mdc64 : Tryd.prog.cellsOf 77 = 1 := by kernel_rfl
def zW (l : List (BitVec 64)) : List Int := l.map fun b => (b.toNat : Int)
def modD (l : List (BitVec 64)) : DataW Unit := .agg [Lib.tabData .u64 (zW (l.take 4)), .lit (.int .u64 ((l.getD 4 0#64).toNat : Int)), Lib.tabData .u64 (zW ((l.drop 5).take 4)), Lib.tabData .u64 (zW ((l.drop 9).take 4))]
def laidC : List (String × DataW Unit) := [("securelink/mont.moduli", .agg [modD (modsW.take 13), modD ((modsW.drop 13).take 13), modD ((modsW.drop 26).take 13), modD ((modsW.drop 39).take 13)])]
theorem laidAgrees : Rows.curveAgreesRow.laid = laidC := by kernel_rfl
theorem laidMeets : Rows.curveMeetsRow.laid = laidC := by kernel_rfl
theorem laidPoints : Rows.curvePointsRow.laid = laidC := by kernel_rfl
theorem zW_vals (l : List (BitVec 64)) : (zW l).map (fun z => Value.int .u64 z) = l.map U64 := by
  simp [zW, U64]
theorem cells_of_mod {enc : TypeId × Value → Unit} {w : World} {base : Nat} {sp : Nat → Bool} {held : Bool} {fuel : Nat} {cs : List Value} {l : List (BitVec 64)} {p : List MemPlace} (hl : l.length = 13)
    (h : DataW.trod enc Tryd.prog w base sp held fuel 142 cs = some (modD l, p)) : cs = l.map U64 := by
  obtain ⟨xs, n, rfl, hx, hcl, hxl, hf⟩ := DataW.trod_struct mdS h
  rw [mdcS] at hcl
  have hx1 := congrArg Prod.fst hx
  simp only [modD, DataW.agg.injEq] at hx1
  obtain ⟨x0, xs, rfl⟩ : ∃ a b, xs = a :: b := by cases xs with | nil => simp at hxl | cons a b => exact ⟨a, b, rfl⟩
  obtain ⟨x1, xs, rfl⟩ : ∃ a b, xs = a :: b := by cases xs with | nil => simp at hxl | cons a b => exact ⟨a, b, rfl⟩
  obtain ⟨x2, xs, rfl⟩ : ∃ a b, xs = a :: b := by cases xs with | nil => simp at hxl | cons a b => exact ⟨a, b, rfl⟩
  obtain ⟨x3, xs, rfl⟩ : ∃ a b, xs = a :: b := by cases xs with | nil => simp at hxl | cons a b => exact ⟨a, b, rfl⟩
  obtain ⟨d0, p0⟩ := x0
  obtain ⟨d1, p1⟩ := x1
  obtain ⟨d2, p2⟩ := x2
  obtain ⟨d3, p3⟩ := x3
  simp only [List.map_cons, List.cons.injEq] at hx1
  obtain ⟨rfl, rfl, rfl, rfl, _⟩ := hx1
  have h0 := hf 0 { name := "M", type := 79, offset := 0, embedded := false, tag := "", pkgPath := "", byteOffset := 0 } rfl
  have h1 := hf 1 { name := "neg", type := 77, offset := 4, embedded := false, tag := "", pkgPath := "securelink/mont", byteOffset := 32 } rfl
  have h2 := hf 2 { name := "one", type := 79, offset := 5, embedded := false, tag := "", pkgPath := "securelink/mont", byteOffset := 40 } rfl
  have h3 := hf 3 { name := "sq", type := 79, offset := 9, embedded := false, tag := "", pkgPath := "securelink/mont", byteOffset := 72 } rfl
  simp only [List.getElem?_cons_zero, List.getElem?_cons_succ, mdcA, mdc64] at h0 h1 h2 h3
  have e0 := Lib.cells_of_tab mdA md64 mdc64 mdcA h0
  obtain ⟨z, e1, hz, _⟩ := DataW.trod_int md64 h1
  have e2 := Lib.cells_of_tab mdA md64 mdc64 mdcA h2
  have e3 := Lib.cells_of_tab mdA md64 mdc64 mdcA h3
  simp only [Prod.mk.injEq, DataW.lit.injEq, Lit.int.injEq, true_and] at hz
  rw [← hz.1] at e1
  rw [zW_vals] at e0 e2 e3
  have hsplit : ∀ {α : Type} (c : List α), c.length = 13 → c = c.take 4 ++ ((c.drop 4).take 1 ++ ((c.drop 5).take 4 ++ (c.drop 9).take 4)) := fun c hc => by
    match c, hc with
    | [_, _, _, _, _, _, _, _, _, _, _, _, _], _ => rfl
  rw [hsplit cs hcl, hsplit (l.map U64) (by simp [hl])]
  simp only [List.drop_zero] at e0
  rw [e0, e1, e2, e3]
  match l, hl with
  | [_, _, _, _, _, _, _, _, _, _, _, _, _], _ => rfl
theorem cells_of_mods {enc : TypeId × Value → Unit} {w : World} {base : Nat} {sp : Nat → Bool} {held : Bool} {fuel : Nat} {cs : List Value} {ls : List (List (BitVec 64))} {p : List MemPlace} (hl : ∀ l ∈ ls, l.length = 13) (hn : ls.length = 4)
    (h : DataW.trod enc Tryd.prog w base sp held fuel 174 cs = some (.agg (ls.map modD), p)) : cs = (ls.flatten).map U64 := by
  cases fuel with
  | zero => simp [DataW.trod] at h
  | succ fuel =>
    simp only [DataW.trod, mdU, mdcU, mdcS] at h
    split at h
    · rename_i hcl
      obtain ⟨xs, hm, hx⟩ := Option.map_eq_some_iff.1 h
      have hx1 := congrArg Prod.fst hx
      simp only [DataW.agg.injEq] at hx1
      have at_ : ∀ i, i < 4 → ∀ l, ls[i]? = some l → (cs.drop (i * 13)).take 13 = l.map U64 := fun i hi l hli => by
        obtain ⟨b, hb, hf⟩ := Lib.mapM_at hm i i (by simp [hi])
        have : (xs.map (·.1))[i]? = some (modD l) := by rw [hx1]; simp [hli]
        simp only [List.getElem?_map, hb, Option.map_some, Option.some.injEq] at this
        obtain ⟨b1, b2⟩ := b
        simp only at this
        subst this
        exact cells_of_mod (hl l (List.mem_of_getElem? hli)) hf
      obtain ⟨l0, l1, l2, l3, rfl⟩ : ∃ l0 l1 l2 l3, ls = [l0, l1, l2, l3] := by
        match ls, hn with
        | [l0, l1, l2, l3], _ => exact ⟨_, _, _, _, rfl⟩
      · clear hn
        have a0 := at_ 0 (by omega) l0 rfl
        have a1 := at_ 1 (by omega) l1 rfl
        have a2 := at_ 2 (by omega) l2 rfl
        have a3 := at_ 3 (by omega) l3 rfl
        have e : ∀ {α : Type} (c : List α), c.length = 52 → c = (c.drop (0 * 13)).take 13 ++ ((c.drop (1 * 13)).take 13 ++ ((c.drop (2 * 13)).take 13 ++ (c.drop (3 * 13)).take 13)) := fun c hc => by
          have h1 := (List.take_append_drop 13 c).symm
          have h2 := (List.take_append_drop 13 (c.drop 13)).symm
          have h3 := (List.take_append_drop 13 (c.drop 26)).symm
          simp only [List.drop_drop] at h2 h3
          have h4 : (c.drop 39).take 13 = c.drop 39 := List.take_of_length_le (by simp; omega)
          simp only [Nat.zero_mul, Nat.one_mul, Nat.reduceMul, List.drop_zero]
          rw [h4]
          rw [← h3, ← h2]
          exact h1
        rw [e cs hcl, a0, a1, a2, a3]
        simp
    · cases h
theorem modsSplit : [modsW.take 13, (modsW.drop 13).take 13, (modsW.drop 26).take 13, (modsW.drop 39).take 13].flatten = modsW := by
  have e : ∀ {α : Type} (c : List α), c.length = 52 → [c.take 13, (c.drop 13).take 13, (c.drop 26).take 13, (c.drop 39).take 13].flatten = c := fun c hc => by
    have h1 := (List.take_append_drop 13 c).symm
    have h2 := (List.take_append_drop 13 (c.drop 13)).symm
    have h3 := (List.take_append_drop 13 (c.drop 26)).symm
    simp only [List.drop_drop] at h2 h3
    have h4 : (c.drop 39).take 13 = c.drop 39 := List.take_of_length_le (by simp; omega)
    simp only [List.flatten_cons, List.flatten_nil, List.append_nil]
    rw [h4]
    rw [← h3, ← h2]
    exact h1.symm
  exact e _ length_modsW
theorem tabC {W : World} (h : laidMetH Tryd.prog laidC W) : LaidM W := by
  have h' : laidMet Tryd.prog laidC W := h
  obtain ⟨ps, ⟨g, t, cs, fuel, p, q, hg, ht, hvar, hd, _, _⟩, _⟩ := h'
  obtain rfl := Option.some.inj (gMod.symm.trans hg)
  obtain rfl := Option.some.inj (gModT.symm.trans ht)
  have hc := cells_of_mods (ls := [modsW.take 13, (modsW.drop 13).take 13, (modsW.drop 26).take 13, (modsW.drop 39).take 13]) (by
    intro l hl
    have hle := length_modsW
    simp only [List.mem_cons, List.not_mem_nil, or_false] at hl
    rcases hl with rfl | rfl | rfl | rfl <;> simp [hle]) rfl hd
  rw [modsSplit] at hc
  have hc' : cs = c64 modsW := by rw [c64, ← hc]
  subst hc'
  unfold World.var? at hvar
  rw [gMod] at hvar
  simp only [Option.bind_some] at hvar
  split at hvar
  · rename_i cs T fr hh
    have := Option.some.inj hvar
    exact ⟨T, fr, by rw [hh, this]⟩
  · cases hvar
/-- a world for the witness -/
def relay (l : Array Value) : Obj → Obj
  | .cells _ t frozen => .cells l t frozen
  | o => o
noncomputable def laidWorld (os : Os) : World :=
  { World.holding Tryd.prog os ⟨#[], #[], []⟩ with heap := (World.holding Tryd.prog os ⟨#[], #[], []⟩).heap.modify 4 (relay (c64 modsW)) }
end Go.Proofs.YtjhjjhpfjadjpaaDoor
