/- What the row's list of package-level tables gives: the tables, in memory. -/
import Derived.Test.YtpihffpdkfkkhaaDoorMC
import Derived.Test.YtpihffpdkfkkhaaDoorCards
import Derived.Test.YtpihffpdkfkkhaaDoorTie
import Derived.WalkKit
import Derived.ProofKit
import Derived.OpenShut
import Derived.Deep.DeepHandedRow
import Derived.Lib.LaidTab
import Derived.Stop.LaidErr
namespace Go.Proofs.YtpihffpdkfkkhaaDoor
set_option linter.all false
open Go Go.ChangeShapes Go.WideShapes Go.ChangeAt Go.RowKit
theorem ownNone : ownKnob Tryd.prog.godebug = none := by kernel_rfl
theorem gLo : Tryd.prog.globalNamed "securelink/aes.lows" = some 0 := by kernel_rfl
theorem gHi : Tryd.prog.globalNamed "securelink/aes.highs" = some 1 := by kernel_rfl
theorem gLoT : (Tryd.prog.globals[0]?).map (·.type) = some 73 := by kernel_rfl
theorem gHiT : (Tryd.prog.globals[1]?).map (·.type) = some 73 := by kernel_rfl
theorem cellsT : Tryd.prog.cellsOf 73 = 128 := by kernel_rfl
theorem cells5 : Tryd.prog.cellsOf 5 = 1 := by kernel_rfl
def zOf (l : List (BitVec 8)) : List Int := l.map fun b => (b.toNat : Int)
theorem zOf_get (l : List (BitVec 8)) (j : Nat) (h : j < l.length) : (zOf l).getD j 0 = ((l.getD j 0#8).toNat : Int) := by
  simp [zOf, List.getD, h]
theorem laidEq : Rows.aesBlocksRow.laid = [("securelink/aes.lows", Lib.tabData .u8 (zOf lowsT)), ("securelink/aes.highs", Lib.tabData .u8 (zOf highsT))] := by kernel_rfl
theorem lenLo : lowsT.length = 128 := by kernel_rfl
theorem lenHi : highsT.length = 128 := by kernel_rfl
theorem tabOf {W : World} (h : laidMetH Tryd.prog Rows.aesBlocksRow.laid W) : Tab W := by
  rw [laidEq] at h
  have h' : laidMet Tryd.prog (("securelink/aes.lows", Lib.tabData .u8 (zOf lowsT)) :: [("securelink/aes.highs", Lib.tabData .u8 (zOf highsT))]) W := h
  have t0 := Lib.tabIs_of_head gLo gLoT Tryd.underlying73 Tryd.underlying5 cells5 cellsT h'
  have t1 := Lib.tabIs_of_head gHi gHiT Tryd.underlying73 Tryd.underlying5 cells5 cellsT (laidMet.tail h')
  have hc : ∀ j, j < 128 → W.cell? ⟨1, j, none⟩ = some (U8 (highsT.getD j 0#8)) := fun j hj => by
    have := t1.cell gHi j (by simpa [zOf, lenHi] using hj)
    rw [zOf_get _ _ (by rw [lenHi]; exact hj)] at this
    exact this
  refine ⟨fun j hj => ?_, hc, ?_⟩
  · have := t0.cell gLo j (by simpa [zOf, lenLo] using hj)
    rw [zOf_get _ _ (by rw [lenLo]; exact hj)] at this
    exact this
  · have := hc 0 (by omega)
    by_cases hs : 2 ≤ W.heap.size
    · exact hs
    · exfalso
      have hn : W.heap[1]? = none := Array.getElem?_eq_none (by omega)
      simp [World.cell?, hn] at this
/-- a world for the witness -/
def relay (l : Array Value) : Obj → Obj
  | .cells _ t frozen => .cells l t frozen
  | o => o
noncomputable def laidWorld (os : Os) : World :=
  { World.holding Tryd.prog os ⟨#[], #[], []⟩ with heap := ((World.holding Tryd.prog os ⟨#[], #[], []⟩).heap.modify 0 (relay (c8 lowsT))).modify 1 (relay (c8 highsT)) }
end Go.Proofs.YtpihffpdkfkkhaaDoor
