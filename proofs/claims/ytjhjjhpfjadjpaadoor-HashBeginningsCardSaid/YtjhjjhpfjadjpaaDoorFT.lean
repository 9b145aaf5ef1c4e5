/- What the rows' list of package-level tables gives: the tables of package hash, in memory. -/
import Derived.Test.YtjhjjhpfjadjpaaDoorMJ
import Derived.Test.YtjhjjhpfjadjpaaDoorCards
import Derived.Test.YtjhjjhpfjadjpaaDoorTie
import Derived.WalkKit
import Derived.ProofKit
import Derived.OpenShut
import Derived.Deep.DeepHandedRow
import Derived.Lib.LaidTab
import Derived.Stop.LaidErr
namespace Go.Proofs.YtjhjjhpfjadjpaaDoor
set_option linter.all false
open Go Go.ChangeShapes Go.WideShapes Go.ChangeAt Go.RowKit
theorem ownNone : ownKnob Tryd.prog.godebug = none := by kernel_rfl
theorem gS : Tryd.prog.globalNamed "securelink/hash.sizes" = some 0 := by kernel_rfl
theorem g256 : Tryd.prog.globalNamed "securelink/hash.first256" = some 1 := by kernel_rfl
theorem g384 : Tryd.prog.globalNamed "securelink/hash.first384" = some 2 := by kernel_rfl
theorem g512 : Tryd.prog.globalNamed "securelink/hash.first512" = some 3 := by kernel_rfl
theorem gST : (Tryd.prog.globals[0]?).map (·.type) = some 119 := by kernel_rfl
theorem g256T : (Tryd.prog.globals[1]?).map (·.type) = some 157 := by kernel_rfl
theorem g384T : (Tryd.prog.globals[2]?).map (·.type) = some 163 := by kernel_rfl
theorem g512T : (Tryd.prog.globals[3]?).map (·.type) = some 163 := by kernel_rfl
theorem cells119 : Tryd.prog.cellsOf 119 = 3 := by kernel_rfl
theorem cells157 : Tryd.prog.cellsOf 157 = 8 := by kernel_rfl
theorem cells163 : Tryd.prog.cellsOf 163 = 8 := by kernel_rfl
theorem cellsI : Tryd.prog.cellsOf 3 = 1 := by kernel_rfl
theorem cells32 : Tryd.prog.cellsOf 91 = 1 := by kernel_rfl
theorem cells64 : Tryd.prog.cellsOf 77 = 1 := by kernel_rfl
def zN {n : Nat} (l : List (BitVec n)) : List Int := l.map fun b => (b.toNat : Int)
def laidL : List (String × DataW Unit) := [("securelink/hash.first256", Lib.tabData .u32 (zN h256)), ("securelink/hash.first384", Lib.tabData .u64 (zN h384)), ("securelink/hash.first512", Lib.tabData .u64 (zN h512)), ("securelink/hash.sizes", Lib.tabData .i64 [32, 48, 64])]
theorem laidEq : Rows.hashSumsRow.laid = laidL := by kernel_rfl
theorem laidG_of {P : Program} {W : World} {name : String} {k : IntKind} {zs : List Int} {g : Nat} (h : Lib.TabIs P W name k zs) (hg : P.globalNamed name = some g) : LaidG W g (zs.map fun z => Value.int k z).toArray := by
  unfold Lib.TabIs World.var? at h
  rw [hg] at h
  simp only [Option.bind_some] at h
  split at h
  · rename_i cs T fr hh
    obtain rfl := Option.some.inj h
    exact ⟨_, _, hh⟩
  · cases h
theorem laidKeyed : Rows.hashKeyedRow.laid = laidL := by kernel_rfl
theorem laidExpands : Rows.hashExpandsRow.laid = laidL := by kernel_rfl
theorem laidPieces : Rows.hashPiecesRow.laid = laidL := by kernel_rfl
theorem laidBeginnings : Rows.hashBeginningsRow.laid = laidL := by kernel_rfl
theorem tabOfL {W : World} (h : laidMetH Tryd.prog laidL W) : LaidH W := by
  have h' : laidMet Tryd.prog laidL W := h
  unfold laidL at h'
  have t1 := Lib.tabIs_of_head g256 g256T Tryd.underlying157 Tryd.underlying91 cells32 cells157 h'
  have t2 := Lib.tabIs_of_head g384 g384T Tryd.underlying163 Tryd.underlying77 cells64 cells163 (laidMet.tail h')
  have t3 := Lib.tabIs_of_head g512 g512T Tryd.underlying163 Tryd.underlying77 cells64 cells163 (laidMet.tail (laidMet.tail h'))
  have t0 := Lib.tabIs_of_head gS gST Tryd.underlying119 Tryd.underlying3 cellsI cells119 (laidMet.tail (laidMet.tail (laidMet.tail h')))
  exact ⟨laidG_of t0 gS, laidG_of t1 g256, laidG_of t2 g384, laidG_of t3 g512⟩
theorem tabOf {W : World} (h : laidMetH Tryd.prog Rows.hashSumsRow.laid W) : LaidH W := tabOfL (laidEq ▸ h)
/-- a world for the witness -/
def relay (l : Array Value) : Obj → Obj
  | .cells _ t frozen => .cells l t frozen
  | o => o
noncomputable def laidWorld (os : Os) : World :=
  { World.holding Tryd.prog os ⟨#[], #[], []⟩ with heap := ((((World.holding Tryd.prog os ⟨#[], #[], []⟩).heap.modify 0 (relay #[vI (32 : Nat), vI (48 : Nat), vI (64 : Nat)])).modify 1 (relay (c32 h256))).modify 2 (relay (c64 h384))).modify 3 (relay (c64 h512)) }
end Go.Proofs.YtjhjjhpfjadjpaaDoor
