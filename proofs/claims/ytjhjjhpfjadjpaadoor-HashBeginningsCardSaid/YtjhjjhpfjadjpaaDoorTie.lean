/-
  DERIVED. GIVEN WITH THE SEED: THE PROGRAM's TIES (one call each: nine closed facts by the kernel) AND EACH ROW's TIE, after the 31st guide's Derived/Test/Toyas{Tie, Card}.lean. No idea stands in it: it is a product of the set-up. Laid BY PROGRAM, IN A SANDBOX (cutbox-door.mjs). By AI agents, Wed Nov 11 2026. No macro, syntax, notation, axiom, sorry.
-/
import Derived.Test.YtjhjjhpfjadjpaaDoorRows
import Derived.LaidByTextLater
import Derived.SevenTiedAt
import Derived.LaidSub
import Derived.LaidOnce
namespace Go.Proofs.YtjhjjhpfjadjpaaDoor
open Go
set_option maxRecDepth 100000
theorem seatTie1 : Tryd.prog.laidByTextLater [("securelink/hash.first256", Rows.laid_securelink_hash_first256), ("securelink/hash.first384", Rows.laid_securelink_hash_first384), ("securelink/hash.first512", Rows.laid_securelink_hash_first512), ("securelink/hash.sizes", Rows.laid_securelink_hash_sizes), ("securelink/mont.moduli", Rows.laid_securelink_mont_moduli)] [.data, .data, .data, .data, .data] true :=
  Program.laidByTextLater_by_one 50 8 53 (by kernel_rfl) (by kernel_rfl) (by kernel_rfl) (by kernel_rfl) (by kernel_rfl) (by kernel_rfl) (fun _ _ => by kernel_rfl)
theorem noOwnUnsafe : Tryd.pinned.checked.prog.headLifts.contains "ownunsafe" = false := by kernel_rfl
theorem tie : Tryd.prog.laidByTextLater [("securelink/mont.moduli", Rows.laid_securelink_mont_moduli)] [.data] true :=
  Program.laidByTextLater.sub seatTie1 ["securelink/mont.moduli"] (by kernel_rfl) (by kernel_rfl)
theorem curveAgrees_row_tie : Rows.curveAgreesRow.laidByTextAt .later Tryd.pinned [.data] true :=
  OpenClaim.laidByTextAt_later rfl rfl tie noOwnUnsafe
theorem curveMeets_row_tie : Rows.curveMeetsRow.laidByTextAt .later Tryd.pinned [.data] true :=
  OpenClaim.laidByTextAt_later rfl rfl tie noOwnUnsafe
theorem curvePoints_row_tie : Rows.curvePointsRow.laidByTextAt .later Tryd.pinned [.data] true :=
  OpenClaim.laidByTextAt_later rfl rfl tie noOwnUnsafe
theorem tie2 : Tryd.prog.laidByTextLater [("securelink/hash.first256", Rows.laid_securelink_hash_first256), ("securelink/hash.first384", Rows.laid_securelink_hash_first384), ("securelink/hash.first512", Rows.laid_securelink_hash_first512), ("securelink/hash.sizes", Rows.laid_securelink_hash_sizes)] [.data, .data, .data, .data] true :=
  Program.laidByTextLater.sub seatTie1 ["securelink/hash.first256", "securelink/hash.first384", "securelink/hash.first512", "securelink/hash.sizes"] (by kernel_rfl) (by kernel_rfl)
theorem hashPieces_row_tie : Rows.hashPiecesRow.laidByTextAt .later Tryd.pinned [.data, .data, .data, .data] true :=
  OpenClaim.laidByTextAt_later rfl rfl tie2 noOwnUnsafe
theorem hashSums_row_tie : Rows.hashSumsRow.laidByTextAt .later Tryd.pinned [.data, .data, .data, .data] true :=
  OpenClaim.laidByTextAt_later rfl rfl tie2 noOwnUnsafe
theorem hashKeyed_row_tie : Rows.hashKeyedRow.laidByTextAt .later Tryd.pinned [.data, .data, .data, .data] true :=
  OpenClaim.laidByTextAt_later rfl rfl tie2 noOwnUnsafe
theorem hashBeginnings_row_tie : Rows.hashBeginningsRow.laidByTextAt .later Tryd.pinned [.data, .data, .data, .data] true :=
  OpenClaim.laidByTextAt_later rfl rfl tie2 noOwnUnsafe
theorem hashExpands_row_tie : Rows.hashExpandsRow.laidByTextAt .later Tryd.pinned [.data, .data, .data, .data] true :=
  OpenClaim.laidByTextAt_later rfl rfl tie2 noOwnUnsafe
theorem curveAgreesUpto_row_tie : Rows.curveAgreesUptoRow.laidByTextAt .later Tryd.pinned [.data] true :=
  OpenClaim.laidByTextAt_later rfl rfl tie noOwnUnsafe
theorem curveMeetsUpto_row_tie : Rows.curveMeetsUptoRow.laidByTextAt .later Tryd.pinned [.data] true :=
  OpenClaim.laidByTextAt_later rfl rfl tie noOwnUnsafe
theorem curvePointsUpto_row_tie : Rows.curvePointsUptoRow.laidByTextAt .later Tryd.pinned [.data] true :=
  OpenClaim.laidByTextAt_later rfl rfl tie noOwnUnsafe
theorem hashPiecesUpto_row_tie : Rows.hashPiecesUptoRow.laidByTextAt .later Tryd.pinned [.data, .data, .data, .data] true :=
  OpenClaim.laidByTextAt_later rfl rfl tie2 noOwnUnsafe
theorem hashSumsUpto_row_tie : Rows.hashSumsUptoRow.laidByTextAt .later Tryd.pinned [.data, .data, .data, .data] true :=
  OpenClaim.laidByTextAt_later rfl rfl tie2 noOwnUnsafe
theorem hashKeyedUpto_row_tie : Rows.hashKeyedUptoRow.laidByTextAt .later Tryd.pinned [.data, .data, .data, .data] true :=
  OpenClaim.laidByTextAt_later rfl rfl tie2 noOwnUnsafe
theorem hashBeginningsUpto_row_tie : Rows.hashBeginningsUptoRow.laidByTextAt .later Tryd.pinned [.data, .data, .data, .data] true :=
  OpenClaim.laidByTextAt_later rfl rfl tie2 noOwnUnsafe
theorem hashExpandsUpto_row_tie : Rows.hashExpandsUptoRow.laidByTextAt .later Tryd.pinned [.data, .data, .data, .data] true :=
  OpenClaim.laidByTextAt_later rfl rfl tie2 noOwnUnsafe
end Go.Proofs.YtjhjjhpfjadjpaaDoor
