/-
  DERIVED. GIVEN WITH THE SEED: THE CARDS: each row of YtjhjjhpfjadjpaaDoorRows.lean that lists a variable, with what it lists TIED to the program's text (the seventh form; the later family's looks); each row that meets fmt, with fmt's text TOLD by the authors' own Lean function (tested against real Go, not proved from fmt's source: count such statements apart). THE CARD IS WHAT COUNTS. Prove the row's statement (the work); the ties are given (YtjhjjhpfjadjpaaDoorTie.lean); close each card by the builder's one call (the guide's Derived/Test/ToyasCard.lean, 'card_holds'). Laid BY PROGRAM, IN A SANDBOX (cutbox-door.mjs). By AI agents, Wed Nov 11 2026. No macro, syntax, notation, axiom, sorry.
-/
import Derived.Test.YtjhjjhpfjadjpaaDoorRows
import GoSem.ClaimSeven
namespace Go.Proofs.YtjhjjhpfjadjpaaDoor
namespace Rows

/-- THE TIED CARD OF 'securelinklaw5.CurveAgrees'. -/
def curveAgreesCard : Claim7 := { stood := { row := curveAgreesRow, standIns := [], harness := (true, "df0744074686c46114282961438692f4a4be715b8df8b45559a3450435145f48"), looks := false }, kinds := [], alts := [], laidByText := true, laidKinds := [.data], laidTests := true, laidLooks := .later }
def CurveAgreesCardSaid : Prop := Claim7.holds Tryd.pinned (.plain (OpenSpec.ofChange curveAgreesSpec)) curveAgreesCard

/-- THE TIED CARD OF 'securelinklaw5.CurveMeets'. -/
def curveMeetsCard : Claim7 := { stood := { row := curveMeetsRow, standIns := [], harness := (true, "df0744074686c46114282961438692f4a4be715b8df8b45559a3450435145f48"), looks := false }, kinds := [], alts := [], laidByText := true, laidKinds := [.data], laidTests := true, laidLooks := .later }
def CurveMeetsCardSaid : Prop := Claim7.holds Tryd.pinned (.plain (OpenSpec.ofChange curveMeetsSpec)) curveMeetsCard

/-- THE TIED CARD OF 'securelinklaw5.CurvePoints'. -/
def curvePointsCard : Claim7 := { stood := { row := curvePointsRow, standIns := [], harness := (true, "df0744074686c46114282961438692f4a4be715b8df8b45559a3450435145f48"), looks := false }, kinds := [], alts := [], laidByText := true, laidKinds := [.data], laidTests := true, laidLooks := .later }
def CurvePointsCardSaid : Prop := Claim7.holds Tryd.pinned (.plain (OpenSpec.ofChange curvePointsSpec)) curvePointsCard

/-- THE TIED CARD OF 'securelinklaw1.HashPieces'. -/
def hashPiecesCard : Claim7 := { stood := { row := hashPiecesRow, standIns := [], harness := (true, "df0744074686c46114282961438692f4a4be715b8df8b45559a3450435145f48"), looks := false }, kinds := [], alts := [], laidByText := true, laidKinds := [.data, .data, .data, .data], laidTests := true, laidLooks := .later }
def HashPiecesCardSaid : Prop := Claim7.holds Tryd.pinned (.plain (OpenSpec.ofChange hashPiecesSpec)) hashPiecesCard

/-- THE TIED CARD OF 'securelinklaw1.HashSums'. -/
def hashSumsCard : Claim7 := { stood := { row := hashSumsRow, standIns := [], harness := (true, "df0744074686c46114282961438692f4a4be715b8df8b45559a3450435145f48"), looks := false }, kinds := [], alts := [], laidByText := true, laidKinds := [.data, .data, .data, .data], laidTests := true, laidLooks := .later }
def HashSumsCardSaid : Prop := Claim7.holds Tryd.pinned (.plain (OpenSpec.ofChange hashSumsSpec)) hashSumsCard

/-- THE TIED CARD OF 'securelinklaw1.HashKeyed'. -/
def hashKeyedCard : Claim7 := { stood := { row := hashKeyedRow, standIns := [], harness := (true, "df0744074686c46114282961438692f4a4be715b8df8b45559a3450435145f48"), looks := false }, kinds := [], alts := [], laidByText := true, laidKinds := [.data, .data, .data, .data], laidTests := true, laidLooks := .later }
def HashKeyedCardSaid : Prop := Claim7.holds Tryd.pinned (.plain (OpenSpec.ofChange hashKeyedSpec)) hashKeyedCard

/-- THE TIED CARD OF 'securelinklaw1.HashBeginnings'. -/
def hashBeginningsCard : Claim7 := { stood := { row := hashBeginningsRow, standIns := [], harness := (true, "df0744074686c46114282961438692f4a4be715b8df8b45559a3450435145f48"), looks := false }, kinds := [], alts := [], laidByText := true, laidKinds := [.data, .data, .data, .data], laidTests := true, laidLooks := .later }
def HashBeginningsCardSaid : Prop := Claim7.holds Tryd.pinned (.plain (OpenSpec.ofChange hashBeginningsSpec)) hashBeginningsCard

/-- THE TIED CARD OF 'securelinklaw1.HashExpands'. -/
def hashExpandsCard : Claim7 := { stood := { row := hashExpandsRow, standIns := [], harness := (true, "df0744074686c46114282961438692f4a4be715b8df8b45559a3450435145f48"), looks := false }, kinds := [], alts := [], laidByText := true, laidKinds := [.data, .data, .data, .data], laidTests := true, laidLooks := .later }
def HashExpandsCardSaid : Prop := Claim7.holds Tryd.pinned (.plain (OpenSpec.ofChange hashExpandsSpec)) hashExpandsCard

/-- THE SECOND FORM's CARD OF 'securelinklaw5.CurveAgrees'. -/
def curveAgreesUptoCard : Claim7 := { stood := { row := curveAgreesUptoRow, standIns := [], harness := (true, "df0744074686c46114282961438692f4a4be715b8df8b45559a3450435145f48"), looks := false }, kinds := [], alts := [], laidByText := true, laidKinds := [.data], laidTests := true, laidLooks := .later }
def CurveAgreesUptoCardSaid : Prop := Claim7.holds Tryd.pinned (.plain (OpenSpec.upto curveAgreesSpec)) curveAgreesUptoCard

/-- THE SECOND FORM's CARD OF 'securelinklaw5.CurveMeets'. -/
def curveMeetsUptoCard : Claim7 := { stood := { row := curveMeetsUptoRow, standIns := [], harness := (true, "df0744074686c46114282961438692f4a4be715b8df8b45559a3450435145f48"), looks := false }, kinds := [], alts := [], laidByText := true, laidKinds := [.data], laidTests := true, laidLooks := .later }
def CurveMeetsUptoCardSaid : Prop := Claim7.holds Tryd.pinned (.plain (OpenSpec.upto curveMeetsSpec)) curveMeetsUptoCard

/-- THE SECOND FORM's CARD OF 'securelinklaw5.CurvePoints'. -/
def curvePointsUptoCard : Claim7 := { stood := { row := curvePointsUptoRow, standIns := [], harness := (true, "df0744074686c46114282961438692f4a4be715b8df8b45559a3450435145f48"), looks := false }, kinds := [], alts := [], laidByText := true, laidKinds := [.data], laidTests := true, laidLooks := .later }
def CurvePointsUptoCardSaid : Prop := Claim7.holds Tryd.pinned (.plain (OpenSpec.upto curvePointsSpec)) curvePointsUptoCard

/-- THE SECOND FORM's CARD OF 'securelinklaw1.HashPieces'. -/
def hashPiecesUptoCard : Claim7 := { stood := { row := hashPiecesUptoRow, standIns := [], harness := (true, "df0744074686c46114282961438692f4a4be715b8df8b45559a3450435145f48"), looks := false }, kinds := [], alts := [], laidByText := true, laidKinds := [.data, .data, .data, .data], laidTests := true, laidLooks := .later }
def HashPiecesUptoCardSaid : Prop := Claim7.holds Tryd.pinned (.plain (OpenSpec.upto hashPiecesSpec)) hashPiecesUptoCard

/-- THE SECOND FORM's CARD OF 'securelinklaw1.HashSums'. -/
def hashSumsUptoCard : Claim7 := { stood := { row := hashSumsUptoRow, standIns := [], harness := (true, "df0744074686c46114282961438692f4a4be715b8df8b45559a3450435145f48"), looks := false }, kinds := [], alts := [], laidByText := true, laidKinds := [.data, .data, .data, .data], laidTests := true, laidLooks := .later }
def HashSumsUptoCardSaid : Prop := Claim7.holds Tryd.pinned (.plain (OpenSpec.upto hashSumsSpec)) hashSumsUptoCard

/-- THE SECOND FORM's CARD OF 'securelinklaw1.HashKeyed'. -/
def hashKeyedUptoCard : Claim7 := { stood := { row := hashKeyedUptoRow, standIns := [], harness := (true, "df0744074686c46114282961438692f4a4be715b8df8b45559a3450435145f48"), looks := false }, kinds := [], alts := [], laidByText := true, laidKinds := [.data, .data, .data, .data], laidTests := true, laidLooks := .later }
def HashKeyedUptoCardSaid : Prop := Claim7.holds Tryd.pinned (.plain (OpenSpec.upto hashKeyedSpec)) hashKeyedUptoCard

/-- THE SECOND FORM's CARD OF 'securelinklaw1.HashBeginnings'. -/
def hashBeginningsUptoCard : Claim7 := { stood := { row := hashBeginningsUptoRow, standIns := [], harness := (true, "df0744074686c46114282961438692f4a4be715b8df8b45559a3450435145f48"), looks := false }, kinds := [], alts := [], laidByText := true, laidKinds := [.data, .data, .data, .data], laidTests := true, laidLooks := .later }
def HashBeginningsUptoCardSaid : Prop := Claim7.holds Tryd.pinned (.plain (OpenSpec.upto hashBeginningsSpec)) hashBeginningsUptoCard

/-- THE SECOND FORM's CARD OF 'securelinklaw1.HashExpands'. -/
def hashExpandsUptoCard : Claim7 := { stood := { row := hashExpandsUptoRow, standIns := [], harness := (true, "df0744074686c46114282961438692f4a4be715b8df8b45559a3450435145f48"), looks := false }, kinds := [], alts := [], laidByText := true, laidKinds := [.data, .data, .data, .data], laidTests := true, laidLooks := .later }
def HashExpandsUptoCardSaid : Prop := Claim7.holds Tryd.pinned (.plain (OpenSpec.upto hashExpandsSpec)) hashExpandsUptoCard
end Rows
end Go.Proofs.YtjhjjhpfjadjpaaDoor
