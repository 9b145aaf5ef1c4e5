/-
  DERIVED. GIVEN WITH THE SEED: THE CARDS: each row of YtpihffpdkfkkhaaDoorRows.lean that lists a variable, with what it lists TIED to the program's text (the seventh form; the later family's looks); each row that meets fmt, with fmt's text TOLD by the authors' own Lean function (tested against real Go, not proved from fmt's source: count such statements apart). THE CARD IS WHAT COUNTS. Prove the row's statement (the work); the ties are given (YtpihffpdkfkkhaaDoorTie.lean); close each card by the builder's one call (the guide's Derived/Test/ToyasCard.lean, 'card_holds'). Laid BY PROGRAM, IN A SANDBOX (cutbox-door.mjs). By AI agents, Wed Nov 11 2026. No macro, syntax, notation, axiom, sorry.
-/
import Derived.Test.YtpihffpdkfkkhaaDoorRows
import GoSem.ClaimSeven
namespace Go.Proofs.YtpihffpdkfkkhaaDoor
namespace Rows

/-- THE TIED CARD OF 'securelinklaw3.AesBlocks'. -/
def aesBlocksCard : Claim7 := { stood := { row := aesBlocksRow, standIns := [], harness := (true, "96fe326f2662fc9016f80337fc600ca8d8f16bff2cf1c63eaf92c6d95cd73edc"), looks := false }, kinds := [], alts := [], laidByText := true, laidKinds := [.data, .data], laidTests := true, laidLooks := .later }
def AesBlocksCardSaid : Prop := Claim7.holds Tryd.pinned (.plain (OpenSpec.ofChange aesBlocksSpec)) aesBlocksCard

/-- THE TIED CARD OF 'securelinklaw3.AesSeals'. -/
def aesSealsCard : Claim7 := { stood := { row := aesSealsRow, standIns := [], harness := (true, "96fe326f2662fc9016f80337fc600ca8d8f16bff2cf1c63eaf92c6d95cd73edc"), looks := false }, kinds := [], alts := [], laidByText := true, laidKinds := [.data, .data], laidTests := true, laidLooks := .later }
def AesSealsCardSaid : Prop := Claim7.holds Tryd.pinned (.plain (OpenSpec.ofChange aesSealsSpec)) aesSealsCard

/-- THE TIED CARD OF 'securelinklaw3.AesOpens'. -/
def aesOpensCard : Claim7 := { stood := { row := aesOpensRow, standIns := [], harness := (true, "96fe326f2662fc9016f80337fc600ca8d8f16bff2cf1c63eaf92c6d95cd73edc"), looks := false }, kinds := [], alts := [], laidByText := true, laidKinds := [.data, .data], laidTests := true, laidLooks := .later }
def AesOpensCardSaid : Prop := Claim7.holds Tryd.pinned (.plain (OpenSpec.ofChange aesOpensSpec)) aesOpensCard

/-- THE SECOND FORM's CARD OF 'securelinklaw3.AesBlocks'. -/
def aesBlocksUptoCard : Claim7 := { stood := { row := aesBlocksUptoRow, standIns := [], harness := (true, "96fe326f2662fc9016f80337fc600ca8d8f16bff2cf1c63eaf92c6d95cd73edc"), looks := false }, kinds := [], alts := [], laidByText := true, laidKinds := [.data, .data], laidTests := true, laidLooks := .later }
def AesBlocksUptoCardSaid : Prop := Claim7.holds Tryd.pinned (.plain (OpenSpec.upto aesBlocksSpec)) aesBlocksUptoCard

/-- THE SECOND FORM's CARD OF 'securelinklaw3.AesSeals'. -/
def aesSealsUptoCard : Claim7 := { stood := { row := aesSealsUptoRow, standIns := [], harness := (true, "96fe326f2662fc9016f80337fc600ca8d8f16bff2cf1c63eaf92c6d95cd73edc"), looks := false }, kinds := [], alts := [], laidByText := true, laidKinds := [.data, .data], laidTests := true, laidLooks := .later }
def AesSealsUptoCardSaid : Prop := Claim7.holds Tryd.pinned (.plain (OpenSpec.upto aesSealsSpec)) aesSealsUptoCard

/-- THE SECOND FORM's CARD OF 'securelinklaw3.AesOpens'. -/
def aesOpensUptoCard : Claim7 := { stood := { row := aesOpensUptoRow, standIns := [], harness := (true, "96fe326f2662fc9016f80337fc600ca8d8f16bff2cf1c63eaf92c6d95cd73edc"), looks := false }, kinds := [], alts := [], laidByText := true, laidKinds := [.data, .data], laidTests := true, laidLooks := .later }
def AesOpensUptoCardSaid : Prop := Claim7.holds Tryd.pinned (.plain (OpenSpec.upto aesOpensSpec)) aesOpensUptoCard
end Rows
end Go.Proofs.YtpihffpdkfkkhaaDoor
