/-
  DERIVED. GIVEN WITH THE SEED: THE CARDS: each row of YtfcknhbmeofniaaGreatDoorRows.lean that lists a variable, with what it lists TIED to the program's text (the seventh form; the later family's looks); each row that meets fmt, with fmt's text TOLD by the authors' own Lean function (tested against real Go, not proved from fmt's source: count such statements apart). THE CARD IS WHAT COUNTS. Prove the row's statement (the work); the ties are given (YtfcknhbmeofniaaGreatDoorTie.lean); close each card by the builder's one call (the guide's Derived/Test/ToyasCard.lean, 'card_holds'). Laid BY PROGRAM, IN A SANDBOX (cutbox-door.mjs). By AI agents, Wed Nov 11 2026. No macro, syntax, notation, axiom, sorry.
-/
import Derived.Test.YtfcknhbmeofniaaGreatDoorRows
import GoSem.ClaimSeven
namespace Go.Proofs.YtfcknhbmeofniaaGreatDoor
namespace Rows

/-- THE TIED CARD OF 'munimentlaw19.LedgerGrowing'. -/
def ledgerGrowingCard : Claim7 := { stood := { row := ledgerGrowingRow, standIns := [], harness := (true, "c67c8cde95571499610609edb852fd2de94720a35d00795fef28509a87a7faa2"), looks := false }, kinds := [], alts := [], laidByText := true, laidKinds := [.data, .data], laidTests := true, laidLooks := .later }
def LedgerGrowingCardSaid : Prop := Claim7.holds Tryz.pinned (.plain (OpenSpec.ofChange ledgerGrowingSpec)) ledgerGrowingCard

/-- THE TIED CARD OF 'munimentlaw19.LedgerProves'. -/
def ledgerProvesCard : Claim7 := { stood := { row := ledgerProvesRow, standIns := [], harness := (true, "c67c8cde95571499610609edb852fd2de94720a35d00795fef28509a87a7faa2"), looks := false }, kinds := [], alts := [], laidByText := true, laidKinds := [.data, .data], laidTests := true, laidLooks := .later }
def LedgerProvesCardSaid : Prop := Claim7.holds Tryz.pinned (.plain (OpenSpec.ofChange ledgerProvesSpec)) ledgerProvesCard

/-- THE SECOND FORM's CARD OF 'munimentlaw19.LedgerGrowing'. -/
def ledgerGrowingUptoCard : Claim7 := { stood := { row := ledgerGrowingUptoRow, standIns := [], harness := (true, "c67c8cde95571499610609edb852fd2de94720a35d00795fef28509a87a7faa2"), looks := false }, kinds := [], alts := [], laidByText := true, laidKinds := [.data, .data], laidTests := true, laidLooks := .later }
def LedgerGrowingUptoCardSaid : Prop := Claim7.holds Tryz.pinned (.plain (OpenSpec.upto ledgerGrowingSpec)) ledgerGrowingUptoCard

/-- THE SECOND FORM's CARD OF 'munimentlaw19.LedgerProves'. -/
def ledgerProvesUptoCard : Claim7 := { stood := { row := ledgerProvesUptoRow, standIns := [], harness := (true, "c67c8cde95571499610609edb852fd2de94720a35d00795fef28509a87a7faa2"), looks := false }, kinds := [], alts := [], laidByText := true, laidKinds := [.data, .data], laidTests := true, laidLooks := .later }
def LedgerProvesUptoCardSaid : Prop := Claim7.holds Tryz.pinned (.plain (OpenSpec.upto ledgerProvesSpec)) ledgerProvesUptoCard
end Rows
end Go.Proofs.YtfcknhbmeofniaaGreatDoor
