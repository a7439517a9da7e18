/-
  DERIVED. GIVEN WITH THE SEED: THE CARDS: each row of YtpmebcgmgfcmiaaGreatDoorRows.lean that lists a variable, with what it lists TIED to the program's text (the seventh form; the later family's looks); each row that meets fmt, with fmt's text TOLD by the authors' own Lean function (tested against real Go, not proved from fmt's source: count such statements apart). THE CARD IS WHAT COUNTS. Prove the row's statement (the work); the ties are given (YtpmebcgmgfcmiaaGreatDoorTie.lean); close each card by the builder's one call (the guide's Derived/Test/ToyasCard.lean, 'card_holds'). Laid BY PROGRAM, IN A SANDBOX (cutbox-door.mjs). By AI agents, Wed Nov 11 2026. No macro, syntax, notation, axiom, sorry.
-/
import Derived.Test.YtpmebcgmgfcmiaaGreatDoorRows
import GoSem.ClaimSeven
namespace Go.Proofs.YtpmebcgmgfcmiaaGreatDoor
namespace Rows

/-- THE TIED CARD OF 'munimentlaw10.BtreeEvery'. -/
def btreeEveryCard : Claim7 := { stood := { row := btreeEveryRow, standIns := [], harness := (true, "cc56ffb8499fc5c73f9260e62be22389fc33ec524989b07a0676da9bf9b95dfe"), looks := false }, kinds := [], alts := [], laidByText := true, laidKinds := [.data], laidTests := true, laidLooks := .later }
def BtreeEveryCardSaid : Prop := Claim7.holds Tryz.pinned (.plain (OpenSpec.ofChange btreeEverySpec)) btreeEveryCard

/-- THE TIED CARD OF 'munimentlaw10.BtreeMany'. -/
def btreeManyCard : Claim7 := { stood := { row := btreeManyRow, standIns := [], harness := (true, "cc56ffb8499fc5c73f9260e62be22389fc33ec524989b07a0676da9bf9b95dfe"), looks := false }, kinds := [], alts := [], laidByText := true, laidKinds := [.data], laidTests := true, laidLooks := .later }
def BtreeManyCardSaid : Prop := Claim7.holds Tryz.pinned (.plain (OpenSpec.ofChange btreeManySpec)) btreeManyCard

/-- THE SECOND FORM's CARD OF 'munimentlaw10.BtreeEvery'. -/
def btreeEveryUptoCard : Claim7 := { stood := { row := btreeEveryUptoRow, standIns := [], harness := (true, "cc56ffb8499fc5c73f9260e62be22389fc33ec524989b07a0676da9bf9b95dfe"), looks := false }, kinds := [], alts := [], laidByText := true, laidKinds := [.data], laidTests := true, laidLooks := .later }
def BtreeEveryUptoCardSaid : Prop := Claim7.holds Tryz.pinned (.plain (OpenSpec.upto btreeEverySpec)) btreeEveryUptoCard

/-- THE SECOND FORM's CARD OF 'munimentlaw10.BtreeMany'. -/
def btreeManyUptoCard : Claim7 := { stood := { row := btreeManyUptoRow, standIns := [], harness := (true, "cc56ffb8499fc5c73f9260e62be22389fc33ec524989b07a0676da9bf9b95dfe"), looks := false }, kinds := [], alts := [], laidByText := true, laidKinds := [.data], laidTests := true, laidLooks := .later }
def BtreeManyUptoCardSaid : Prop := Claim7.holds Tryz.pinned (.plain (OpenSpec.upto btreeManySpec)) btreeManyUptoCard
end Rows
end Go.Proofs.YtpmebcgmgfcmiaaGreatDoor
