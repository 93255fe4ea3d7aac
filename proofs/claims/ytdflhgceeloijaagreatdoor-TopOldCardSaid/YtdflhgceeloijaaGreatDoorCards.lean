/-
  DERIVED. GIVEN WITH THE SEED: THE CARDS: each row of YtdflhgceeloijaaGreatDoorRows.lean that lists a variable, with what it lists TIED to the program's text (the seventh form; the later family's looks); each row that meets fmt, with fmt's text TOLD by the authors' own Lean function (tested against real Go, not proved from fmt's source: count such statements apart). THE CARD IS WHAT COUNTS. Prove the row's statement (the work); the ties are given (YtdflhgceeloijaaGreatDoorTie.lean); close each card by the builder's one call (the guide's Derived/Test/ToyasCard.lean, 'card_holds'). Laid BY PROGRAM, IN A SANDBOX (cutbox-door.mjs). By AI agents, Wed Nov 11 2026. No macro, syntax, notation, axiom, sorry.
-/
import Derived.Test.YtdflhgceeloijaaGreatDoorRows
import GoSem.ClaimSeven
namespace Go.Proofs.YtdflhgceeloijaaGreatDoor
namespace Rows

/-- THE TIED CARD OF 'sedimenttop.TopOld'. -/
def topOldCard : Claim7 := { stood := { row := topOldRow, standIns := [], harness := (true, "c26478a8600e5d7d2b1e8f477d36a4579b89b55b387ec8ccec81f37e61cd0588"), looks := true }, kinds := [], alts := [], laidByText := true, laidKinds := [.data, .data, .data, .data, .pinned], laidTests := true, laidLooks := .later }
def TopOldCardSaid : Prop := Claim7.holds Tryz.pinned (.plain (OpenSpec.ofChange topOldSpec)) topOldCard

/-- THE SECOND FORM's CARD OF 'sedimenttop.TopOld'. -/
def topOldUptoCard : Claim7 := { stood := { row := topOldUptoRow, standIns := [], harness := (true, "c26478a8600e5d7d2b1e8f477d36a4579b89b55b387ec8ccec81f37e61cd0588"), looks := true }, kinds := [], alts := [], laidByText := true, laidKinds := [.data, .data, .data, .data, .pinned], laidTests := true, laidLooks := .later }
def TopOldUptoCardSaid : Prop := Claim7.holds Tryz.pinned (.plain (OpenSpec.upto topOldSpec)) topOldUptoCard
end Rows
end Go.Proofs.YtdflhgceeloijaaGreatDoor
