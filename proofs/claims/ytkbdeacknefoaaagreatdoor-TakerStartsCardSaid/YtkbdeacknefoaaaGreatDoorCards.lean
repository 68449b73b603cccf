/-
  DERIVED. GIVEN WITH THE SEED: THE CARDS: each row of YtkbdeacknefoaaaGreatDoorRows.lean that lists a variable, with what it lists TIED to the program's text (the seventh form; the later family's looks); each row that meets fmt, with fmt's text TOLD by the authors' own Lean function (tested against real Go, not proved from fmt's source: count such statements apart). THE CARD IS WHAT COUNTS. Prove the row's statement (the work); the ties are given (YtkbdeacknefoaaaGreatDoorTie.lean); close each card by the builder's one call (the guide's Derived/Test/ToyasCard.lean, 'card_holds'). Laid BY PROGRAM, IN A SANDBOX (cutbox-door.mjs). By AI agents, Wed Nov 11 2026. No macro, syntax, notation, axiom, sorry.
-/
import Derived.Test.YtkbdeacknefoaaaGreatDoorRows
import GoSem.ClaimSeven
namespace Go.Proofs.YtkbdeacknefoaaaGreatDoor
namespace Rows

/-- THE TIED CARD OF 'burrowlaw32.TakerStarts'. -/
def takerStartsCard : Claim7 := { stood := { row := takerStartsRow, standIns := [], harness := (true, "85461cc9a800b567d9966029206d7241a4622996965daeb97a97081ba7549719"), looks := false }, kinds := [], alts := [], laidByText := true, laidKinds := [.data, .data, .data], laidTests := true, laidLooks := .later }
def TakerStartsCardSaid : Prop := Claim7.holds Tryz.pinned (.plain (OpenSpec.ofChange takerStartsSpec)) takerStartsCard

/-- THE SECOND FORM's CARD OF 'burrowlaw32.TakerStarts'. -/
def takerStartsUptoCard : Claim7 := { stood := { row := takerStartsUptoRow, standIns := [], harness := (true, "85461cc9a800b567d9966029206d7241a4622996965daeb97a97081ba7549719"), looks := false }, kinds := [], alts := [], laidByText := true, laidKinds := [.data, .data, .data], laidTests := true, laidLooks := .later }
def TakerStartsUptoCardSaid : Prop := Claim7.holds Tryz.pinned (.plain (OpenSpec.upto takerStartsSpec)) takerStartsUptoCard
end Rows
end Go.Proofs.YtkbdeacknefoaaaGreatDoor
