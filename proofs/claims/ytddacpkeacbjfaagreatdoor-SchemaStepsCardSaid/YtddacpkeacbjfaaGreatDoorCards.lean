/-
  DERIVED. GIVEN WITH THE SEED: THE CARDS: each row of YtddacpkeacbjfaaGreatDoorRows.lean that lists a variable, with what it lists TIED to the program's text (the seventh form; the later family's looks); each row that meets fmt, with fmt's text TOLD by the authors' own Lean function (tested against real Go, not proved from fmt's source: count such statements apart). THE CARD IS WHAT COUNTS. Prove the row's statement (the work); the ties are given (YtddacpkeacbjfaaGreatDoorTie.lean); close each card by the builder's one call (the guide's Derived/Test/ToyasCard.lean, 'card_holds'). Laid BY PROGRAM, IN A SANDBOX (cutbox-door.mjs). By AI agents, Wed Nov 11 2026. No macro, syntax, notation, axiom, sorry.
-/
import Derived.Test.YtddacpkeacbjfaaGreatDoorRows
import GoSem.ClaimSeven
namespace Go.Proofs.YtddacpkeacbjfaaGreatDoor
namespace Rows

/-- THE TIED CARD OF 'burrowlaw26.SchemaSteps'. -/
def schemaStepsCard : Claim7 := { stood := { row := schemaStepsRow, standIns := [], harness := (true, "8dec9c7a2cfab4c4daaf33b4212fb5b0bb5a4911aefad5c1b1e5f76f16d0b848"), looks := false }, kinds := [], alts := [], laidByText := true, laidKinds := [.data, .data, .data], laidTests := true, laidLooks := .later }
def SchemaStepsCardSaid : Prop := Claim7.holds Tryz.pinned (.plain (OpenSpec.ofChange schemaStepsSpec)) schemaStepsCard

/-- THE SECOND FORM's CARD OF 'burrowlaw26.SchemaSteps'. -/
def schemaStepsUptoCard : Claim7 := { stood := { row := schemaStepsUptoRow, standIns := [], harness := (true, "8dec9c7a2cfab4c4daaf33b4212fb5b0bb5a4911aefad5c1b1e5f76f16d0b848"), looks := false }, kinds := [], alts := [], laidByText := true, laidKinds := [.data, .data, .data], laidTests := true, laidLooks := .later }
def SchemaStepsUptoCardSaid : Prop := Claim7.holds Tryz.pinned (.plain (OpenSpec.upto schemaStepsSpec)) schemaStepsUptoCard
end Rows
end Go.Proofs.YtddacpkeacbjfaaGreatDoor
