/-
  DERIVED. GIVEN WITH THE SEED: THE CARDS: each row of YtjkfnhhekobfgaaGreatDoorRows.lean that lists a variable, with what it lists TIED to the program's text (the seventh form; the later family's looks); each row that meets fmt, with fmt's text TOLD by the authors' own Lean function (tested against real Go, not proved from fmt's source: count such statements apart). THE CARD IS WHAT COUNTS. Prove the row's statement (the work); the ties are given (YtjkfnhhekobfgaaGreatDoorTie.lean); close each card by the builder's one call (the guide's Derived/Test/ToyasCard.lean, 'card_holds'). Laid BY PROGRAM, IN A SANDBOX (cutbox-door.mjs). By AI agents, Wed Nov 11 2026. No macro, syntax, notation, axiom, sorry.
-/
import Derived.Test.YtjkfnhhekobfgaaGreatDoorRows
import GoSem.ClaimSeven
namespace Go.Proofs.YtjkfnhhekobfgaaGreatDoor
namespace Rows

/-- THE TIED CARD OF 'burrowlaw28.SaneRules'. -/
def saneRulesCard : Claim7 := { stood := { row := saneRulesRow, standIns := [], harness := (true, "fa84d4168e9d61bc77687ccb19f4de9114ec176ba3592e980b43b35bd2aea7ab"), looks := false }, kinds := [], alts := [], laidByText := true, laidKinds := [.data, .data, .data], laidTests := true, laidLooks := .later }
def SaneRulesCardSaid : Prop := Claim7.holds Tryz.pinned (.plain (OpenSpec.ofChange saneRulesSpec)) saneRulesCard

/-- THE TIED CARD OF 'burrowlaw29.FenceReturns'. -/
def fenceReturnsCard : Claim7 := { stood := { row := fenceReturnsRow, standIns := [], harness := (true, "fa84d4168e9d61bc77687ccb19f4de9114ec176ba3592e980b43b35bd2aea7ab"), looks := false }, kinds := [], alts := [], laidByText := true, laidKinds := [.data, .data, .data], laidTests := true, laidLooks := .later }
def FenceReturnsCardSaid : Prop := Claim7.holds Tryz.pinned (.plain (OpenSpec.ofChange fenceReturnsSpec)) fenceReturnsCard

/-- THE SECOND FORM's CARD OF 'burrowlaw28.SaneRules'. -/
def saneRulesUptoCard : Claim7 := { stood := { row := saneRulesUptoRow, standIns := [], harness := (true, "fa84d4168e9d61bc77687ccb19f4de9114ec176ba3592e980b43b35bd2aea7ab"), looks := false }, kinds := [], alts := [], laidByText := true, laidKinds := [.data, .data, .data], laidTests := true, laidLooks := .later }
def SaneRulesUptoCardSaid : Prop := Claim7.holds Tryz.pinned (.plain (OpenSpec.upto saneRulesSpec)) saneRulesUptoCard

/-- THE SECOND FORM's CARD OF 'burrowlaw29.FenceReturns'. -/
def fenceReturnsUptoCard : Claim7 := { stood := { row := fenceReturnsUptoRow, standIns := [], harness := (true, "fa84d4168e9d61bc77687ccb19f4de9114ec176ba3592e980b43b35bd2aea7ab"), looks := false }, kinds := [], alts := [], laidByText := true, laidKinds := [.data, .data, .data], laidTests := true, laidLooks := .later }
def FenceReturnsUptoCardSaid : Prop := Claim7.holds Tryz.pinned (.plain (OpenSpec.upto fenceReturnsSpec)) fenceReturnsUptoCard
end Rows
end Go.Proofs.YtjkfnhhekobfgaaGreatDoor
