/-
  DERIVED. GIVEN WITH THE SEED: THE CARDS: each row of YtlcojgogfjlceaaGreatDoorRows.lean that lists a variable, with what it lists TIED to the program's text (the seventh form; the later family's looks); each row that meets fmt, with fmt's text TOLD by the authors' own Lean function (tested against real Go, not proved from fmt's source: count such statements apart). THE CARD IS WHAT COUNTS. Prove the row's statement (the work); the ties are given (YtlcojgogfjlceaaGreatDoorTie.lean); close each card by the builder's one call (the guide's Derived/Test/ToyasCard.lean, 'card_holds'). Laid BY PROGRAM, IN A SANDBOX (cutbox-door.mjs). By AI agents, Wed Nov 11 2026. No macro, syntax, notation, axiom, sorry.
-/
import Derived.Test.YtlcojgogfjlceaaGreatDoorRows
import GoSem.ClaimSeven
namespace Go.Proofs.YtlcojgogfjlceaaGreatDoor
namespace Rows

/-- THE TIED CARD OF 'burrowlaw24.DaemonTicks'. -/
def daemonTicksCard : Claim7 := { stood := { row := daemonTicksRow, standIns := [], harness := (true, "4f3f114e5222b1d66630e28149c2d158f86ad0ec525e9bb0dd179e753cabd2b4"), looks := true }, kinds := [], alts := [], laidByText := true, laidKinds := [.data, .data, .data], laidTests := true, laidLooks := .later }
def DaemonTicksCardSaid : Prop := Claim7.holds Tryz.pinned (.plain (OpenSpec.ofChange daemonTicksSpec)) daemonTicksCard

/-- THE TIED CARD OF 'burrowlaw24.DaemonExpires'. -/
def daemonExpiresCard : Claim7 := { stood := { row := daemonExpiresRow, standIns := [], harness := (true, "4f3f114e5222b1d66630e28149c2d158f86ad0ec525e9bb0dd179e753cabd2b4"), looks := true }, kinds := [], alts := [], laidByText := true, laidKinds := [.data, .data, .data], laidTests := true, laidLooks := .later }
def DaemonExpiresCardSaid : Prop := Claim7.holds Tryz.pinned (.plain (OpenSpec.ofChange daemonExpiresSpec)) daemonExpiresCard

/-- THE SECOND FORM's CARD OF 'burrowlaw24.DaemonTicks'. -/
def daemonTicksUptoCard : Claim7 := { stood := { row := daemonTicksUptoRow, standIns := [], harness := (true, "4f3f114e5222b1d66630e28149c2d158f86ad0ec525e9bb0dd179e753cabd2b4"), looks := true }, kinds := [], alts := [], laidByText := true, laidKinds := [.data, .data, .data], laidTests := true, laidLooks := .later }
def DaemonTicksUptoCardSaid : Prop := Claim7.holds Tryz.pinned (.plain (OpenSpec.upto daemonTicksSpec)) daemonTicksUptoCard

/-- THE SECOND FORM's CARD OF 'burrowlaw24.DaemonExpires'. -/
def daemonExpiresUptoCard : Claim7 := { stood := { row := daemonExpiresUptoRow, standIns := [], harness := (true, "4f3f114e5222b1d66630e28149c2d158f86ad0ec525e9bb0dd179e753cabd2b4"), looks := true }, kinds := [], alts := [], laidByText := true, laidKinds := [.data, .data, .data], laidTests := true, laidLooks := .later }
def DaemonExpiresUptoCardSaid : Prop := Claim7.holds Tryz.pinned (.plain (OpenSpec.upto daemonExpiresSpec)) daemonExpiresUptoCard
end Rows
end Go.Proofs.YtlcojgogfjlceaaGreatDoor
