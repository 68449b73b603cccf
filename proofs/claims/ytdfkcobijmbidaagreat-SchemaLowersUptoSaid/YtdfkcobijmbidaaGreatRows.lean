/-
  No cell of these rows narrows 'for every input' (looked for: loops, veiled, ifaces, maps, wideKeys, modest, calm, conditions, laid).
  DERIVED. THE GIVEN ROWS OF THIS SEAT. 4 by the template 'for every input the law returns true; each argument reads behind the call as it read before'; 0 by the template 'total and deterministic' (their statements: YtdfkcobijmbidaaGreatTotals.lean).
  GIVEN WITH THE SEED: the statements are not yours to turn. If you find one false, say at which input.
  Laid BY PROGRAM, IN A SANDBOX (cutbox-rows.mjs): the forced cells as the released guide's own fill.sh prints them over the translation 8d4f35ee9894b9d6… (all of the seat's roots in one cut). By AI agents, Wed Nov 11 2026. No macro, syntax, notation, axiom, sorry.
-/
import Derived.Test.YtdfkcobijmbidaaGreatChecked
import GoSem.Claim
import GoSem.ClaimJoined
import GoSem.ClaimMapViews
import Derived.JoinedTies
import Derived.KernelRfl
namespace Go.Proofs.YtdfkcobijmbidaaGreat
/- THE CELL 'sum', in the pinned program and in every row, IS THE sha256 OF THE DUMP (.gsa) THAT YtdfkcobijmbidaaGreatProg.lean LOADS. Nothing in Lean hashes anything: it is a label: what it is worth is what the hold of that sum in a sandbox is worth. -/
noncomputable def Tryz.pinned : Pinned := { name := "ytdfkcobijmbidaagreat", sum := "8d4f35ee9894b9d6e72695739f5c810b5c68760102ea668b89a34afc89fddea1", checked := Tryz.checked }
namespace Rows
def none {H : Type} : Left H := { results := [], args := [] }

/-- 'burrowlaw36.AuditFinds': WHATEVER THE INPUT: true; the input reads as it did. -/
def auditFindsSpec : ChangeSpec := { name := "auditFinds", fn := fun _ => fun
  | [d1, d2, d3, d4, d5, d6, d7] => { results := [.lit (.bool true)], args := [d1, d2, d3, d4, d5, d6, d7] }
  | _ => none }
def auditFindsRow : OpenClaim := { program := "ytdfkcobijmbidaagreat", sum := "8d4f35ee9894b9d6e72695739f5c810b5c68760102ea668b89a34afc89fddea1", func := "burrow/burrowlaw36.AuditFinds", spec := "auditFinds", unfollowed := true, recurses := true, plainKeys := false, apart := false }
def AuditFindsSaid : Prop := auditFindsRow.holds Tryz.pinned (OpenSpec.ofChange auditFindsSpec)

/-- ITS FALSE NEIGHBOUR: 'it returns false'. Refute it at one input. -/
def auditFindsWrong : ChangeSpec := { name := "auditFinds", fn := fun _ => fun
  | [d1, d2, d3, d4, d5, d6, d7] => { results := [.lit (.bool false)], args := [d1, d2, d3, d4, d5, d6, d7] }
  | _ => none }
def AuditFindsWrongFalsely : Prop := auditFindsRow.holds Tryz.pinned (OpenSpec.ofChange auditFindsWrong)

/-- 'burrowlaw26.SchemaSafe': WHATEVER THE INPUT: true; the input reads as it did. -/
def schemaSafeSpec : ChangeSpec := { name := "schemaSafe", fn := fun _ => fun
  | [d1, d2, d3, d4] => { results := [.lit (.bool true)], args := [d1, d2, d3, d4] }
  | _ => none }
def schemaSafeRow : OpenClaim := { program := "ytdfkcobijmbidaagreat", sum := "8d4f35ee9894b9d6e72695739f5c810b5c68760102ea668b89a34afc89fddea1", func := "burrow/burrowlaw26.SchemaSafe", spec := "schemaSafe", inPlace := ["internal/bytealg.Compare", "slices.overlaps[burrow/api.Timer]"], unfollowed := true, recurses := true, plainKeys := false, apart := false }
def SchemaSafeSaid : Prop := schemaSafeRow.holds Tryz.pinned (OpenSpec.ofChange schemaSafeSpec)

/-- ITS FALSE NEIGHBOUR: 'it returns false'. Refute it at one input. -/
def schemaSafeWrong : ChangeSpec := { name := "schemaSafe", fn := fun _ => fun
  | [d1, d2, d3, d4] => { results := [.lit (.bool false)], args := [d1, d2, d3, d4] }
  | _ => none }
def SchemaSafeWrongFalsely : Prop := schemaSafeRow.holds Tryz.pinned (OpenSpec.ofChange schemaSafeWrong)

/-- 'burrowlaw26.SchemaLowers': WHATEVER THE INPUT: true; the input reads as it did. -/
def schemaLowersSpec : ChangeSpec := { name := "schemaLowers", fn := fun _ => fun
  | [d1, d2, d3, d4] => { results := [.lit (.bool true)], args := [d1, d2, d3, d4] }
  | _ => none }
def schemaLowersRow : OpenClaim := { program := "ytdfkcobijmbidaagreat", sum := "8d4f35ee9894b9d6e72695739f5c810b5c68760102ea668b89a34afc89fddea1", func := "burrow/burrowlaw26.SchemaLowers", spec := "schemaLowers", inPlace := ["internal/bytealg.Compare", "slices.overlaps[burrow/api.Timer]"], unfollowed := true, recurses := true, plainKeys := false, apart := false }
def SchemaLowersSaid : Prop := schemaLowersRow.holds Tryz.pinned (OpenSpec.ofChange schemaLowersSpec)

/-- ITS FALSE NEIGHBOUR: 'it returns false'. Refute it at one input. -/
def schemaLowersWrong : ChangeSpec := { name := "schemaLowers", fn := fun _ => fun
  | [d1, d2, d3, d4] => { results := [.lit (.bool false)], args := [d1, d2, d3, d4] }
  | _ => none }
def SchemaLowersWrongFalsely : Prop := schemaLowersRow.holds Tryz.pinned (OpenSpec.ofChange schemaLowersWrong)

/-- 'burrowlaw29.FenceDivides': WHATEVER THE INPUT: true; the input reads as it did. -/
def fenceDividesSpec : ChangeSpec := { name := "fenceDivides", fn := fun _ => fun
  | [d1, d2, d3] => { results := [.lit (.bool true)], args := [d1, d2, d3] }
  | _ => none }
def fenceDividesRow : OpenClaim := { program := "ytdfkcobijmbidaagreat", sum := "8d4f35ee9894b9d6e72695739f5c810b5c68760102ea668b89a34afc89fddea1", func := "burrow/burrowlaw29.FenceDivides", spec := "fenceDivides", inPlace := ["math/bits.Add64", "math/bits.Sub64"], unfollowed := true, recurses := true, plainKeys := false, apart := false }
def FenceDividesSaid : Prop := fenceDividesRow.holds Tryz.pinned (OpenSpec.ofChange fenceDividesSpec)

/-- ITS FALSE NEIGHBOUR: 'it returns false'. Refute it at one input. -/
def fenceDividesWrong : ChangeSpec := { name := "fenceDivides", fn := fun _ => fun
  | [d1, d2, d3] => { results := [.lit (.bool false)], args := [d1, d2, d3] }
  | _ => none }
def FenceDividesWrongFalsely : Prop := fenceDividesRow.holds Tryz.pinned (OpenSpec.ofChange fenceDividesWrong)

/- THE SECOND FORM. 'bulk': how many values and letters a reading holds, each counted each time it is reached (what is shared counts as often as it is met; a slice's spare places count too). A statement '..UptoSaid' is the law's where the arguments, and the package variables that the reading takes, are together of bulk at most 1048576: NARROWER than '..Said'. Prove '..Said' where nothing that the law and all that it calls make is longer than what came in: it says more and counts as full. Else prove '..UptoSaid'. A law counts once. -/
mutual
def uptoBulk {H : Type} : DataW H → Nat
  | .lit (.string bytes) => bytes.length + 1
  | .lit _ => 1
  | .nil => 1
  | .ptr d => uptoBulk d + 1
  | .slice elems spare => uptoBulkAll elems + uptoBulkAll spare + 1
  | .agg parts => uptoBulkAll parts + 1
  | .iface _ d => uptoBulk d + 1
  | .map entries => uptoBulkEntries entries + 1
  | .held _ => 1
def uptoBulkAll {H : Type} : List (DataW H) → Nat
  | [] => 0
  | d :: r => uptoBulk d + uptoBulkAll r
def uptoBulkEntries {H : Type} : List (Lit × DataW H) → Nat
  | [] => 0
  | x :: r => uptoBulkEntry x + uptoBulkEntries r
def uptoBulkEntry {H : Type} : Lit × DataW H → Nat
  | (.string bytes, d) => bytes.length + uptoBulk d + 1
  | (_, d) => uptoBulk d + 1
 end
def uptoSmall : (H : Type) → List (DataW H) → Bool := fun _ ds => decide (uptoBulkAll ds ≤ 1048576)
def OpenSpec.upto (s : _root_.Go.ChangeSpec) : _root_.Go.OpenSpec := { _root_.Go.OpenSpec.ofChange s with cond := some uptoSmall }

/-- 'burrowlaw36.AuditFinds', WHERE WHAT IT READS IS OF BULK AT MOST 1048576: true; the input reads as it did. -/
def auditFindsUptoRow : OpenClaim := { program := "ytdfkcobijmbidaagreat", sum := "8d4f35ee9894b9d6e72695739f5c810b5c68760102ea668b89a34afc89fddea1", func := "burrow/burrowlaw36.AuditFinds", spec := "auditFinds", unfollowed := true, recurses := true, plainKeys := false, apart := false, narrowed := true }
def AuditFindsUptoSaid : Prop := auditFindsUptoRow.holds Tryz.pinned (OpenSpec.upto auditFindsSpec)

/-- 'burrowlaw26.SchemaSafe', WHERE WHAT IT READS IS OF BULK AT MOST 1048576: true; the input reads as it did. -/
def schemaSafeUptoRow : OpenClaim := { program := "ytdfkcobijmbidaagreat", sum := "8d4f35ee9894b9d6e72695739f5c810b5c68760102ea668b89a34afc89fddea1", func := "burrow/burrowlaw26.SchemaSafe", spec := "schemaSafe", inPlace := ["internal/bytealg.Compare", "slices.overlaps[burrow/api.Timer]"], unfollowed := true, recurses := true, plainKeys := false, apart := false, narrowed := true }
def SchemaSafeUptoSaid : Prop := schemaSafeUptoRow.holds Tryz.pinned (OpenSpec.upto schemaSafeSpec)

/-- 'burrowlaw26.SchemaLowers', WHERE WHAT IT READS IS OF BULK AT MOST 1048576: true; the input reads as it did. -/
def schemaLowersUptoRow : OpenClaim := { program := "ytdfkcobijmbidaagreat", sum := "8d4f35ee9894b9d6e72695739f5c810b5c68760102ea668b89a34afc89fddea1", func := "burrow/burrowlaw26.SchemaLowers", spec := "schemaLowers", inPlace := ["internal/bytealg.Compare", "slices.overlaps[burrow/api.Timer]"], unfollowed := true, recurses := true, plainKeys := false, apart := false, narrowed := true }
def SchemaLowersUptoSaid : Prop := schemaLowersUptoRow.holds Tryz.pinned (OpenSpec.upto schemaLowersSpec)

/-- 'burrowlaw29.FenceDivides', WHERE WHAT IT READS IS OF BULK AT MOST 1048576: true; the input reads as it did. -/
def fenceDividesUptoRow : OpenClaim := { program := "ytdfkcobijmbidaagreat", sum := "8d4f35ee9894b9d6e72695739f5c810b5c68760102ea668b89a34afc89fddea1", func := "burrow/burrowlaw29.FenceDivides", spec := "fenceDivides", inPlace := ["math/bits.Add64", "math/bits.Sub64"], unfollowed := true, recurses := true, plainKeys := false, apart := false, narrowed := true }
def FenceDividesUptoSaid : Prop := fenceDividesUptoRow.holds Tryz.pinned (OpenSpec.upto fenceDividesSpec)

end Rows
end Go.Proofs.YtdfkcobijmbidaaGreat
