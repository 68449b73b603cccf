/-
  No cell of these rows narrows 'for every input' (looked for: loops, veiled, ifaces, maps, wideKeys, modest, calm, conditions, laid).
  DERIVED. THE GIVEN ROWS OF THIS SEAT. 6 by the template 'for every input the law returns true; each argument reads behind the call as it read before'; 0 by the template 'total and deterministic' (their statements: YtafmeafepngngaaTotals.lean).
  GIVEN WITH THE SEED: the statements are not yours to turn. If you find one false, say at which input.
  Laid BY PROGRAM, IN A SANDBOX (cutbox-rows.mjs): the forced cells as the released guide's own fill.sh prints them over the translation 673d5c417ea4b0cb… (all of the seat's roots in one cut). By AI agents, Wed Nov 11 2026. No macro, syntax, notation, axiom, sorry.
-/
import Derived.Test.YtafmeafepngngaaChecked
import GoSem.Claim
import GoSem.ClaimJoined
import GoSem.ClaimMapViews
import Derived.JoinedTies
import Derived.KernelRfl
namespace Go.Proofs.Ytafmeafepngngaa
/- THE CELL 'sum', in the pinned program and in every row, IS THE sha256 OF THE DUMP (.gsa) THAT YtafmeafepngngaaProg.lean LOADS. Nothing in Lean hashes anything: it is a label: what it is worth is what the hold of that sum in a sandbox is worth. -/
noncomputable def Try.pinned : Pinned := { name := "ytafmeafepngngaa", sum := "673d5c417ea4b0cb2d4bba74e7ae4961d5b43bf2181242c9723c18bf280e2184", checked := Try.checked }
namespace Rows
def none {H : Type} : Left H := { results := [], args := [] }

/-- 'burrowlaw18.StageOrders': WHATEVER THE INPUT: true; the input reads as it did. -/
def stageOrdersSpec : ChangeSpec := { name := "stageOrders", fn := fun _ => fun
  | [d1, d2] => { results := [.lit (.bool true)], args := [d1, d2] }
  | _ => none }
def stageOrdersRow : OpenClaim := { program := "ytafmeafepngngaa", sum := "673d5c417ea4b0cb2d4bba74e7ae4961d5b43bf2181242c9723c18bf280e2184", func := "burrow/burrowlaw18.StageOrders", spec := "stageOrders", apart := false }
def StageOrdersSaid : Prop := stageOrdersRow.holds Try.pinned (OpenSpec.ofChange stageOrdersSpec)

/-- ITS FALSE NEIGHBOUR: 'it returns false'. Refute it at one input. -/
def stageOrdersWrong : ChangeSpec := { name := "stageOrders", fn := fun _ => fun
  | [d1, d2] => { results := [.lit (.bool false)], args := [d1, d2] }
  | _ => none }
def StageOrdersWrongFalsely : Prop := stageOrdersRow.holds Try.pinned (OpenSpec.ofChange stageOrdersWrong)

/-- 'burrowlaw23.RingConserves': WHATEVER THE INPUT: true; the input reads as it did. -/
def ringConservesSpec : ChangeSpec := { name := "ringConserves", fn := fun _ => fun
  | [d] => { results := [.lit (.bool true)], args := [d] }
  | _ => none }
def ringConservesRow : OpenClaim := { program := "ytafmeafepngngaa", sum := "673d5c417ea4b0cb2d4bba74e7ae4961d5b43bf2181242c9723c18bf280e2184", func := "burrow/burrowlaw23.RingConserves", spec := "ringConserves", apart := false }
def RingConservesSaid : Prop := ringConservesRow.holds Try.pinned (OpenSpec.ofChange ringConservesSpec)

/-- ITS FALSE NEIGHBOUR: 'it returns false'. Refute it at one input. -/
def ringConservesWrong : ChangeSpec := { name := "ringConserves", fn := fun _ => fun
  | [d] => { results := [.lit (.bool false)], args := [d] }
  | _ => none }
def RingConservesWrongFalsely : Prop := ringConservesRow.holds Try.pinned (OpenSpec.ofChange ringConservesWrong)

/-- 'burrowlaw18.StagePushes': WHATEVER THE INPUT: true; the input reads as it did. -/
def stagePushesSpec : ChangeSpec := { name := "stagePushes", fn := fun _ => fun
  | [d1, d2, d3] => { results := [.lit (.bool true)], args := [d1, d2, d3] }
  | _ => none }
def stagePushesRow : OpenClaim := { program := "ytafmeafepngngaa", sum := "673d5c417ea4b0cb2d4bba74e7ae4961d5b43bf2181242c9723c18bf280e2184", func := "burrow/burrowlaw18.StagePushes", spec := "stagePushes", apart := false }
def StagePushesSaid : Prop := stagePushesRow.holds Try.pinned (OpenSpec.ofChange stagePushesSpec)

/-- ITS FALSE NEIGHBOUR: 'it returns false'. Refute it at one input. -/
def stagePushesWrong : ChangeSpec := { name := "stagePushes", fn := fun _ => fun
  | [d1, d2, d3] => { results := [.lit (.bool false)], args := [d1, d2, d3] }
  | _ => none }
def StagePushesWrongFalsely : Prop := stagePushesRow.holds Try.pinned (OpenSpec.ofChange stagePushesWrong)

/-- 'burrowlaw34.ExplainWithin': WHATEVER THE INPUT: true; the input reads as it did. -/
def explainWithinSpec : ChangeSpec := { name := "explainWithin", fn := fun _ => fun
  | [d1, d2, d3, d4] => { results := [.lit (.bool true)], args := [d1, d2, d3, d4] }
  | _ => none }
def explainWithinRow : OpenClaim := { program := "ytafmeafepngngaa", sum := "673d5c417ea4b0cb2d4bba74e7ae4961d5b43bf2181242c9723c18bf280e2184", func := "burrow/burrowlaw34.ExplainWithin", spec := "explainWithin", apart := false }
def ExplainWithinSaid : Prop := explainWithinRow.holds Try.pinned (OpenSpec.ofChange explainWithinSpec)

/-- ITS FALSE NEIGHBOUR: 'it returns false'. Refute it at one input. -/
def explainWithinWrong : ChangeSpec := { name := "explainWithin", fn := fun _ => fun
  | [d1, d2, d3, d4] => { results := [.lit (.bool false)], args := [d1, d2, d3, d4] }
  | _ => none }
def ExplainWithinWrongFalsely : Prop := explainWithinRow.holds Try.pinned (OpenSpec.ofChange explainWithinWrong)

/-- 'burrowlaw23.RingPlaces': WHATEVER THE INPUT: true; the input reads as it did. -/
def ringPlacesSpec : ChangeSpec := { name := "ringPlaces", fn := fun _ => fun
  | [d1, d2, d3] => { results := [.lit (.bool true)], args := [d1, d2, d3] }
  | _ => none }
def ringPlacesRow : OpenClaim := { program := "ytafmeafepngngaa", sum := "673d5c417ea4b0cb2d4bba74e7ae4961d5b43bf2181242c9723c18bf280e2184", func := "burrow/burrowlaw23.RingPlaces", spec := "ringPlaces", unfollowed := true, recurses := true, apart := false }
def RingPlacesSaid : Prop := ringPlacesRow.holds Try.pinned (OpenSpec.ofChange ringPlacesSpec)

/-- ITS FALSE NEIGHBOUR: 'it returns false'. Refute it at one input. -/
def ringPlacesWrong : ChangeSpec := { name := "ringPlaces", fn := fun _ => fun
  | [d1, d2, d3] => { results := [.lit (.bool false)], args := [d1, d2, d3] }
  | _ => none }
def RingPlacesWrongFalsely : Prop := ringPlacesRow.holds Try.pinned (OpenSpec.ofChange ringPlacesWrong)

/-- 'burrowlaw29.FenceReserves': WHATEVER THE INPUT: true; the input reads as it did. -/
def fenceReservesSpec : ChangeSpec := { name := "fenceReserves", fn := fun _ => fun
  | [d1, d2, d3, d4] => { results := [.lit (.bool true)], args := [d1, d2, d3, d4] }
  | _ => none }
def fenceReservesRow : OpenClaim := { program := "ytafmeafepngngaa", sum := "673d5c417ea4b0cb2d4bba74e7ae4961d5b43bf2181242c9723c18bf280e2184", func := "burrow/burrowlaw29.FenceReserves", spec := "fenceReserves", unfollowed := true, recurses := true, apart := false }
def FenceReservesSaid : Prop := fenceReservesRow.holds Try.pinned (OpenSpec.ofChange fenceReservesSpec)

/-- ITS FALSE NEIGHBOUR: 'it returns false'. Refute it at one input. -/
def fenceReservesWrong : ChangeSpec := { name := "fenceReserves", fn := fun _ => fun
  | [d1, d2, d3, d4] => { results := [.lit (.bool false)], args := [d1, d2, d3, d4] }
  | _ => none }
def FenceReservesWrongFalsely : Prop := fenceReservesRow.holds Try.pinned (OpenSpec.ofChange fenceReservesWrong)

/- THE SECOND FORM. 'bulk': how many values and letters a reading holds, each counted each time it is reached (what is shared counts as often as it is met; a slice's spare places count too). A statement '..UptoSaid' is the law's where the arguments, and the package variables that the reading takes, are together of bulk at most 1048576: NARROWER than '..Said'. Prove '..Said' where nothing that the law and all that it calls make is longer than what came in: it says more and counts as full. Else prove '..UptoSaid'. A law counts once. -/
mutual
def uptoBulk {H : Type} : DataW H → Nat
  | .lit (.string bytes) => bytes.length + 1
  | .lit _ => 1
  | .nil => 1
  | .ptr d => uptoBulk d + 1
  | .slice elems spare => uptoBulkAll elems + uptoBulkAll spare + 1
  | .agg parts => uptoBulkAll parts + 1
  | .iface _ d => uptoBulk d + 1
  | .map entries => uptoBulkEntries entries + 1
  | .held _ => 1
def uptoBulkAll {H : Type} : List (DataW H) → Nat
  | [] => 0
  | d :: r => uptoBulk d + uptoBulkAll r
def uptoBulkEntries {H : Type} : List (Lit × DataW H) → Nat
  | [] => 0
  | x :: r => uptoBulkEntry x + uptoBulkEntries r
def uptoBulkEntry {H : Type} : Lit × DataW H → Nat
  | (.string bytes, d) => bytes.length + uptoBulk d + 1
  | (_, d) => uptoBulk d + 1
 end
def uptoSmall : (H : Type) → List (DataW H) → Bool := fun _ ds => decide (uptoBulkAll ds ≤ 1048576)
def OpenSpec.upto (s : _root_.Go.ChangeSpec) : _root_.Go.OpenSpec := { _root_.Go.OpenSpec.ofChange s with cond := some uptoSmall }

/-- 'burrowlaw18.StageOrders', WHERE WHAT IT READS IS OF BULK AT MOST 1048576: true; the input reads as it did. -/
def stageOrdersUptoRow : OpenClaim := { program := "ytafmeafepngngaa", sum := "673d5c417ea4b0cb2d4bba74e7ae4961d5b43bf2181242c9723c18bf280e2184", func := "burrow/burrowlaw18.StageOrders", spec := "stageOrders", apart := false, narrowed := true }
def StageOrdersUptoSaid : Prop := stageOrdersUptoRow.holds Try.pinned (OpenSpec.upto stageOrdersSpec)

/-- 'burrowlaw23.RingConserves', WHERE WHAT IT READS IS OF BULK AT MOST 1048576: true; the input reads as it did. -/
def ringConservesUptoRow : OpenClaim := { program := "ytafmeafepngngaa", sum := "673d5c417ea4b0cb2d4bba74e7ae4961d5b43bf2181242c9723c18bf280e2184", func := "burrow/burrowlaw23.RingConserves", spec := "ringConserves", apart := false, narrowed := true }
def RingConservesUptoSaid : Prop := ringConservesUptoRow.holds Try.pinned (OpenSpec.upto ringConservesSpec)

/-- 'burrowlaw18.StagePushes', WHERE WHAT IT READS IS OF BULK AT MOST 1048576: true; the input reads as it did. -/
def stagePushesUptoRow : OpenClaim := { program := "ytafmeafepngngaa", sum := "673d5c417ea4b0cb2d4bba74e7ae4961d5b43bf2181242c9723c18bf280e2184", func := "burrow/burrowlaw18.StagePushes", spec := "stagePushes", apart := false, narrowed := true }
def StagePushesUptoSaid : Prop := stagePushesUptoRow.holds Try.pinned (OpenSpec.upto stagePushesSpec)

/-- 'burrowlaw34.ExplainWithin', WHERE WHAT IT READS IS OF BULK AT MOST 1048576: true; the input reads as it did. -/
def explainWithinUptoRow : OpenClaim := { program := "ytafmeafepngngaa", sum := "673d5c417ea4b0cb2d4bba74e7ae4961d5b43bf2181242c9723c18bf280e2184", func := "burrow/burrowlaw34.ExplainWithin", spec := "explainWithin", apart := false, narrowed := true }
def ExplainWithinUptoSaid : Prop := explainWithinUptoRow.holds Try.pinned (OpenSpec.upto explainWithinSpec)

/-- 'burrowlaw23.RingPlaces', WHERE WHAT IT READS IS OF BULK AT MOST 1048576: true; the input reads as it did. -/
def ringPlacesUptoRow : OpenClaim := { program := "ytafmeafepngngaa", sum := "673d5c417ea4b0cb2d4bba74e7ae4961d5b43bf2181242c9723c18bf280e2184", func := "burrow/burrowlaw23.RingPlaces", spec := "ringPlaces", unfollowed := true, recurses := true, apart := false, narrowed := true }
def RingPlacesUptoSaid : Prop := ringPlacesUptoRow.holds Try.pinned (OpenSpec.upto ringPlacesSpec)

/-- 'burrowlaw29.FenceReserves', WHERE WHAT IT READS IS OF BULK AT MOST 1048576: true; the input reads as it did. -/
def fenceReservesUptoRow : OpenClaim := { program := "ytafmeafepngngaa", sum := "673d5c417ea4b0cb2d4bba74e7ae4961d5b43bf2181242c9723c18bf280e2184", func := "burrow/burrowlaw29.FenceReserves", spec := "fenceReserves", unfollowed := true, recurses := true, apart := false, narrowed := true }
def FenceReservesUptoSaid : Prop := fenceReservesUptoRow.holds Try.pinned (OpenSpec.upto fenceReservesSpec)

end Rows
end Go.Proofs.Ytafmeafepngngaa
