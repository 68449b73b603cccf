/- The law FenceDivides, by the words of the statement. No condition. -/
import Derived.Test.YtdfkcobijmbidaaGreatC5
import Derived.Test.YtdfkcobijmbidaaGreatA6
import Derived.Shelf.Abstract
import Derived.Test.YtdfkcobijmbidaaGreatRows
import Derived.ProofKit
set_option linter.all false
namespace Go.Proofs.YtdfkcobijmbidaaGreat
open Go.Ab
theorem own : ownKnob Tryz.prog.godebug = none := by kernel_rfl
theorem isBulk (H : Type) : IsBulk (H := H) Rows.uptoBulk Rows.uptoBulkAll where
  str l := by simp [Rows.uptoBulk]
  lit l := by cases l <;> simp [Rows.uptoBulk]
  nil := by simp [Rows.uptoBulk]
  slice l s := by simp [Rows.uptoBulk]
  agg l := by simp [Rows.uptoBulk]
  nilL := by simp [Rows.uptoBulkAll]
  consL d l := by simp [Rows.uptoBulkAll]
set_option maxRecDepth 100000 in
theorem fenceDivides_abs {l : List PV} (h : tyL (TyP Pg 20) Tryz.f6.params.toList l) : ARet Pg 6 l (.bl true) := by
  rw [Tryz.params6] at h
  obtain ⟨p1, l, rfl, h1, h⟩ := tyL_cons h
  obtain ⟨p2, l, rfl, h2, h⟩ := tyL_cons h
  obtain ⟨p3, l, rfl, h3, h⟩ := tyL_cons h
  obtain rfl := tyL_nil h
  obtain ⟨b, rfl, _, c1⟩ := ty_bytes Tryz.underlying23 Tryz.underlying5 (by kernel_rfl) h1
  obtain ⟨o, rfl, _, c2⟩ := ty_bytes Tryz.underlying23 Tryz.underlying5 (by kernel_rfl) h2
  obtain ⟨n, rfl, n0, n1⟩ := ty_int Tryz.underlying66 h3
  exact burrowlaw29_FenceDivides (by simpa [maxLen] using c1) (by simpa [maxLen] using c2) ⟨n0, n1⟩
set_option maxRecDepth 100000 in
theorem lifted (os : Os) (started : os.Started) (H : Type) (enc : TypeId × Value → H) :
    ReturnsInHanded {} Tryz.checked os 6 .any (Rows.fenceDividesSpec.pre6 enc Tryz.prog Tryz.f6 Rows.fenceDividesRow.domain false) (Rows.fenceDividesSpec.post enc Tryz.prog Tryz.f6 false true false false) := by
  refine returnsInHanded_of_change (C := Tryz.checked) own started (by kernel_rfl) Tryz.func6
    (ChangeSpec.witness6 (enc := enc) (C := Tryz.checked) false ⟨#[], #[.slice none 0 0, .slice none 0 0, .int .u16 0], []⟩ 8 (by kernel_rfl) (by kernel_rfl) (by kernel_rfl) (by kernel_rfl)) ?_
  intro W base args ds gs before hval hW _ _
  exact law_contract (P := Tryz.prog) (f := 6) (n := 20) (tb := 4) (isBulk H) (by kernel_rfl) Tryz.underlying4 rfl
    (fun ds hd => by rw [Tryz.params6] at hd; match ds, hd with | [_, _, _], _ => exact ⟨rfl, rfl, rfl⟩) (by kernel_rfl) hval hW (fun l hl _ => fenceDivides_abs hl) (fun b cs h => by cases h) (enters_of Tryz.func6 (by kernel_rfl) rfl)
set_option maxHeartbeats 4000000 in
theorem closed : joinedFacts Tryz.prog 6 Tryz.f6 Rows.fenceDividesSpec Rows.fenceDividesRow = true := by
  simp only [joinedFacts, Bool.and_eq_true]
  repeat' apply And.intro
  all_goals (as_aux_lemma => kernel_rfl)
theorem named : Tryz.prog.funcNamed "burrow/burrowlaw29.FenceDivides" = some 6 := by kernel_rfl
theorem inst : Tryz.f6.isInstance Tryz.prog Rows.fenceDividesRow.origin Rows.fenceDividesRow.targs := of_decide_eq_true (by kernel_rfl)
theorem wrapper : Tryz.f6.isWrapper Tryz.prog Rows.fenceDividesRow.wrapper Rows.fenceDividesRow.mainSum := by
  unfold Func.isWrapper; first | (rw [if_pos (by decide +kernel)]; kernel_rfl) | (rw [if_neg (by decide +kernel)]; exact ⟨rfl, rfl⟩)
theorem fenceDivides_holds : Rows.FenceDividesSaid :=
  OpenClaim.holds_of_wide 6 Tryz.f6 rfl rfl rfl rfl rfl rfl rfl ⟨rfl, rfl, rfl, rfl, rfl⟩ rfl rfl rfl rfl rfl named Tryz.func6 closed
    inst wrapper
    (fun os started H enc _ => lifted os started H enc)
#print axioms fenceDivides_holds
end Go.Proofs.YtdfkcobijmbidaaGreat
