/- The law RingConserves, by the statement's words. -/
import Derived.Test.YtafmeafepngngaaR4
import Derived.Test.YtafmeafepngngaaA6
import Derived.Test.YtafmeafepngngaaRows
import Derived.ProofKit
set_option linter.all false
namespace Go.Proofs.Ytafmeafepngngaa.ring
open Go.Ab

theorem own : ownKnob Try.prog.godebug = none := by kernel_rfl
theorem isBulk (H : Type) : IsBulk (H := H) Rows.uptoBulk Rows.uptoBulkAll where
  str l := by simp [Rows.uptoBulk]
  lit l := by cases l <;> simp [Rows.uptoBulk]
  nil := by simp [Rows.uptoBulk]
  slice l s := by simp [Rows.uptoBulk]
  agg l := by simp [Rows.uptoBulk]
  nilL := by simp [Rows.uptoBulkAll]
  consL d l := by simp [Rows.uptoBulkAll]

set_option maxRecDepth 100000 in
theorem ringConserves_abs {l : List PV} (h : tyL (TyP Pg 20) Try.f4.params.toList l) : ARet Pg 4 l (.bl true) := by
  rw [Try.params4] at h
  obtain ⟨p1, l, rfl, h1, h⟩ := tyL_cons h
  obtain rfl := tyL_nil h
  obtain ⟨b, rfl, _, c2⟩ := ty_bytes Try.underlying24 Try.underlying5 (by kernel_rfl) h1
  exact burrowlaw23_RingConserves (by simpa [maxLen] using c2)

set_option maxRecDepth 100000 in
theorem lifted (os : Os) (started : os.Started) (H : Type) (enc : TypeId × Value → H) :
    ReturnsInHanded {} Try.checked os 4 .any (Rows.ringConservesSpec.pre6 enc Try.prog Try.f4 Rows.ringConservesRow.domain false) (Rows.ringConservesSpec.post enc Try.prog Try.f4 false true false false) := by
  refine returnsInHanded_of_change (C := Try.checked) own started (by kernel_rfl) Try.func4
    (ChangeSpec.witness6 (enc := enc) (C := Try.checked) false ⟨#[], #[.slice none 0 0], []⟩ 8 (by kernel_rfl) (by kernel_rfl) (by kernel_rfl) (by kernel_rfl)) ?_
  intro W base args ds gs before hval hW _ _
  exact law_contract (P := Try.prog) (f := 4) (n := 20) (tb := 4) (isBulk H) (by kernel_rfl) Try.underlying4 rfl
    (fun ds hd => by rw [Try.params4] at hd; match ds, hd with | [_], _ => exact ⟨rfl, rfl, rfl⟩) (by kernel_rfl) hval hW (fun l hl _ => ringConserves_abs hl)

theorem ringConserves_holds : Rows.RingConservesSaid :=
  OpenClaim.holds_of_wide 4 Try.f4 rfl rfl rfl rfl rfl rfl rfl ⟨rfl, rfl, rfl, rfl, rfl⟩ rfl rfl rfl rfl rfl (by kernel_rfl) Try.func4 (by kernel_rfl)
    (of_decide_eq_true (by kernel_rfl)) (by unfold Func.isWrapper; first | (rw [if_pos (by decide +kernel)]; kernel_rfl) | (rw [if_neg (by decide +kernel)]; exact ⟨rfl, rfl⟩))
    (fun os started H enc _ => lifted os started H enc)
#print axioms ringConserves_holds
end Go.Proofs.Ytafmeafepngngaa.ring
