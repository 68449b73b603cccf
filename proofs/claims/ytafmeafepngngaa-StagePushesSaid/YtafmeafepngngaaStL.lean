/- The stage's two laws, by the statements' words. -/
import Derived.Test.YtafmeafepngngaaSt5
import Derived.Test.YtafmeafepngngaaA6
import Derived.Test.YtafmeafepngngaaRows
import Derived.ProofKit
set_option linter.all false
namespace Go.Proofs.Ytafmeafepngngaa
open Go.Ab

theorem own : ownKnob Try.prog.godebug = none := by kernel_rfl
theorem isBulk (H : Type) : IsBulk (H := H) Rows.uptoBulk Rows.uptoBulkAll where
  str l := by simp [Rows.uptoBulk]
  lit l := by cases l <;> simp [Rows.uptoBulk]
  nil := by simp [Rows.uptoBulk]
  slice l s := by simp [Rows.uptoBulk]
  agg l := by simp [Rows.uptoBulk]
  nilL := by simp [Rows.uptoBulkAll]
  consL d l := by simp [Rows.uptoBulkAll]

set_option maxRecDepth 100000 in
theorem ty22 {p : PV} (h : TyP Pg 20 22 p) : ∃ ll, p = encBs ll ∧ ll.length ≤ 9223372036854775807 ∧ ∀ b ∈ ll, b.length ≤ 9223372036854775807 := by
  obtain ⟨l, rfl, hl, _, hm⟩ := ty_slice Try.underlying22 h
  obtain ⟨m, rfl, hm'⟩ := list_form (enc := encB) (Q := fun b => b.length ≤ 9223372036854775807) (l := l) (fun x hx => by
    obtain ⟨b, rfl, _, hb⟩ := ty_bytes Try.underlying24 Try.underlying5 (by kernel_rfl) (hl x hx).1
    exact ⟨b, rfl, hb⟩)
  exact ⟨m, by rw [show Try.prog.cellsOf 24 = 1 from by kernel_rfl]; rfl, by simpa [maxLen] using hm, hm'⟩

set_option maxRecDepth 100000 in
theorem stagePushes_abs {l : List PV} (h : tyL (TyP Pg 20) Try.f5.params.toList l) : ARet Pg 5 l (.bl true) := by
  rw [Try.params5] at h
  obtain ⟨p1, l, rfl, h1, h⟩ := tyL_cons h
  obtain ⟨p2, l, rfl, h2, h⟩ := tyL_cons h
  obtain ⟨p3, l, rfl, h3, h⟩ := tyL_cons h
  obtain rfl := tyL_nil h
  obtain ⟨ll, rfl, a1, a2⟩ := ty22 h1
  obtain ⟨n, rfl, b1, b2⟩ := ty_int Try.underlying3 h2
  obtain ⟨b, rfl, _, c2⟩ := ty_bytes Try.underlying24 Try.underlying5 (by kernel_rfl) h3
  exact burrowlaw18_StagePushes a1 a2 (by simpa [maxLen] using c2) ⟨b1, b2⟩

set_option maxRecDepth 100000 in
theorem stageOrders_abs {l : List PV} (h : tyL (TyP Pg 20) Try.f3.params.toList l) : ARet Pg 3 l (.bl true) := by
  rw [Try.params3] at h
  obtain ⟨p1, l, rfl, h1, h⟩ := tyL_cons h
  obtain ⟨p2, l, rfl, h2, h⟩ := tyL_cons h
  obtain rfl := tyL_nil h
  obtain ⟨ll, rfl, a1, a2⟩ := ty22 h1
  obtain ⟨n, rfl, b1, b2⟩ := ty_int Try.underlying5 h2
  exact burrowlaw18_StageOrders a1 a2 ⟨b1, b2⟩

set_option maxRecDepth 100000 in
theorem stagePushes_lifted (os : Os) (started : os.Started) (H : Type) (enc : TypeId × Value → H) :
    ReturnsInHanded {} Try.checked os 5 .any (Rows.stagePushesSpec.pre6 enc Try.prog Try.f5 Rows.stagePushesRow.domain false) (Rows.stagePushesSpec.post enc Try.prog Try.f5 false true false false) := by
  refine returnsInHanded_of_change (C := Try.checked) own started (by kernel_rfl) Try.func5
    (ChangeSpec.witness6 (enc := enc) (C := Try.checked) false ⟨#[], #[.slice none 0 0, .int .i64 0, .slice none 0 0], []⟩ 8 (by kernel_rfl) (by kernel_rfl) (by kernel_rfl) (by kernel_rfl)) ?_
  intro W base args ds gs before hval hW _ _
  exact law_contract (P := Try.prog) (f := 5) (n := 20) (tb := 4) (isBulk H) (by kernel_rfl) Try.underlying4 rfl
    (fun ds hd => by rw [Try.params5] at hd; match ds, hd with | [_, _, _], _ => exact ⟨rfl, rfl, rfl⟩) (by kernel_rfl) hval hW (fun l hl _ => stagePushes_abs hl)

theorem stagePushes_holds : Rows.StagePushesSaid :=
  OpenClaim.holds_of_wide 5 Try.f5 rfl rfl rfl rfl rfl rfl rfl ⟨rfl, rfl, rfl, rfl, rfl⟩ rfl rfl rfl rfl rfl (by kernel_rfl) Try.func5 (by kernel_rfl)
    (of_decide_eq_true (by kernel_rfl)) (by unfold Func.isWrapper; first | (rw [if_pos (by decide +kernel)]; kernel_rfl) | (rw [if_neg (by decide +kernel)]; exact ⟨rfl, rfl⟩))
    (fun os started H enc _ => stagePushes_lifted os started H enc)

set_option maxRecDepth 100000 in
theorem stageOrders_lifted (os : Os) (started : os.Started) (H : Type) (enc : TypeId × Value → H) :
    ReturnsInHanded {} Try.checked os 3 .any (Rows.stageOrdersSpec.pre6 enc Try.prog Try.f3 Rows.stageOrdersRow.domain false) (Rows.stageOrdersSpec.post enc Try.prog Try.f3 false true false false) := by
  refine returnsInHanded_of_change (C := Try.checked) own started (by kernel_rfl) Try.func3
    (ChangeSpec.witness6 (enc := enc) (C := Try.checked) false ⟨#[], #[.slice none 0 0, .int .u8 0], []⟩ 8 (by kernel_rfl) (by kernel_rfl) (by kernel_rfl) (by kernel_rfl)) ?_
  intro W base args ds gs before hval hW _ _
  exact law_contract (P := Try.prog) (f := 3) (n := 20) (tb := 4) (isBulk H) (by kernel_rfl) Try.underlying4 rfl
    (fun ds hd => by rw [Try.params3] at hd; match ds, hd with | [_, _], _ => exact ⟨rfl, rfl, rfl⟩) (by kernel_rfl) hval hW (fun l hl _ => stageOrders_abs hl)

theorem stageOrders_holds : Rows.StageOrdersSaid :=
  OpenClaim.holds_of_wide 3 Try.f3 rfl rfl rfl rfl rfl rfl rfl ⟨rfl, rfl, rfl, rfl, rfl⟩ rfl rfl rfl rfl rfl (by kernel_rfl) Try.func3 (by kernel_rfl)
    (of_decide_eq_true (by kernel_rfl)) (by unfold Func.isWrapper; first | (rw [if_pos (by decide +kernel)]; kernel_rfl) | (rw [if_neg (by decide +kernel)]; exact ⟨rfl, rfl⟩))
    (fun os started H enc _ => stageOrders_lifted os started H enc)
#print axioms stageOrders_holds
#print axioms stagePushes_holds
end Go.Proofs.Ytafmeafepngngaa
