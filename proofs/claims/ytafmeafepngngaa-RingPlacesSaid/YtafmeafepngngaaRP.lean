/- The law RingPlaces, by the statement's words. -/
import Derived.Test.YtafmeafepngngaaR7
import Derived.Test.YtafmeafepngngaaA6
import Derived.Test.YtafmeafepngngaaRows
import Derived.ProofKit
set_option linter.all false
namespace Go.Proofs.Ytafmeafepngngaa.places
open Go.Ab

theorem own : ownKnob Try.prog.godebug = none := by kernel_rfl
theorem isBulk (H : Type) : IsBulk (H := H) Rows.uptoBulk Rows.uptoBulkAll where
  str l := by simp [Rows.uptoBulk]
  lit l := by cases l <;> simp [Rows.uptoBulk]
  nil := by simp [Rows.uptoBulk]
  slice l s := by simp [Rows.uptoBulk]
  agg l := by simp [Rows.uptoBulk]
  nilL := by simp [Rows.uptoBulkAll]
  consL d l := by simp [Rows.uptoBulkAll]

set_option maxRecDepth 100000 in
theorem ty_ses {n : Nat} {p : PV} (h : TyP Pg (n + 6) 39 p) : ∃ e : Ses, p = encS e := by
  obtain ⟨l, rfl, h, hbl⟩ := ty_struct (c := 76) (ts := [31, 31, 33, 33, 34, 34, 37, 2, 4]) Try.underlying39 rfl (by kernel_rfl) h
  obtain ⟨p1, l, rfl, h1, h⟩ := tyL_cons h
  obtain ⟨p2, l, rfl, h2, h⟩ := tyL_cons h
  obtain ⟨p3, l, rfl, h3, h⟩ := tyL_cons h
  obtain ⟨p4, l, rfl, h4, h⟩ := tyL_cons h
  obtain ⟨p5, l, rfl, h5, h⟩ := tyL_cons h
  obtain ⟨p6, l, rfl, h6, h⟩ := tyL_cons h
  obtain ⟨p7, l, rfl, h7, h⟩ := tyL_cons h
  obtain ⟨p8, l, rfl, h8, h⟩ := tyL_cons h
  obtain ⟨p9, l, rfl, h9, h⟩ := tyL_cons h
  obtain rfl := tyL_nil h
  obtain ⟨a1, rfl, _⟩ := ty_int Try.underlying31 h1
  obtain ⟨a2, rfl, _⟩ := ty_int Try.underlying31 h2
  have f3 := ty_fits (P := Pg) 10 _ 33 shKy p3 (by kernel_rfl) h3
  have f4 := ty_fits (P := Pg) 10 _ 33 shKy p4 (by kernel_rfl) h4
  obtain ⟨a5, rfl, _⟩ := ty_int Try.underlying34 h5
  obtain ⟨a6, rfl, _⟩ := ty_int Try.underlying34 h6
  have f7 := ty_fits (P := Pg) 10 _ 37 shWn p7 (by kernel_rfl) h7
  obtain ⟨a8, rfl, _⟩ := ty_int Try.underlying2 h8
  obtain ⟨a9, rfl⟩ := ty_bool Try.underlying4 h9
  exact ⟨⟨a1, a2, ⟨p3, f3⟩, ⟨p4, f4⟩, a5, a6, ⟨p7, f7⟩, a8, a9⟩, rfl⟩

set_option maxRecDepth 100000 in
theorem ringPlaces_abs {l : List PV} (h : tyL (TyP Pg 20) Try.f7.params.toList l) : ARet Pg 7 l (.bl true) := by
  rw [Try.params7] at h
  obtain ⟨p1, l, rfl, h1, h⟩ := tyL_cons h
  obtain ⟨p2, l, rfl, h2, h⟩ := tyL_cons h
  obtain ⟨p3, l, rfl, h3, h⟩ := tyL_cons h
  obtain rfl := tyL_nil h
  obtain ⟨a, rfl⟩ := ty_ses (n := 14) h1
  obtain ⟨b, rfl⟩ := ty_ses (n := 14) h2
  obtain ⟨c, rfl⟩ := ty_ses (n := 14) h3
  exact burrowlaw23_RingPlaces a b c

/-- a session of zeros -/
def z : Value := .agg ((List.replicate 2 (.int .u32 0) ++ List.replicate 64 (.int .u8 0) ++ List.replicate 2 (.int .u64 0) ++ [.bool false] ++ List.replicate 5 (.int .u64 0) ++ [.int .i64 0, .bool false] : List Value).toArray)

set_option maxRecDepth 100000 in
theorem lifted (os : Os) (started : os.Started) (H : Type) (enc : TypeId × Value → H) :
    ReturnsInHanded {} Try.checked os 7 .any (Rows.ringPlacesSpec.pre6 enc Try.prog Try.f7 Rows.ringPlacesRow.domain false) (Rows.ringPlacesSpec.post enc Try.prog Try.f7 false true false false) := by
  refine returnsInHanded_of_change (C := Try.checked) own started (by kernel_rfl) Try.func7
    (ChangeSpec.witness6 (enc := enc) (C := Try.checked) false ⟨#[], #[z, z, z], []⟩ 8 (by kernel_rfl) (by kernel_rfl) (by kernel_rfl) (by kernel_rfl)) ?_
  intro W base args ds gs before hval hW _ _
  exact law_contract (P := Try.prog) (f := 7) (n := 20) (tb := 4) (isBulk H) (by kernel_rfl) Try.underlying4 rfl
    (fun ds hd => by rw [Try.params7] at hd; match ds, hd with | [_, _, _], _ => exact ⟨rfl, rfl, rfl⟩) (by kernel_rfl) hval hW (fun l hl _ => ringPlaces_abs hl)

theorem ringPlaces_holds : Rows.RingPlacesSaid :=
  OpenClaim.holds_of_wide 7 Try.f7 rfl rfl rfl rfl rfl rfl rfl ⟨rfl, rfl, rfl, rfl, rfl⟩ rfl rfl rfl rfl rfl (by kernel_rfl) Try.func7 (by kernel_rfl)
    (of_decide_eq_true (by kernel_rfl)) (by unfold Func.isWrapper; first | (rw [if_pos (by decide +kernel)]; kernel_rfl) | (rw [if_neg (by decide +kernel)]; exact ⟨rfl, rfl⟩))
    (fun os started H enc _ => lifted os started H enc)
#print axioms ringPlaces_holds
end Go.Proofs.Ytafmeafepngngaa.places
