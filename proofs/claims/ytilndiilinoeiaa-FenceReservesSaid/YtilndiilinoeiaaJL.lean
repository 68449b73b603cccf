/- The law FenceReserves, by the statement's words: true at every input, and the input reads as it did. No condition. -/
import Derived.Test.YtilndiilinoeiaaJ1
import Derived.Test.YtilndiilinoeiaaA6
import Derived.Test.YtilndiilinoeiaaRows
import Derived.ProofKit
set_option linter.all false
namespace Go.Proofs.Ytilndiilinoeiaa
open Go.Ab

theorem own : ownKnob Try.prog.godebug = none := by kernel_rfl
theorem isBulk (H : Type) : IsBulk (H := H) Rows.uptoBulk Rows.uptoBulkAll where
  str l := by simp [Rows.uptoBulk]
  lit l := by cases l <;> simp [Rows.uptoBulk]
  nil := by simp [Rows.uptoBulk]
  slice l s := by simp [Rows.uptoBulk]
  agg l := by simp [Rows.uptoBulk]
  nilL := by simp [Rows.uptoBulkAll]
  consL d l := by simp [Rows.uptoBulkAll]

set_option maxRecDepth 100000 in
theorem ty_ses {n : Nat} {p : PV} (h : TyP Pg (n + 6) 31 p) : ∃ e : Ses, p = encS e ∧ U64 e.next := by
  obtain ⟨l, rfl, h, hbl⟩ := ty_struct (c := 76) (ts := [24, 24, 26, 26, 23, 23, 29, 2, 4]) Try.underlying31 rfl (by kernel_rfl) h
  obtain ⟨p1, l, rfl, h1, h⟩ := tyL_cons h
  obtain ⟨p2, l, rfl, h2, h⟩ := tyL_cons h
  obtain ⟨p3, l, rfl, h3, h⟩ := tyL_cons h
  obtain ⟨p4, l, rfl, h4, h⟩ := tyL_cons h
  obtain ⟨p5, l, rfl, h5, h⟩ := tyL_cons h
  obtain ⟨p6, l, rfl, h6, h⟩ := tyL_cons h
  obtain ⟨p7, l, rfl, h7, h⟩ := tyL_cons h
  obtain ⟨p8, l, rfl, h8, h⟩ := tyL_cons h
  obtain ⟨p9, l, rfl, h9, h⟩ := tyL_cons h
  obtain rfl := tyL_nil h
  obtain ⟨a1, rfl, _⟩ := ty_int Try.underlying24 h1
  obtain ⟨a2, rfl, _⟩ := ty_int Try.underlying24 h2
  have f3 := ty_fits (P := Pg) 10 _ 26 shKy p3 (by kernel_rfl) h3
  have f4 := ty_fits (P := Pg) 10 _ 26 shKy p4 (by kernel_rfl) h4
  obtain ⟨a5, rfl, b5, c5⟩ := ty_int Try.underlying23 h5
  obtain ⟨a6, rfl, _⟩ := ty_int Try.underlying23 h6
  have f7 := ty_fits (P := Pg) 10 _ 29 shWn p7 (by kernel_rfl) h7
  obtain ⟨a8, rfl, _⟩ := ty_int Try.underlying2 h8
  obtain ⟨a9, rfl⟩ := ty_bool Try.underlying4 h9
  exact ⟨⟨a1, a2, ⟨p3, f3⟩, ⟨p4, f4⟩, a5, a6, ⟨p7, f7⟩, a8, a9⟩, rfl, b5, c5⟩

set_option maxRecDepth 100000 in
theorem ty_rul {n : Nat} {p : PV} (h : TyP Pg (n + 6) 33 p) : ∃ e : Rul, p = encRu e := by
  obtain ⟨l, rfl, h, hbl⟩ := ty_struct (c := 10) (ts := [23, 23, 2, 2, 2, 2, 2, 2, 3, 3]) Try.underlying33 rfl (by kernel_rfl) h
  obtain ⟨p1, l, rfl, h1, h⟩ := tyL_cons h
  obtain ⟨p2, l, rfl, h2, h⟩ := tyL_cons h
  obtain ⟨p3, l, rfl, h3, h⟩ := tyL_cons h
  obtain ⟨p4, l, rfl, h4, h⟩ := tyL_cons h
  obtain ⟨p5, l, rfl, h5, h⟩ := tyL_cons h
  obtain ⟨p6, l, rfl, h6, h⟩ := tyL_cons h
  obtain ⟨p7, l, rfl, h7, h⟩ := tyL_cons h
  obtain ⟨p8, l, rfl, h8, h⟩ := tyL_cons h
  obtain ⟨p9, l, rfl, h9, h⟩ := tyL_cons h
  obtain ⟨p10, l, rfl, h10, h⟩ := tyL_cons h
  obtain rfl := tyL_nil h
  obtain ⟨a1, rfl, _⟩ := ty_int Try.underlying23 h1
  obtain ⟨a2, rfl, _⟩ := ty_int Try.underlying23 h2
  obtain ⟨a3, rfl, _⟩ := ty_int Try.underlying2 h3
  obtain ⟨a4, rfl, _⟩ := ty_int Try.underlying2 h4
  obtain ⟨a5, rfl, _⟩ := ty_int Try.underlying2 h5
  obtain ⟨a6, rfl, _⟩ := ty_int Try.underlying2 h6
  obtain ⟨a7, rfl, _⟩ := ty_int Try.underlying2 h7
  obtain ⟨a8, rfl, _⟩ := ty_int Try.underlying2 h8
  obtain ⟨a9, rfl, _⟩ := ty_int Try.underlying3 h9
  obtain ⟨a10, rfl, _⟩ := ty_int Try.underlying3 h10
  exact ⟨⟨a1, a2, a3, a4, a5, a6, a7, a8, a9, a10⟩, rfl⟩

set_option maxRecDepth 100000 in
theorem fenceReserves_abs {l : List PV} (h : tyL (TyP Pg 20) Try.f3.params.toList l) : ARet Pg 3 l (.bl true) := by
  rw [Try.params3] at h
  obtain ⟨p1, l, rfl, h1, h⟩ := tyL_cons h
  obtain ⟨p2, l, rfl, h2, h⟩ := tyL_cons h
  obtain ⟨p3, l, rfl, h3, h⟩ := tyL_cons h
  obtain ⟨p4, l, rfl, h4, h⟩ := tyL_cons h
  obtain rfl := tyL_nil h
  obtain ⟨b, rfl, _, c2⟩ := ty_bytes Try.underlying22 Try.underlying5 (by kernel_rfl) h1
  obtain ⟨n, rfl, n0, n1⟩ := ty_int Try.underlying23 h2
  obtain ⟨s, rfl, hs⟩ := ty_ses (n := 14) h3
  obtain ⟨r, rfl⟩ := ty_rul (n := 14) h4
  exact burrowlaw29_FenceReserves (by simpa [maxLen] using c2) ⟨n0, n1⟩ hs r

/-- a session of zeros, and rules of zeros -/
def zs : Value := .agg ((List.replicate 2 (.int .u32 0) ++ List.replicate 64 (.int .u8 0) ++ List.replicate 2 (.int .u64 0) ++ [.bool false] ++ List.replicate 5 (.int .u64 0) ++ [.int .i64 0, .bool false] : List Value).toArray)
def zr : Value := .agg ((List.replicate 2 (.int .u64 0) ++ List.replicate 8 (.int .i64 0) : List Value).toArray)

set_option maxRecDepth 100000 in
theorem lifted (os : Os) (started : os.Started) (H : Type) (enc : TypeId × Value → H) :
    ReturnsInHanded {} Try.checked os 3 .any (Rows.fenceReservesSpec.pre6 enc Try.prog Try.f3 Rows.fenceReservesRow.domain false) (Rows.fenceReservesSpec.post enc Try.prog Try.f3 false true false false) := by
  refine returnsInHanded_of_change (C := Try.checked) own started (by kernel_rfl) Try.func3
    (ChangeSpec.witness6 (enc := enc) (C := Try.checked) false ⟨#[], #[.slice none 0 0, .int .u64 0, zs, zr], []⟩ 8 (by kernel_rfl) (by kernel_rfl) (by kernel_rfl) (by kernel_rfl)) ?_
  intro W base args ds gs before hval hW _ _
  exact law_contract (P := Try.prog) (f := 3) (n := 20) (tb := 4) (isBulk H) (by kernel_rfl) Try.underlying4 rfl
    (fun ds hd => by rw [Try.params3] at hd; match ds, hd with | [_, _, _, _], _ => exact ⟨rfl, rfl, rfl⟩) (by kernel_rfl) hval hW (fun l hl _ => fenceReserves_abs hl)

theorem fenceReserves_holds : Rows.FenceReservesSaid :=
  OpenClaim.holds_of_wide 3 Try.f3 rfl rfl rfl rfl rfl rfl rfl ⟨rfl, rfl, rfl, rfl, rfl⟩ rfl rfl rfl rfl rfl (by kernel_rfl) Try.func3 (by kernel_rfl)
    (of_decide_eq_true (by kernel_rfl)) (by unfold Func.isWrapper; first | (rw [if_pos (by decide +kernel)]; kernel_rfl) | (rw [if_neg (by decide +kernel)]; exact ⟨rfl, rfl⟩))
    (fun os started H enc _ => lifted os started H enc)
#print axioms fenceReserves_holds
end Go.Proofs.Ytilndiilinoeiaa
