/- The law ExplainWithin, by the statement's words, where its arguments are of bulk at most 1048576. -/
import Derived.Test.YtafmeafepngngaaEv4
import Derived.Test.YtafmeafepngngaaA6
import Derived.Test.YtafmeafepngngaaRows
import Derived.ProofKit
import Derived.JoinedCond
set_option linter.all false
namespace Go.Proofs.Ytafmeafepngngaa.explain
open Go.Ab

theorem own : ownKnob Try.prog.godebug = none := by kernel_rfl
theorem isBulk (H : Type) : IsBulk (H := H) Rows.uptoBulk Rows.uptoBulkAll where
  str l := by simp [Rows.uptoBulk]
  lit l := by cases l <;> simp [Rows.uptoBulk]
  nil := by simp [Rows.uptoBulk]
  slice l s := by simp [Rows.uptoBulk]
  agg l := by simp [Rows.uptoBulk]
  nilL := by simp [Rows.uptoBulkAll]
  consL d l := by simp [Rows.uptoBulkAll]
theorem i64b {m : Int} (h1 : IntKind.i64.min ≤ m) (h2 : m ≤ IntKind.i64.max) : -9223372036854775808 ≤ m ∧ m ≤ 9223372036854775807 := ⟨h1, h2⟩

set_option maxRecDepth 100000 in
theorem ty_ev {n : Nat} {p : PV} (h : TyP Pg (n + 6) 67 p) (hb : bulk p ≤ 1073741824) : ∃ e : Ev, p = encE e ∧ e.bytes.length ≤ 1073741824 := by
  obtain ⟨l, rfl, h, hbl⟩ := ty_struct (c := 22) (ts := [3, 65, 24, 2, 9]) Try.underlying67 rfl (by kernel_rfl) h
  obtain ⟨p1, l, rfl, h1, h⟩ := tyL_cons h
  obtain ⟨p2, l, rfl, h2, h⟩ := tyL_cons h
  obtain ⟨p3, l, rfl, h3, h⟩ := tyL_cons h
  obtain ⟨p4, l, rfl, h4, h⟩ := tyL_cons h
  obtain ⟨p5, l, rfl, h5, h⟩ := tyL_cons h
  obtain rfl := tyL_nil h
  obtain ⟨k, rfl, _⟩ := ty_int Try.underlying3 h1
  have hf := ty_fits (P := Pg) 10 _ 65 shEp p2 (by kernel_rfl) h2
  obtain ⟨b, rfl, hbb, _⟩ := ty_bytes Try.underlying24 Try.underlying5 (by kernel_rfl) h3
  obtain ⟨a, rfl, _⟩ := ty_int Try.underlying2 h4
  obtain ⟨t, rfl, _⟩ := ty_str Try.underlying9 h5
  refine ⟨⟨k, ⟨p2, hf⟩, b, a, t⟩, rfl, ?_⟩
  simp only [bulkL] at hbl
  show b.length ≤ 1073741824
  omega

set_option maxRecDepth 100000 in
theorem ty_act {n : Nat} {p : PV} (h : TyP Pg (n + 7) 73 p) (hb : bulk p ≤ 1073741824) : ∃ a : Ab.Act, p = encA a ∧ a.ev.bytes.length ≤ 1073741824 ∧ -9223372036854775808 ≤ a.kind ∧ a.kind ≤ 9223372036854775807 := by
  obtain ⟨l, rfl, h, hbl⟩ := ty_struct (c := 60) (ts := [3, 67, 3, 3, 5, 3, 3, 33]) Try.underlying73 rfl (by kernel_rfl) h
  obtain ⟨p1, l, rfl, h1, h⟩ := tyL_cons h
  obtain ⟨p2, l, rfl, h2, h⟩ := tyL_cons h
  obtain ⟨p3, l, rfl, h3, h⟩ := tyL_cons h
  obtain ⟨p4, l, rfl, h4, h⟩ := tyL_cons h
  obtain ⟨p5, l, rfl, h5, h⟩ := tyL_cons h
  obtain ⟨p6, l, rfl, h6, h⟩ := tyL_cons h
  obtain ⟨p7, l, rfl, h7, h⟩ := tyL_cons h
  obtain ⟨p8, l, rfl, h8, h⟩ := tyL_cons h
  obtain rfl := tyL_nil h
  simp only [bulkL] at hbl
  obtain ⟨k, rfl, k1, k2⟩ := ty_int Try.underlying3 h1
  obtain ⟨e, rfl, he⟩ := ty_ev h2 (by omega)
  obtain ⟨a3, rfl, _⟩ := ty_int Try.underlying3 h3
  obtain ⟨a4, rfl, _⟩ := ty_int Try.underlying3 h4
  obtain ⟨a5, rfl, _⟩ := ty_int Try.underlying5 h5
  obtain ⟨a6, rfl, _⟩ := ty_int Try.underlying3 h6
  obtain ⟨a7, rfl, _⟩ := ty_int Try.underlying3 h7
  have hf := ty_fits (P := Pg) 10 _ 33 shKey p8 (by kernel_rfl) h8
  exact ⟨⟨k, e, a3, a4, a5, a6, a7, ⟨p8, hf⟩⟩, rfl, he, i64b k1 k2⟩

set_option maxRecDepth 100000 in
theorem explainWithin_abs {l : List PV} (h : tyL (TyP Pg (12 + 8)) Try.f6.params.toList l) (hb : bulkL l ≤ 1048576) : ARet Pg 6 l (.bl true) := by
  rw [Try.params6] at h
  obtain ⟨p1, l, rfl, h1, h⟩ := tyL_cons h
  obtain ⟨p2, l, rfl, h2, h⟩ := tyL_cons h
  obtain ⟨p3, l, rfl, h3, h⟩ := tyL_cons h
  obtain ⟨p4, l, rfl, h4, h⟩ := tyL_cons h
  obtain rfl := tyL_nil h
  simp only [bulkL] at hb
  obtain ⟨b1, rfl, c1, _⟩ := ty_bytes Try.underlying24 Try.underlying5 (by kernel_rfl) h1
  obtain ⟨b2, rfl, c2, _⟩ := ty_bytes Try.underlying24 Try.underlying5 (by kernel_rfl) h2
  obtain ⟨b3, rfl, c3, _⟩ := ty_bytes Try.underlying24 Try.underlying5 (by kernel_rfl) h3
  obtain ⟨l4, rfl, hl, hll, _⟩ := ty_slice Try.underlying58 h4
  obtain ⟨m, rfl, hm⟩ := list_form (enc := encA) (Q := fun (a : Ab.Act) => a.ev.bytes.length ≤ 1073741824 ∧ -9223372036854775808 ≤ a.kind ∧ a.kind ≤ 9223372036854775807) (l := l4) (fun x hx => by
    obtain ⟨a, rfl, ha⟩ := ty_act (n := 12) (hl x hx).1 (by have := (hl x hx).2; omega)
    exact ⟨a, rfl, ha⟩)
  have hml : m.length ≤ 1073741824 := by simp at hll; omega
  have hcell : Try.prog.cellsOf 73 = 60 := by kernel_rfl
  rw [hcell]
  exact burrowlaw34_ExplainWithin (by omega) (by omega) (by omega) hml (fun x hx => (hm x hx).1) (fun x hx => (hm x hx).2)

set_option maxRecDepth 100000 in
theorem lifted (os : Os) (started : os.Started) (H : Type) (enc : TypeId × Value → H) (F : Stop.Interp) :
    ReturnsInHanded {} Try.checked os 6 .any ((Rows.OpenSpec.upto Rows.explainWithinSpec).pre6 enc Try.prog Try.f6 Rows.explainWithinUptoRow.domain false) (((Rows.OpenSpec.upto Rows.explainWithinSpec).at F).post enc Try.prog Try.f6 false true false false) := by
  refine returnsInHanded_of_cond (C := Try.checked) (s := Rows.OpenSpec.upto Rows.explainWithinSpec) (k := Rows.uptoSmall) rfl own started (by kernel_rfl) Try.func6
    (OpenSpec.witness (enc := enc) (C := Try.checked) (s := Rows.OpenSpec.upto Rows.explainWithinSpec) (k := Rows.uptoSmall) rfl false ⟨#[], #[.slice none 0 0, .slice none 0 0, .slice none 0 0, .slice none 0 0], []⟩ 8 (by kernel_rfl) (by kernel_rfl) (by kernel_rfl)
      (x := ([.nil, .nil, .nil, .nil], [], [])) (by kernel_rfl) rfl (by kernel_rfl)) ?_
  intro W base args ds gs before hval hW _ hk _
  obtain ⟨_, _, _, hV, _, _, _⟩ := id hW
  obtain ⟨rfl, _⟩ := ChangeShapes.trodVars_none hV
  have hk' : Rows.uptoBulkAll ds ≤ 1048576 := by
    have h := of_decide_eq_true hk
    simpa using h
  exact law_contract (P := Try.prog) (f := 6) (n := 12 + 8) (tb := 4) (isBulk H) (by kernel_rfl) Try.underlying4 rfl
    (fun ds hd => by rw [Try.params6] at hd; match ds, hd with | [_, _, _, _], _ => exact ⟨rfl, rfl, rfl⟩) (by kernel_rfl) hval hW (fun l hl hb => explainWithin_abs hl (by omega))

theorem explainWithin_holds : Rows.ExplainWithinUptoSaid :=
  OpenClaim.holds_of_cond 6 Try.f6 rfl rfl rfl rfl rfl rfl rfl ⟨rfl, rfl, rfl, rfl, rfl⟩ rfl rfl rfl rfl rfl (by kernel_rfl) Try.func6 (by kernel_rfl)
    (of_decide_eq_true (by kernel_rfl)) (by unfold Func.isWrapper; first | (rw [if_pos (by decide +kernel)]; kernel_rfl) | (rw [if_neg (by decide +kernel)]; exact ⟨rfl, rfl⟩))
    (fun os started H enc _ F => lifted os started H enc F)
#print axioms explainWithin_holds
end Go.Proofs.Ytafmeafepngngaa.explain
