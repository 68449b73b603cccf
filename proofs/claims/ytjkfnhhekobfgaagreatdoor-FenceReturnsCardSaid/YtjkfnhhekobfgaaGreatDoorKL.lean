/- The law FenceReturns, by the statement's words: true at every input, and the input reads as it did. No condition. -/
import Derived.Test.YtjkfnhhekobfgaaGreatDoorC3
import Derived.Test.YtjkfnhhekobfgaaGreatDoorA6
import Derived.Test.YtjkfnhhekobfgaaGreatDoorTie
import Derived.Test.YtjkfnhhekobfgaaGreatDoorCards
import Derived.ProofKit
import Derived.OpenShut
import Derived.LaidMore
import Derived.Lay
import Derived.SevenTiedAt
import Derived.Stop.Joined
set_option linter.all false
namespace Go.Proofs.YtjkfnhhekobfgaaGreatDoor
open Go.Ab
theorem own : ownKnob Tryz.prog.godebug = none := by kernel_rfl
theorem isBulk (H : Type) : IsBulk (H := H) Rows.uptoBulk Rows.uptoBulkAll where
  str l := by simp [Rows.uptoBulk]
  lit l := by cases l <;> simp [Rows.uptoBulk]
  nil := by simp [Rows.uptoBulk]
  slice l s := by simp [Rows.uptoBulk]
  agg l := by simp [Rows.uptoBulk]
  nilL := by simp [Rows.uptoBulkAll]
  consL d l := by simp [Rows.uptoBulkAll]
set_option maxRecDepth 100000 in
theorem tab_ok {W : World} (h : laidMetH Tryz.prog Rows.fenceReturnsRow.laid W) : ∀ b cs, Tabs.tab b = some cs → ∃ e x, W.heap[b]? = some (.cells cs e x) := by
  intro b cs hb
  rw [MakeChecks.laidMetH_plain _ _ _ (by kernel_rfl)] at h
  obtain ⟨ps, ⟨_, _, _, _, _, _, _, _, _, _, ⟨_, _, _, _, _, _, _, _, _, _, ⟨g, t, vs, fuel, p, q, hg, ht, hv, hd, _, _⟩, _⟩, _⟩, _, _⟩ := h
  obtain rfl := Option.some.inj ((show Tryz.prog.globalNamed "internal/strconv.uint64pow10" = some 1 by kernel_rfl).symm.trans hg)
  obtain rfl := Option.some.inj ((show (Tryz.prog.globals[1]?).map (·.type) = some 242 by kernel_rfl).symm.trans ht)
  obtain ⟨xs, m, _, ex, hcl, hl, hel⟩ := DataW.trod_array (n := 20) (e := 23) (by kernel_rfl) hd
  have c23 : Tryz.prog.cellsOf 23 = 1 := by kernel_rfl
  have c242 : Tryz.prog.cellsOf 242 = 20 := by kernel_rfl
  have e3 : (xs.map (·.1)) = Go.Lib.pow10Tab.map fun z => (DataW.lit (.int .u64 z) : DataW Unit) := (DataW.agg.inj (Prod.mk.inj ex).1).symm
  have hvs : vs.toList = Go.Lib.pow10Tab.map fun z => Value.int .u64 z := by
    apply List.ext_getElem
    · rw [hcl, c242, List.length_map, Go.Lib.pow10Tab_length]
    · intro r h1 h2
      rw [hcl, c242] at h1
      have hE := hel r h1
      rw [c23, Nat.mul_one, List.getElem?_eq_getElem (by omega)] at hE
      obtain ⟨z, f1, f2, _⟩ := DataW.trod_int Tryz.underlying23 hE
      have e4 : (xs.map (·.1))[r]? = (Go.Lib.pow10Tab.map fun z => (DataW.lit (.int .u64 z) : DataW Unit))[r]? := by rw [e3]
      have hlp := Go.Lib.pow10Tab_length
      rw [List.getElem?_map, List.getElem?_map, List.getElem?_eq_getElem (by omega : r < xs.length), List.getElem?_eq_getElem (by omega : r < Go.Lib.pow10Tab.length), f2] at e4
      have hz : z = Go.Lib.pow10Tab[r]'(by omega) := by
        simpa using e4
      have f3 : vs.toList[r]? = some (.int .u64 z) := by
        have h0 : ((vs.toList.drop r).take 1)[0]? = some (.int .u64 z) := by rw [f1]; rfl
        simpa using h0
      rw [List.getElem?_eq_getElem (by rw [hcl, c242]; exact h1)] at f3
      rw [List.getElem_map, Option.some.inj f3, hz]
  have hb1 : b = 1 ∧ cs = (Go.Lib.pow10Tab.map fun z => Value.int .u64 z).toArray := by
    simp only [Tabs.tab] at hb
    split at hb
    · rename_i e; exact ⟨e, (Option.some.inj hb).symm⟩
    · cases hb
  obtain ⟨rfl, rfl⟩ := hb1
  have hvs2 : vs = (Go.Lib.pow10Tab.map fun z => Value.int .u64 z).toArray := by rw [← hvs]
  rw [← hvs2]
  simp only [World.var?, hg, Option.bind_some] at hv
  split at hv
  · rename_i e x hh
    cases hv
    exact ⟨_, _, hh⟩
  · cases hv
set_option maxRecDepth 100000 in
theorem fenceReturns_abs {l : List PV} (h : tyL (TyP Pg 20) Tryz.f4.params.toList l) : ARet Pg 4 l (.bl true) := by
  rw [Tryz.params4] at h
  obtain ⟨p1, l, rfl, h1, h⟩ := tyL_cons h
  obtain ⟨p2, l, rfl, h2, h⟩ := tyL_cons h
  obtain rfl := tyL_nil h
  obtain ⟨b, rfl, _, c2⟩ := ty_bytes Tryz.underlying22 Tryz.underlying5 (by kernel_rfl) h1
  obtain ⟨n, rfl, n0, n1⟩ := ty_int Tryz.underlying23 h2
  exact burrowlaw29_FenceReturns (by simpa [maxLen] using c2) ⟨n0, n1⟩
set_option maxRecDepth 100000 in
theorem lifted (os : Os) (started : os.Started) (H : Type) (enc : TypeId × Value → H) :
    ReturnsInHanded {} Tryz.checked os 4 .any (fun w args => (Rows.fenceReturnsSpec.pre enc Tryz.prog Tryz.f4 Rows.fenceReturnsRow.domain false w args ∧ laidMetH Tryz.prog Rows.fenceReturnsRow.laid w) ∧ sizedMet enc Tryz.prog Tryz.f4 (OpenSpec.ofChange Rows.fenceReturnsSpec) false w args)
      (Rows.fenceReturnsSpec.post enc Tryz.prog Tryz.f4 false true false false) := by
  refine returnsInHanded_of_change_and (C := Tryz.checked) (X := fun w _ => laidMetH Tryz.prog Rows.fenceReturnsRow.laid w) (fun _ _ _ hh h => h.of_heap hh) own started (by kernel_rfl) Tryz.func4
    (ChangeSpec.witness_shaped (enc := enc) (C := Tryz.checked) (os := os) (X := fun w _ => laidMetH Tryz.prog Rows.fenceReturnsRow.laid w) false (World.laidAll Tryz.prog os Rows.fenceReturnsRow.laid) #[.slice none 0 0, .int .u64 0] 8 (World.laidAll_os _ _ _)
      (World.shaped_of_ZipB (by kernel_rfl) (by kernel_rfl)) (by kernel_rfl) (by kernel_rfl) (by kernel_rfl)
      (by rw [MakeChecks.laidMetH_plain _ _ _ (by kernel_rfl)]; exact laidMet_laidAll _ (by kernel_rfl) (by kernel_rfl))) ?_
  intro W base args ds gs before hval hW _ _ hL _
  exact law_contract (P := Tryz.prog) (f := 4) (n := 20) (tb := 4) (isBulk H) (by kernel_rfl) Tryz.underlying4 rfl
    (fun ds hd => by rw [Tryz.params4] at hd; match ds, hd with | [_, _], _ => exact ⟨rfl, rfl, rfl⟩) (by kernel_rfl) hval hW (fun l hl _ => fenceReturns_abs hl) (tab_ok hL)
theorem fenceReturns_row : Rows.FenceReturnsSaid :=
  OpenClaim.holds_of_wide 4 Tryz.f4 rfl rfl rfl rfl rfl rfl rfl ⟨rfl, rfl, rfl, rfl, rfl⟩ rfl rfl rfl rfl rfl (by kernel_rfl) Tryz.func4 (by kernel_rfl)
    (of_decide_eq_true (by kernel_rfl)) (by unfold Func.isWrapper; first | (rw [if_pos (by decide +kernel)]; kernel_rfl) | (rw [if_neg (by decide +kernel)]; exact ⟨rfl, rfl⟩))
    (fun os started H enc _ => lifted os started H enc)
theorem fenceReturns_holds : Rows.FenceReturnsCardSaid :=
  Claim7.holds_tied_plain_at .later [] [.data, .data, .data] true (true, "fa84d4168e9d61bc77687ccb19f4de9114ec176ba3592e980b43b35bd2aea7ab") false fenceReturns_row (fun _ h => by cases h) (by kernel_rfl) (fun _ h => by cases h) fenceReturns_row_tie rfl ⟨rfl, rfl⟩ (by kernel_rfl) rfl
    (fun f fn hf hfn => by
      obtain rfl : f = 4 := Option.some.inj ((show Tryz.prog.funcNamed "burrow/burrowlaw29.FenceReturns" = some 4 by kernel_rfl).symm.trans hf) |>.symm
      obtain rfl : fn = Tryz.f4 := (Option.some.inj (Tryz.func4.symm.trans hfn)).symm
      exact ⟨by kernel_rfl, fun j t ht => by
        rw [Tryz.params4] at ht
        have hm : t ∈ [22, 23] := by simpa using Array.mem_of_getElem? ht
        have hall : ([22, 23].all fun u => !Tryz.prog.wantsStandIn u) = true := by kernel_rfl
        exact (show Tryz.prog.wantsStandIn t = false by simpa using List.all_eq_true.1 hall t hm)⟩)
    (by kernel_rfl)
#print axioms fenceReturns_holds
end Go.Proofs.YtjkfnhhekobfgaaGreatDoor
