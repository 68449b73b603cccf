/- The stage's functions: Push, Pop, Size, of the program and of the document. Lengths up to 2^30. -/
import Derived.Test.YtafmeafepngngaaSt1
set_option linter.all false
namespace Go.Ab
open Go.Ab

theorem take_min {α : Type} (l : List α) (n : Int) : l.take (min (l.length : Int) n).toNat = l.take n.toNat := by
  by_cases hn : n ≤ l.length
  · rw [show (min (l.length : Int) n).toNat = n.toNat by omega]
  · rw [show (min (l.length : Int) n).toNat = l.length by omega, List.take_of_length_le (by simp), List.take_of_length_le (by omega)]
theorem take_map_succ {α β : Type} (f : α → β) {l : List α} {i : Nat} (hi : i < l.length) : (l.map f).take (i + 1) = (l.map f).take i ++ [f l[i]] := by
  rw [List.take_succ_eq_append_getElem (by simpa using hi)]; simp

theorem burrowcase_Cut {b : List UInt8} {n : Int} (h : b.length ≤ 9223372036854775807) (h0 : 0 ≤ n) : ARet Pg I.burrowcase_Cut [encB b, .int .i64 n] (encB (b.take n.toNat)) := by
  refine ACalls.intro T.burrowcase_Cut (by simp [F.burrowcase_Cut]) ?_
  simp [F.burrowcase_Cut, argEnv, fpBx, encB]
  refine ⟨by omega, ?_⟩
  refine RetS.plain [.wk 4] ?_
  have e := take_min b n
  simp [← List.map_take, e]

def encB20 (b : List UInt8) : PV := encB (b.take 20)
@[simp] theorem pure_encB20 (b : List UInt8) : Pure (encB20 b) := by simp [encB20]
@[simp] theorem wk_encB20 (b : List UInt8) : wk (encB20 b) = encB20 b := by simp [encB20]
@[simp] theorem pureL_mB20 (l : List (List UInt8)) : PureL (l.map encB20) := pureL_map pure_encB20 l
@[simp] theorem wkL_mB20 (l : List (List UInt8)) : wkL (l.map encB20) = l.map encB20 := wkL_map wk_encB20 l
theorem burrowlaw18_cut {ll : List (List UInt8)} (h : ll.length ≤ 9223372036854775807) (hb : ∀ b ∈ ll, b.length ≤ 9223372036854775807) : AOwn Pg I.burrowlaw18_cut [encBs ll] 1 ((ll.take 12).map encB20) := by
  refine ACalls.intro T.burrowlaw18_cut (by simp [F.burrowlaw18_cut]) ?_
  have e := take_min ll 12
  simp [F.burrowlaw18_cut, argEnv, fpBx, encBs, ← List.map_take, e]
  refine ⟨by omega, ?_⟩
  have hm2 : min 12 ll.length = (ll.take 12).length := by simp
  have hb2 : ∀ b ∈ ll.take 12, b.length ≤ 9223372036854775807 := fun b hb' => hb b (List.mem_of_mem_take hb')
  have hl2 : (ll.take 12).length ≤ 12 := by simp; omega
  rw [hm2]
  generalize ll.take 12 = l2 at *
  clear hm2
  refine LpS.rng l2.length (fun _ => True) [0, 3, 6, 7, 8, 9, 10, 11, 12] (fun i => [(3, .rs 3 [] 0 i i 1 .tip), (12, .int .i64 i)]) (fun i => [(3, .arr 1 ((l2.take i).map encB20))]) [.vt 3 3 1] ?_
  simp
  refine ⟨fun i hi K hK => ?_, fun K => ?_⟩
  · have hx : l2[i]? = some l2[i] := List.getElem?_eq_getElem hi
    have hi' : min i l2.length = i := by omega
    simp [F.burrowlaw18_cutl0, hx, hi, encB]
    refine callS.ret ((burrowcase_Cut (b := l2[i]) (n := 20) (hb2 _ (List.getElem_mem hi)) (by omega))) (by simp [encB]) (by simp) (by simp) ?_
    simp (disch := omega) [hi', encB]
    exact ⟨⟨by omega, by omega⟩, [], hK _ (by simp [take_map_succ encB20 hi, encB20, encB])⟩
  · simp [F.burrowlaw18_cutl0, F.burrowlaw18_cutc1]
    refine RetS.with [] [3] ?_
    simp

theorem stage_Push {ll : List (List UInt8)} {n : Int} {p : List UInt8} (h : ll.length ≤ 1000000000) (hb : ∀ b ∈ ll, b.length ≤ 1073741824) (hp : p.length ≤ 1073741824) (hn : -9223372036854775808 ≤ n ∧ n ≤ 9223372036854775807) :
    ARet Pg I.stage_Push [encBs ll, .int .i64 n, encB p] (.tup [encBs ((ll ++ [p]).drop (ll.length + 1 - n.toNat)), .int .i64 (ll.length + 1 - n.toNat : Nat)]) := by
  refine ACalls.intro T.stage_Push (by simp [F.stage_Push]) ?_
  simp [F.stage_Push, argEnv, fpBx, encBs, encB]
  refine callS.own 12 (stage_cloned (ll := ll) (by omega) hb) (by simp [encBs]) (by simp) (by simp) (by simp) ?_
  simp
  refine callS.ret ((slices_Clone_byte hp).frz (by simp)) (by simp [encB]) (by simp) (by simp) ?_
  simp (disch := omega)
  repeat (refine ⟨by omega, ?_⟩)
  have e : max 0 ((ll.length : Int) + 1 - max 0 n) = (ll.length + 1 - n.toNat : Nat) := by omega
  rw [e]
  have e2 : ll.length + 1 - n.toNat + (ll.length + 1 - (ll.length + 1 - n.toNat)) ≤ ll.length + 1 := by omega
  refine RetS.plain [.keep [6, 7], .fz 12, .wk 6] ?_
  simp [e2]
  exact List.take_of_length_le (by simp)

def popV : List (List UInt8) → PV
  | [] => .tup [encB [], encBs [], .bl false]
  | b :: r => .tup [encB b, encBs r, .bl true]
theorem stage_Pop {ll : List (List UInt8)} (h : ll.length ≤ 1000000000) (hb : ∀ b ∈ ll, b.length ≤ 1073741824) :
    ARet Pg I.stage_Pop [encBs ll] (popV ll) := by
  refine ACalls.intro T.stage_Pop (by simp [F.stage_Pop]) ?_
  simp [F.stage_Pop, argEnv, fpBx, encBs]
  refine ⟨?_, ?_⟩
  · rintro rfl
    refine RetS.plain [.wk 2, .wk 3] ?_
    simp [popV, encB, encBs]
  · intro hne
    refine callS.own 10 (stage_cloned (ll := ll) (by omega) hb) (by simp [encBs]) (by simp) (by simp) (by simp) ?_
    obtain ⟨b, r, rfl⟩ := List.exists_cons_of_ne_nil hne
    simp [encB]
    simp at h
    repeat (refine ⟨by omega, ?_⟩)
    refine RetS.plain [.keep [2, 3, 4], .fz 10, .wk 3] ?_
    simp [popV, encB, encBs, Nat.add_comm 1]

theorem stage_Size {ll : List (List UInt8)} (h : (ll.map List.length).sum ≤ 1073741824) (hl : ll.length ≤ 1073741824) :
    ARet Pg I.stage_Size [encBs ll] (.int .i64 (ll.map List.length).sum) := by
  refine ACalls.intro T.stage_Size (by simp [F.stage_Size]) ?_
  simp [F.stage_Size, argEnv, fpBx, encBs]
  refine LpS.rng ll.length (fun _ => True) [0, 3, 6, 7, 8] (fun i => [(3, .int .i64 ((ll.take i).map List.length).sum), (8, .int .i64 i)]) (fun i => []) [] ?_
  simp
  refine ⟨fun i hi K hK => ?_, fun K => ?_⟩
  · have hx : ll[i]? = some ll[i] := List.getElem?_eq_getElem hi
    have hs : (List.take (i + 1) (List.map List.length ll)).sum = (List.take i (List.map List.length ll)).sum + ll[i].length := by simp [take_map_succ _ hi]
    have hs2 : (List.take (i + 1) (List.map List.length ll)).sum ≤ 1073741824 := by
      refine Nat.le_trans ?_ h
      conv => rhs; rw [← List.take_append_drop (i + 1) (List.map List.length ll)]
      rw [List.sum_append]; omega
    simp (disch := omega) [F.stage_Sizel0, hx, hi, encB]
    exact ⟨[], hK _ (by simp [hs])⟩
  · simp [F.stage_Sizel0, F.stage_Sizec1]
    refine RetS.plain [] ?_
    simp
end Go.Ab
