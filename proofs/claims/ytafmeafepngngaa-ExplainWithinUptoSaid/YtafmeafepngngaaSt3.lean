/- The stage's reference functions and the words of the laws. Lengths up to 2^30. -/
import Derived.Test.YtafmeafepngngaaSt2
set_option linter.all false
namespace Go.Ab
open Go.Ab

theorem burrowcase_Mod {a n : Int} (h : -9223372036854775808 ≤ a ∧ a ≤ 9223372036854775807) (h0 : 1 ≤ n ∧ n ≤ 1073741824) : ARet Pg I.burrowcase_Mod [.int .i64 a, .int .i64 n] (.int .i64 (a % n)) := by
  refine ACalls.intro T.burrowcase_Mod (by simp [F.burrowcase_Mod]) ?_
  have h1 := Int.tmod_lt_of_pos a (show 0 < n by omega)
  have h2 := Int.lt_tmod_of_pos a (show 0 < n by omega)
  have h3 : ¬ n < 1 := by omega
  simp (disch := omega) [F.burrowcase_Mod, argEnv, fpBx, h3]
  refine ⟨by omega, ?_⟩
  refine RetS.plain [] ?_
  simp
  rw [Int.tmod_eq_emod_of_nonneg (by omega), Int.add_emod_right]
  rcases Int.le_total 0 a with ha | ha
  · rw [Int.tmod_eq_emod_of_nonneg ha, Int.emod_emod]
  · have := Int.tmod_add_mul_tdiv a n
    conv => rhs; rw [← this]
    rw [Int.add_mul_emod_self_left]

theorem burrowref14_Push {ll : List (List UInt8)} {n : Int} {p : List UInt8} (h : ll.length ≤ 1000000000) (hb : ∀ b ∈ ll, b.length ≤ 1073741824) (hp : p.length ≤ 1073741824) (hn : -9223372036854775808 ≤ n ∧ n ≤ 9223372036854775807) :
    ARet Pg I.burrowref14_Push [encBs ll, .int .i64 n, encB p] (.tup [encBs ((ll ++ [p]).drop (ll.length + 1 - n.toNat)), .int .i64 (ll.length + 1 - n.toNat : Nat)]) := by
  refine ACalls.intro T.burrowref14_Push (by simp [F.burrowref14_Push]) ?_
  simp [F.burrowref14_Push, argEnv, fpBx, encBs, encB]
  refine LpS.rng ll.length (fun _ => True) [0, 1, 2, 6, 7, 8, 12, 13, 14] (fun i => [(8, .rs 8 [] 0 i i 1 .tip), (14, .int .i64 i)]) (fun i => [(8, .arr 1 ((ll.take i).map encB))]) [.vt 8 8 1] ?_
  simp
  refine ⟨fun i hi K hK => ?_, fun K => ?_⟩
  · have hx : ll[i]? = some ll[i] := List.getElem?_eq_getElem hi
    have hi' : min i ll.length = i := by omega
    simp (disch := omega) [F.burrowref14_Pushl0, hx, hi, encB, hi']
    have := hb _ (List.getElem_mem hi)
    repeat (refine ⟨by omega, ?_⟩)
    refine ⟨[.keep [0, 1, 2, 6, 7, 8, 12, 13, 14], .fz 21], ?_⟩
    simp
    exact hK _ (by simp [take_map_succ _ hi, encB])
  · simp (disch := omega) [F.burrowref14_Pushl0, F.burrowref14_Pushc1]
    repeat (refine ⟨by omega, ?_⟩)
    have e : max ((ll.length : Int) + 1 - max n 0) 0 = (ll.length + 1 - n.toNat : Nat) := by omega
    rw [e]
    have e2 : ll.length + 1 - n.toNat + (ll.length + 1 - (ll.length + 1 - n.toNat)) ≤ ll.length + 1 := by omega
    refine RetS.plain [.keep [6, 7, 8], .fz 28, .fz 8, .wk 6] ?_
    simp [e2]
    exact List.take_of_length_le (by simp)

theorem burrowref14_Pop {ll : List (List UInt8)} (h : ll.length ≤ 1000000000) (hb : ∀ b ∈ ll, b.length ≤ 1073741824) :
    ARet Pg I.burrowref14_Pop [encBs ll] (popV ll) := by
  refine ACalls.intro T.burrowref14_Pop (by simp [F.burrowref14_Pop]) ?_
  simp [F.burrowref14_Pop, argEnv, fpBx, encBs]
  refine ⟨?_, ?_⟩
  · rintro rfl
    refine RetS.plain [.wk 2, .wk 3] ?_
    simp [popV, encB, encBs]
  · intro hne
    obtain ⟨b, r, rfl⟩ := List.exists_cons_of_ne_nil hne
    simp [encB]
    repeat (refine ⟨by omega, ?_⟩)
    refine RetS.plain [.keep [2, 3, 4], .wk 3] ?_
    simp [popV, encB, encBs]

theorem burrowref14_Size {ll : List (List UInt8)} (h : (ll.map List.length).sum ≤ 1073741824) (hl : ll.length ≤ 1073741824) :
    ARet Pg I.burrowref14_Size [encBs ll] (.int .i64 (ll.map List.length).sum) := by
  refine ACalls.intro T.burrowref14_Size (by simp [F.burrowref14_Size]) ?_
  simp [F.burrowref14_Size, argEnv, fpBx, encBs]
  refine LpS.rng ll.length (fun _ => True) [0, 3, 6, 7, 8] (fun i => [(3, .int .i64 ((ll.take i).map List.length).sum), (8, .int .i64 i)]) (fun i => []) [] ?_
  simp
  refine ⟨fun i hi K hK => ?_, fun K => ?_⟩
  · have hx : ll[i]? = some ll[i] := List.getElem?_eq_getElem hi
    have hs : (List.take (i + 1) (List.map List.length ll)).sum = (List.take i (List.map List.length ll)).sum + ll[i].length := by simp [take_map_succ _ hi]
    have hs2 : (List.take (i + 1) (List.map List.length ll)).sum ≤ 1073741824 := by
      refine Nat.le_trans ?_ h
      conv => rhs; rw [← List.take_append_drop (i + 1) (List.map List.length ll)]
      rw [List.sum_append]; omega
    simp (disch := omega) [F.burrowref14_Sizel0, hx, hi, encB]
    exact ⟨[], hK _ (by simp [hs])⟩
  · simp [F.burrowref14_Sizel0, F.burrowref14_Sizec1]
    refine RetS.plain [] ?_
    simp

theorem burrowlaw18_same {l m : List (List UInt8)} (hl : l.length ≤ 1073741824) (hm : m.length ≤ 1073741824) :
    ARet Pg I.burrowlaw18_same [encBs l, encBs m] (.bl (decide (l = m))) := by
  refine ACalls.intro T.burrowlaw18_same (by simp [F.burrowlaw18_same]) ?_
  simp [F.burrowlaw18_same, argEnv, fpBx, encBs]
  refine ⟨fun hne => ?_, fun he => ?_⟩
  · refine RetS.plain [] ?_
    simp
    rintro rfl; exact absurd rfl hne
  · have hlm : l.length = m.length := by omega
    refine LpS.rng l.length (fun i => l.take i = m.take i) [0, 1, 4, 11, 12, 13] (fun i => [(13, .int .i64 i)]) (fun i => []) [] ?_
    simp
    refine ⟨fun i hi hI K hK => ?_, fun hI K => ?_⟩
    · have hx : l[i]? = some l[i] := List.getElem?_eq_getElem hi
      have hy : m[i]? = some m[i] := List.getElem?_eq_getElem (by omega)
      have hi2 : (i : Int) < m.length := by omega
      simp (disch := omega) [F.burrowlaw18_samel0, hx, hy, hi, hi2, encB]
      refine ⟨fun hne => ?_, fun heq => ?_⟩
      · refine RetS.plain [] ?_
        simp
        rintro rfl; exact absurd rfl hne
      · refine ⟨[], hK _ (by simp) ?_⟩
        rw [List.take_succ_eq_append_getElem hi, List.take_succ_eq_append_getElem (by omega), hI, heq]
    · simp [F.burrowlaw18_samel0, F.burrowlaw18_samec1]
      refine RetS.plain [] ?_
      simp
      rw [List.take_of_length_le (by omega)] at hI; exact hI
theorem burrowlaw18_begun : ARet Pg I.burrowlaw18_begun [] (.bl true) := by
  refine ACalls.intro T.burrowlaw18_begun (by simp [F.burrowlaw18_begun]) ?_
  simp [F.burrowlaw18_begun, argEnv, fpBx, encBs]
  refine callS.ret (stage_Push (ll := [[1], [2]]) (n := 2) (p := [3]) (by simp) (by simp) (by simp) (by omega)) (by simp [encB, encBs, u8]) (by simp) (by simp) ?_
  have e2 : asBytes [u8 2] = some [2] := asBytes_map [2]
  have e3 : asBytes [u8 3] = some [3] := asBytes_map [3]
  simp [encBs, encB, e2, e3]
  refine RetS.plain [.keep [0]] ?_
  simp
end Go.Ab
