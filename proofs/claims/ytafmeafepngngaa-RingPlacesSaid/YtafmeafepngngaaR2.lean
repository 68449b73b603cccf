/- Counting, and the example of the chapter. -/
import Derived.Test.YtafmeafepngngaaR1
set_option linter.all false
namespace Go.Ab
open Go.Ab

def cnt (x : Int) (l : List (List Int)) : Nat := (l.map (List.count x)).sum
theorem cnt_succ {x : Int} {l : List (List Int)} {i : Nat} (h : i < l.length) : cnt x (l.take (i + 1)) = cnt x (l.take i) + List.count x l[i] := by
  unfold cnt
  rw [List.take_succ_eq_append_getElem h, List.map_append, List.sum_append]
  simp only [List.map_cons, List.map_nil, List.sum_cons, List.sum_nil, Nat.add_zero]
theorem count_succ {x : Int} {l : List Int} {i : Nat} (h : i < l.length) : List.count x (l.take (i + 1)) = List.count x (l.take i) + (if x = l[i] then 1 else 0) := by
  rw [List.take_succ_eq_append_getElem h, List.count_append, List.count_singleton]
  congr 1
  by_cases hx : x = l[i]
  · simp [hx]
  · simp [hx, Ne.symm hx]
theorem count_take_le (x : Int) (l : List Int) (i : Nat) : List.count x (l.take i) ≤ i := by
  have := List.count_le_length (a := x) (l := l.take i)
  rw [List.length_take] at this; omega

set_option maxRecDepth 10000 in
set_option maxHeartbeats 1000000 in
theorem burrowlaw23_count {x : Int} {l : List (List Int)} (h : l.length ≤ 1000) (hb : ∀ a ∈ l, a.length ≤ 1000000) : ARet Pg I.burrowlaw23_count [.int .u32 x, .sl 1 (l.map encU) false] (.int .i64 (cnt x l)) := by
  refine ACalls.intro T.burrowlaw23_count (by simp [F.burrowlaw23_count]) ?_
  simp [F.burrowlaw23_count, argEnv, fpBx]
  refine LpS.rng l.length (fun i => cnt x (l.take i) ≤ 1000000 * i) [0, 4, 5, 10, 11, 12] (fun i => [(5, .int .i64 (cnt x (l.take i))), (12, .int .i64 i)]) (fun i => []) [] ?_
  simp [show cnt x [] = 0 from rfl]
  refine ⟨fun i hi hI K hK => ?_, fun hI K => ?_⟩
  · have hx : l[i]? = some l[i] := List.getElem?_eq_getElem hi
    have hbi := hb _ (List.getElem_mem hi)
    rw [cnt_succ hi] at hK
    generalize cnt x (l.take i) = c at *
    obtain ⟨m, hm⟩ : ∃ m, l[i] = m := ⟨_, rfl⟩
    rw [hm] at hx hbi hK
    simp [F.burrowlaw23_countl2, hx, hi, hm, encU]
    refine LpS.rng m.length (fun _ => True) [0, 4, 5, 10, 11, 12, 16, 17, 18] (fun j => [(5, .int .i64 (c + List.count x (m.take j) : Nat)), (18, .int .i64 j)]) (fun j => []) [] ?_
    simp
    refine ⟨fun j hj K2 hK2 => ?_, fun K2 => ?_⟩
    · have hy : m[j]? = some m[j] := List.getElem?_eq_getElem hj
      have hle := count_take_le x m j
      rw [count_succ hj] at hK2
      generalize List.count x (m.take j) = d at *
      by_cases he : x = m[j]
      · simp (disch := omega) [F.burrowlaw23_countl0, hy, hj, he]
        refine ⟨[.keep [0, 4, 5, 10, 11, 12, 16, 17, 18]], ?_⟩
        simp
        exact hK2 _ (by simp [← he]; omega)
      · simp (disch := omega) [F.burrowlaw23_countl0, hy, hj, he]
        refine ⟨[.keep [0, 4, 5, 10, 11, 12, 16, 17, 18]], ?_⟩
        simp
        exact hK2 _ (by simp [he])
    · have := List.count_le_length (a := x) (l := m)
      simp (disch := omega) [F.burrowlaw23_countl0, F.burrowlaw23_countc1]
      refine ⟨[.keep [0, 4, 5, 10, 11, 12]], ?_⟩
      simp
      exact hK _ (by simp) (by omega)
  · simp [F.burrowlaw23_countl2, F.burrowlaw23_countc3]
    refine RetS.plain [] ?_
    simp

def S5 : Ses := { S0 with loc := 5 }
def RA : Rng := ⟨P0, P0, ⟨true, S5⟩⟩
def RB : Rng := ⟨P0, ⟨true, S5⟩, P0⟩
theorem ans5 : ARet Pg I.ring_Answer [encR R0, encS S5] (.tup [encR RA, encU []]) := ring_Answer R0 S5
theorem cnf5 : ARet Pg I.ring_Confirm [encR RA, .int .u32 5] (.tup [encR RB, .bl true, encU []]) := ring_Confirm RA 5
set_option maxRecDepth 10000 in
set_option maxHeartbeats 1000000 in
theorem burrowlaw23_begun : ARet Pg I.burrowlaw23_begun [] (.bl true) := by
  refine ACalls.intro T.burrowlaw23_begun (by simp [F.burrowlaw23_begun]) ?_
  simp [F.burrowlaw23_begun, argEnv, fpBx]
  refine callS.ret ans5 (by simp [R0, P0, S0, encR, encP, encS, S5]) (by simp) (by simp) ?_
  simp
  refine callS.ret cnf5 (by simp) (by simp) (by simp) ?_
  simp [encR, encP, encS, encU, RB, S5, P0, S0]
  refine ⟨rfl, RetS.plain [.keep [0]] ?_⟩
  simp
  rfl
end Go.Ab
