/- Get, and the places of the ring: the law's body. -/
import Derived.Test.YtafmeafepngngaaR5
set_option linter.all false
namespace Go.Ab
open Go.Ab

def getR (r : Rng) (n : Int) : Plc := if n = 1 then r.p else if n = 2 then r.c else if n = 3 then r.n else P0
set_option maxRecDepth 10000 in
set_option maxHeartbeats 1000000 in
theorem ring_Get (r : Rng) (n : Int) : ARet Pg I.ring_Get [encR r, .int .i64 n] (encP (getR r n)) := by
  refine ACalls.intro T.ring_Get (by simp [F.ring_Get]) ?_
  simp [F.ring_Get, argEnv, fpBx]
  refine callS.lend 9 (by simp) (ring_ring_places r) (by simp) (by simp) (by simp) (by simp) (by simp [plcs, refsOk, refsOkL, inFp]) (r' := plcs 9) (by simp [plcs, ren, renL, ren2]) ?_
  simp [plcs, show zr 3 PV.nf = [.nf, .nf, .nf] from rfl, show ∀ f a b, (PV.fn f a b).width = 1 from fun _ _ _ => rfl, show PV.nf.width = 1 from rfl]
  refine ⟨fun h => ?_, fun h1 h3 => ?_⟩
  · refine RetS.plain [] ?_
    have hg : getR r n = P0 := by
      unfold getR
      rw [if_neg (by omega), if_neg (by omega), if_neg (by omega)]
    simp [hg, P0, S0, encP, encS]
  · rcases (by omega : n = 1 ∨ n = 2 ∨ n = 3) with rfl | rfl | rfl
    · simp
      refine ⟨rfl, ?_⟩
      refine callS.lend 9 (by simp) (ring_ring_previous r) (by simp) (by simp) (by simp) (by simp) (by simp [refsOk, inFp]) (r' := .pt 9 [.f 0 0, .f 0 0] 0) (by simp [ren, ren2]) ?_
      simp [encR]
      refine RetS.plain [] ?_
      simp [getR]
    · simp
      refine ⟨rfl, ?_⟩
      refine callS.lend 9 (by simp) (ring_ring_current r) (by simp) (by simp) (by simp) (by simp) (by simp [refsOk, inFp]) (r' := .pt 9 [.f 0 0, .f 1 77] 0) (by simp [ren, ren2]) ?_
      simp [encR]
      refine RetS.plain [] ?_
      simp [getR]
    · simp
      refine ⟨rfl, ?_⟩
      refine callS.lend 9 (by simp) (ring_ring_next r) (by simp) (by simp) (by simp) (by simp) (by simp [refsOk, inFp]) (r' := .pt 9 [.f 0 0, .f 2 154] 0) (by simp [ren, ren2]) ?_
      simp [encR]
      refine RetS.plain [] ?_
      simp [getR]

def sameU (a b : List Int) : Bool := decide (a = b)
set_option maxRecDepth 10000 in
set_option maxHeartbeats 1000000 in
theorem burrowlaw23_same {a b : List Int} (h : a.length ≤ 1073741824) : ARet Pg I.burrowlaw23_same [encU a, encU b] (.bl (decide (a = b))) := by
  refine ACalls.intro T.burrowlaw23_same (by simp [F.burrowlaw23_same]) ?_
  by_cases hl : a.length = b.length
  · simp [F.burrowlaw23_same, argEnv, fpBx, encU, hl]
    rw [← hl]
    refine LpS.rng a.length (fun i => a.take i = b.take i) [0, 1, 4, 11, 12, 13] (fun i => [(13, .int .i64 i)]) (fun i => []) [] ?_
    simp
    refine ⟨fun i hi hI K hK => ?_, fun hI K => ?_⟩
    · have hx : a[i]? = some a[i] := List.getElem?_eq_getElem hi
      have hi2 : i < b.length := by omega
      have hy : b[i]? = some b[i] := List.getElem?_eq_getElem hi2
      have hta := List.take_succ_eq_append_getElem hi
      have htb := List.take_succ_eq_append_getElem hi2
      obtain ⟨p, hp⟩ : ∃ p, a[i] = p := ⟨_, rfl⟩
      obtain ⟨q, hq⟩ : ∃ q, b[i] = q := ⟨_, rfl⟩
      rw [hp] at hx hta
      rw [hq] at hy htb
      by_cases he : p = q
      · simp (disch := omega) [F.burrowlaw23_samel0, hx, hy, hi, hi2, hp, hq, he]
        refine ⟨[.keep [0, 1, 4, 11, 12, 13]], ?_⟩
        simp
        exact hK _ (by simp) (by rw [hta, htb, hI, he])
      · simp (disch := omega) [F.burrowlaw23_samel0, hx, hy, hi, hi2, hp, hq, he]
        refine RetS.plain [] ?_
        have hne : a ≠ b := fun e => he (by rw [← hp, ← hq]; simp [e])
        simp [hne]
    · have hab : a = b := by rw [hI, hl, List.take_length]
      simp (disch := omega) [F.burrowlaw23_samel0, F.burrowlaw23_samec1]
      refine RetS.plain [] ?_
      simp [hab]
  · have hne : a ≠ b := fun e => hl (by rw [e])
    have hl' : ¬ (a.length : Int) = b.length := by omega
    simp [F.burrowlaw23_same, argEnv, fpBx, encU, hl']
    refine RetS.plain [] ?_
    simp [hne]
end Go.Ab
