/- Two daemons that are one: burrowref25.Same. Conditions: lengths up to 2^20. -/
import Derived.Test.YtilndiilinoeiaaE2
set_option linter.all false
namespace Go.Ab
open Go.Ab
set_option maxRecDepth 10000 in
set_option maxHeartbeats 4000000 in
theorem burrowref25_SamePeer (p : Per) (h1 : p.staged.length ≤ 1048576) : ARet Pg I.burrowref25_SamePeer [encPe p, encPe p] (.bl true) := by
  refine ACalls.intro T.burrowref25_SamePeer (by simp [F.burrowref25_SamePeer]) ?_
  simp (maxSteps := 1000000) [F.burrowref25_SamePeer, argEnv, fpBx]
  refine LpS.rng p.staged.length (fun _ => True) [2, 3, 4, 113, 114] (fun i => [(114, .int .i64 i)]) (fun i => []) [.keep [2, 3, 4, 113, 114]] ?_
  simp
  refine ⟨fun i hi K hK => ?_, fun K => ?_⟩
  · have hx : p.staged[i]? = some p.staged[i] := List.getElem?_eq_getElem hi
    simp [F.burrowref25_SamePeerl0, hx, hi, wrapi hi h1]
    refine ⟨[.keep [2, 3, 4, 113, 114]], ?_⟩
    simp
    exact hK _ (by simp)
  · simp [F.burrowref25_SamePeerl0, F.burrowref25_SamePeerc1]
    refine RetS.plain [] ?_
    simp
set_option maxRecDepth 10000 in
set_option maxHeartbeats 4000000 in
theorem burrowref25_sameLists {d : Dmn} (h : Sml d) : ARet Pg I.burrowref25_sameLists [encD d, encD d] (.bl true) := by
  refine ACalls.intro T.burrowref25_sameLists (by simp [F.burrowref25_sameLists]) ?_
  simp (maxSteps := 1000000) [F.burrowref25_sameLists, argEnv, fpBx]
  refine LpS.rng d.routes.length (fun _ => True) [2, 3, 4, 55, 56] (fun i => [(56, .int .i64 i)]) (fun i => []) [.keep [2, 3, 4, 55, 56]] ?_
  simp
  refine ⟨fun i hi K hK => ?_, fun K => ?_⟩
  · have hx : d.routes[i]? = some d.routes[i] := List.getElem?_eq_getElem hi
    simp [F.burrowref25_sameListsl0, hx, hi, wrapi hi h.routes]
    refine ⟨[.keep [2, 3, 4, 55, 56]], ?_⟩
    simp
    exact hK _ (by simp)
  · simp [F.burrowref25_sameListsl0, F.burrowref25_sameListsc9]
    refine LpS.rng d.slots.length (fun _ => True) [2, 3, 4, 73, 74] (fun i => [(74, .int .i64 i)]) (fun i => []) [.keep [2, 3, 4, 73, 74]] ?_
    simp
    refine ⟨fun i hi K hK => ?_, fun K => ?_⟩
    · have hx : d.slots[i]? = some d.slots[i] := List.getElem?_eq_getElem hi
      simp [F.burrowref25_sameListsl1, hx, hi, wrapi hi h.slots]
      refine ⟨[.keep [2, 3, 4, 73, 74]], ?_⟩
      simp
      exact hK _ (by simp)
    · simp [F.burrowref25_sameListsl1, F.burrowref25_sameListsc8]
      refine LpS.rng d.timers.length (fun _ => True) [2, 3, 4, 91, 92] (fun i => [(92, .int .i64 i)]) (fun i => []) [.keep [2, 3, 4, 91, 92]] ?_
      simp
      refine ⟨fun i hi K hK => ?_, fun K => ?_⟩
      · have hx : d.timers[i]? = some d.timers[i] := List.getElem?_eq_getElem hi
        simp [F.burrowref25_sameListsl2, hx, hi, wrapi hi h.timers]
        refine ⟨[.keep [2, 3, 4, 91, 92]], ?_⟩
        simp
        exact hK _ (by simp)
      · simp [F.burrowref25_sameListsl2, F.burrowref25_sameListsc7]
        refine LpS.rng d.recent.length (fun _ => True) [2, 3, 4, 109, 110] (fun i => [(110, .int .i64 i)]) (fun i => []) [.keep [2, 3, 4, 109, 110]] ?_
        simp
        refine ⟨fun i hi K hK => ?_, fun K => ?_⟩
        · have hx : d.recent[i]? = some d.recent[i] := List.getElem?_eq_getElem hi
          simp [F.burrowref25_sameListsl3, hx, hi, wrapi hi h.recent]
          refine ⟨[.keep [2, 3, 4, 109, 110]], ?_⟩
          simp
          exact hK _ (by simp)
        · simp [F.burrowref25_sameListsl3, F.burrowref25_sameListsc6]
          refine LpS.rng d.buckets.length (fun _ => True) [2, 3, 4, 127, 128] (fun i => [(128, .int .i64 i)]) (fun i => []) [.keep [2, 3, 4, 127, 128]] ?_
          simp
          refine ⟨fun i hi K hK => ?_, fun K => ?_⟩
          · have hx : d.buckets[i]? = some d.buckets[i] := List.getElem?_eq_getElem hi
            simp [F.burrowref25_sameListsl4, hx, hi, wrapi hi h.buckets]
            refine ⟨[.keep [2, 3, 4, 127, 128]], ?_⟩
            simp
            exact hK _ (by simp)
          · simp [F.burrowref25_sameListsl4, F.burrowref25_sameListsc5]
            refine RetS.plain [] ?_
            simp
set_option maxRecDepth 10000 in
set_option maxHeartbeats 4000000 in
theorem burrowref25_Same {d : Dmn} (h : Sml d) : ARet Pg I.burrowref25_Same [encD d, encD d] (.bl true) := by
  refine ACalls.intro T.burrowref25_Same (by simp [F.burrowref25_Same]) ?_
  simp (maxSteps := 1000000) [F.burrowref25_Same, argEnv, fpBx]
  refine LpS.rng d.peers.length (fun _ => True) [2, 3, 4, 78, 79] (fun i => [(79, .int .i64 i)]) (fun i => []) [.keep [2, 3, 4, 78, 79]] ?_
  simp
  refine ⟨fun i hi K hK => ?_, fun K => ?_⟩
  · have hx : d.peers[i]? = some d.peers[i] := List.getElem?_eq_getElem hi
    simp [F.burrowref25_Samel0, hx, hi]
    refine callT.ret (burrowref25_SamePeer d.peers[i] (h.staged _ (List.getElem_mem hi)).1) (by simp) (by simp) (by simp) ?_
    simp [wrapi hi h.peers]
    refine ⟨[.keep [2, 3, 4, 78, 79]], ?_⟩
    simp
    exact hK _ (by simp)
  · simp [F.burrowref25_Samel0, F.burrowref25_Samec1]
    refine callS.ret (burrowref25_sameLists h) (by simp) (by simp) (by simp) ?_
    simp
    refine RetS.plain [] ?_
    simp
end Go.Ab
