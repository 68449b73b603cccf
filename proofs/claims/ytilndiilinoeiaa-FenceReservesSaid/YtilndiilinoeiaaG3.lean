/- The checks of the document on timers. -/
import Derived.Test.YtilndiilinoeiaaG2
set_option linter.all false
namespace Go.Ab
open Go.Ab
/-- the timers of made daemons -/
structure TisOk (d : Dmn) : Prop where
  so : ∀ (i : Nat) (h : i + 1 < d.timers.length), lessT d.timers[i] d.timers[i + 1] = true
  rg : ∀ t ∈ d.timers, 2 ≤ t.kind ∧ t.kind ≤ 5 ∧ d.now < t.at_ ∧ t.at_ ≤ 4398046511104 ∧ ∃ i, ∃ h : i < d.peers.length, t.peer = kOf i ∧ (t.kind = 4 → d.peers[i].kal ≠ 0)
  un : ∀ (i j : Nat) (hi : i < d.timers.length) (hj : j < d.timers.length), i < j → ¬ (d.timers[j].peer = d.timers[i].peer ∧ d.timers[j].kind = d.timers[i].kind)
  len : d.timers.length ≤ 1000
set_option maxRecDepth 10000 in
theorem Has_no {l : List Tmr} (hl : l.length ≤ 1000) {k : Key} {n : Int} (h : ∀ t ∈ l, t.kind ≠ n) : ARet Pg I.burrowref14_Has [encTs l, encK k, .int .i64 n] (.bl false) := by
  refine ACalls.intro T.burrowref14_Has (by simp [F.burrowref14_Has]) ?_
  simp [F.burrowref14_Has, argEnv, fpBx]
  refine LpS.rng l.length (fun _ => True) [2, 4, 6, 9, 10, 11] (fun i => [(11, .int .i64 i)]) (fun i => []) [.keep [2, 4, 6, 9, 10, 11]] ?_
  simp
  refine ⟨fun i hi K hK => ?_, fun K => ?_⟩
  · have hx : l[i]? = some l[i] := List.getElem?_eq_getElem hi
    have he := h _ (List.getElem_mem hi)
    by_cases h1 : l[i].peer = k
    · simp [F.burrowref14_Hasl0, hx, hi, he, beq_K, h1, wrapi hi (by omega)]
      refine ⟨[.keep [2, 4, 6, 9, 10, 11], .dr 8], ?_⟩
      simp
      exact hK _ (by simp)
    · simp [F.burrowref14_Hasl0, hx, hi, he, beq_K, h1, wrapi hi (by omega)]
      refine ⟨[.keep [2, 4, 6, 9, 10, 11], .dr 8], ?_⟩
      simp
      exact hK _ (by simp)
  · simp [F.burrowref14_Hasl0, F.burrowref14_Hasc1]
    refine RetS.plain [] ?_
    simp
set_option maxRecDepth 10000 in
set_option maxHeartbeats 1000000 in
theorem ValidTimers_t {l : List Tmr} (hl : l.length ≤ 1000) (hso : ∀ (i : Nat) (h : i + 1 < l.length), lessT l[i] l[i + 1] = true)
    (hrg : ∀ t ∈ l, 2 ≤ t.kind ∧ t.kind ≤ 5 ∧ 0 ≤ t.at_ ∧ t.at_ ≤ 4398046511104)
    (hun : ∀ (i j : Nat) (hi : i < l.length) (hj : j < l.length), i < j → ¬ (l[j].peer = l[i].peer ∧ l[j].kind = l[i].kind)) : ARet Pg I.burrowref14_ValidTimers [encTs l] (.bl true) := by
  refine ACalls.intro T.burrowref14_ValidTimers (by simp [F.burrowref14_ValidTimers]) ?_
  simp [F.burrowref14_ValidTimers, argEnv, fpBx]
  refine LpS.rng l.length (fun _ => True) [0, 2, 7, 8, 9] (fun i => [(9, .int .i64 i)]) (fun i => []) [.keep [0, 2, 7, 8, 9]] ?_
  simp
  refine ⟨fun i hi K hK => ?_, fun K => ?_⟩
  · have hx : l[i]? = some l[i] := List.getElem?_eq_getElem hi
    obtain ⟨r1, r2, r3, r4⟩ := hrg _ (List.getElem_mem hi)
    have g1 : ¬ l[i].kind < 1 := by omega
    have g2 : ¬ 5 < l[i].kind := by omega
    have g3 : ¬ l[i].at_ < 0 := by omega
    have g4 : ¬ 4398046511104 < l[i].at_ := by omega
    by_cases hz : i = 0
    · subst hz
      simp [F.burrowref14_ValidTimersl2, hx, hi, g1, g2, g3, g4, encTs]
      refine LpS.rng 0 (fun _ => True) [0, 2, 4, 7, 8, 9, 48, 49, 50] (fun i => []) (fun i => []) [.keep [0, 2, 4, 7, 8, 9, 48, 49, 50]] ?_
      simp
      intro K2
      simp [F.burrowref14_ValidTimersl0, F.burrowref14_ValidTimersc1]
      refine ⟨[.keep [0, 2, 7, 8, 9], .dr 4], ?_⟩
      simp
      exact hK _ (by simp [encTs])
    · obtain ⟨j, hji⟩ : ∃ j, i = j + 1 := ⟨i - 1, by omega⟩
      have hj : j < l.length := by omega
      have hy : l[j]? = some l[j] := List.getElem?_eq_getElem hj
      have hlt : lessT l[j] l[i] = true := by subst hji; exact hso j hi
      have hw : IntKind.i64.wrap ((i : Int) - 1) = j := by rw [wrap_i64 (by omega)]; omega
      have hlc := burrowref14_LessTimer l[j] l[i]
      rw [hlt] at hlc
      simp [F.burrowref14_ValidTimersl2, hx, hy, hi, hj, g1, g2, g3, g4, hw, show 0 < i by omega]
      refine callT.ret hlc (by simp) (by simp) (by simp) ?_
      simp [encTs, show i ≤ l.length by omega]
      refine LpS.rng i (fun _ => True) [0, 2, 4, 7, 8, 9, 48, 49, 50] (fun m => [(50, .int .i64 m)]) (fun i => []) [.keep [0, 2, 4, 7, 8, 9, 48, 49, 50]] ?_
      simp
      refine ⟨fun m hm K2 hK2 => ?_, fun K2 => ?_⟩
      · have hml : m < l.length := by omega
        have hm' : m < min i l.length := by omega
        have hxm : l[m]? = some l[m] := List.getElem?_eq_getElem hml
        have hu := hun m i hml hi hm
        by_cases hp : l[i].peer = l[m].peer
        · have hk : ¬ l[i].kind = l[m].kind := fun e => hu ⟨hp, e⟩
          simp [F.burrowref14_ValidTimersl0, hxm, hm, hml, beq_K, hp, hk, wrapi hm (by omega)]
          refine ⟨hm', [.keep [0, 2, 4, 7, 8, 9, 48, 49, 50], .dr 6], ?_⟩
          simp
          exact hK2 _ (by simp)
        · simp [F.burrowref14_ValidTimersl0, hxm, hm, hml, beq_K, hp, wrapi hm (by omega)]
          refine ⟨hm', [.keep [0, 2, 4, 7, 8, 9, 48, 49, 50], .dr 6], ?_⟩
          simp
          exact hK2 _ (by simp)
      · simp [F.burrowref14_ValidTimersl0, F.burrowref14_ValidTimersc1, wrapi hi (by omega)]
        refine ⟨[.keep [0, 2, 7, 8, 9], .dr 4], ?_⟩
        simp
        exact hK _ (by simp [encTs])
  · simp [F.burrowref14_ValidTimersl2, F.burrowref14_ValidTimersc3]
    refine RetS.plain [] ?_
    simp
set_option maxRecDepth 10000 in
set_option maxHeartbeats 1000000 in
theorem timers_t {d : Dmn} (h : TisOk d) (hn : 0 ≤ d.now) (hp : PksOk d.peers) (hh : ∀ p ∈ d.peers, PerOk d p) : ARet Pg I.burrowref24_timers [encD d] (.bl true) := by
  refine ACalls.intro T.burrowref24_timers (by simp [F.burrowref24_timers]) ?_
  have hl := h.len
  have hpl := hp.1
  have hv : ARet Pg I.burrowref14_ValidTimers [encTs d.timers] (.bl true) :=
    ValidTimers_t hl h.so (fun t ht => by obtain ⟨r1, r2, r3, r4, _⟩ := h.rg t ht; exact ⟨r1, r2, by omega, r4⟩) h.un
  simp [F.burrowref24_timers, argEnv, fpBx]
  refine callS.ret hv (by simp) (by simp) (by simp) ?_
  simp
  refine LpS.rng d.timers.length (fun _ => True) [1, 2, 13, 14, 15] (fun i => [(15, .int .i64 i)]) (fun i => []) [.keep [1, 2, 13, 14, 15]] ?_
  simp
  refine ⟨fun i hi K hK => ?_, fun K => ?_⟩
  · have hx : d.timers[i]? = some d.timers[i] := List.getElem?_eq_getElem hi
    obtain ⟨r1, r2, r3, r4, j, hj, he, h4⟩ := h.rg _ (List.getElem_mem hi)
    have hf := find_k hp hj
    rw [← he] at hf
    have hn1 : ¬ d.timers[i].at_ ≤ d.now := by omega
    have hn2 : ¬ (j : Int) < 0 := by omega
    have hy : d.peers[j]? = some d.peers[j] := List.getElem?_eq_getElem hj
    simp [F.burrowref24_timersl0, hx, hi]
    refine callS.ret hf (by simp) (by simp) (by simp) ?_
    by_cases hk : d.timers[i].kind = 4
    · have h4' := h4 hk
      simp [hn1, hn2, hk, hy, hj, h4', wrapi hi (by omega)]
      refine ⟨[.keep [1, 2, 13, 14, 15], .dr 4], ?_⟩
      simp
      exact hK _ (by simp)
    · simp [hn1, hn2, hk, hy, hj, wrapi hi (by omega)]
      refine ⟨[.keep [1, 2, 13, 14, 15], .dr 4], ?_⟩
      simp
      exact hK _ (by simp)
  · simp [F.burrowref24_timersl0, F.burrowref24_timersc3]
    refine LpS.rng d.peers.length (fun _ => True) [1, 2, 48, 49, 50] (fun i => [(50, .int .i64 i)]) (fun i => []) [.keep [1, 2, 48, 49, 50]] ?_
    simp
    refine ⟨fun i hi K hK => ?_, fun K => ?_⟩
    · have hx : d.peers[i]? = some d.peers[i] := List.getElem?_eq_getElem hi
      have h5 := (hh _ (List.getElem_mem hi)).hand
      have h6 : d.peers[i].hand.has = false := by rw [h5]; rfl
      have hs : ARet Pg I.burrowref14_Has [encTs d.timers, encK d.peers[i].pub, .int .i64 1] (.bl false) :=
        Has_no hl (fun t ht => by have := (h.rg t ht).1; omega)
      simp [F.burrowref24_timersl1, hx, hi]
      refine callT.ret hs (by simp) (by simp) (by simp) ?_
      simp [h6, wrapi hi (by omega)]
      refine ⟨[.keep [1, 2, 48, 49, 50], .dr 7], ?_⟩
      simp
      exact hK _ (by simp)
    · simp [F.burrowref24_timersl1, F.burrowref24_timersc2]
      refine RetS.plain [] ?_
      simp
end Go.Ab
