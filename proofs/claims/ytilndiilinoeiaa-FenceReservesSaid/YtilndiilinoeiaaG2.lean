/- The checks of the document on routes, indices, timers, load; the state of a made daemon. -/
import Derived.Test.YtilndiilinoeiaaG1
set_option linter.all false
namespace Go.Ab
open Go.Ab
def rt (i : Nat) : Rte := ⟨pfxA (UInt8.ofNat (i + 1)), kOf i⟩
theorem kOf_inj {i j : Nat} (hi : i < 3) (hj : j < 3) (h : kOf i = kOf j) : i = j := by
  have h2 := congrArg (fun k : Key => k.l.head?) h
  rcases (by omega : i = 0 ∨ i = 1 ∨ i = 2) with rfl | rfl | rfl <;> rcases (by omega : j = 0 ∨ j = 1 ∨ j = 2) with rfl | rfl | rfl <;> simp [kOf] at h2 <;> rfl
theorem kOf_lt {i j : Nat} (hij : i < j) (hj : j < 3) : ltK (kOf i) (kOf j) = true := by
  rcases (by omega : i = 0 ∧ j = 1 ∨ i = 0 ∧ j = 2 ∨ i = 1 ∧ j = 2) with ⟨rfl, rfl⟩ | ⟨rfl, rfl⟩ | ⟨rfl, rfl⟩ <;> rfl
theorem rt_lt {i j : Nat} (hij : i < j) (hj : j < 3) : UInt8.ofNat (i + 1) < UInt8.ofNat (j + 1) := by
  rcases (by omega : i = 0 ∧ j = 1 ∨ i = 0 ∧ j = 2 ∨ i = 1 ∧ j = 2) with ⟨rfl, rfl⟩ | ⟨rfl, rfl⟩ | ⟨rfl, rfl⟩ <;> decide
/-- the routes of made daemons -/
def RtsOk (l : List Rte) : Prop := l.length ≤ 3 ∧ ∀ (i : Nat) (h : i < l.length), l[i] = rt i
set_option maxRecDepth 10000 in
theorem ValidRoutes_t {l : List Rte} (h : RtsOk l) : ARet Pg I.burrowref14_ValidRoutes [encRts l] (.bl true) := by
  refine ACalls.intro T.burrowref14_ValidRoutes (by simp [F.burrowref14_ValidRoutes]) ?_
  have hl := h.1
  simp [F.burrowref14_ValidRoutes, argEnv, fpBx]
  refine LpS.rng l.length (fun _ => True) [0, 2, 5, 6, 7] (fun i => [(7, .int .i64 i)]) (fun i => []) [.keep [0, 2, 5, 6, 7]] ?_
  simp
  refine ⟨fun i hi K hK => ?_, fun K => ?_⟩
  · have hx : l[i]? = some l[i] := List.getElem?_eq_getElem hi
    have he := h.2 i hi
    have hp : l[i].pfx = pfxA (UInt8.ofNat (i + 1)) := by rw [he]; rfl
    have hv : ARet Pg I.burrowref09_Valid [encX l[i].pfx] (.bl true) := by rw [hp]; exact burrowref09_Valid (hostA_z _) rfl
    by_cases hz : i = 0
    · subst hz
      simp [F.burrowref14_ValidRoutesl0, hx, hi]
      refine callT.ret hv (by simp) (by simp) (by simp) ?_
      simp
      refine ⟨[.keep [0, 2, 5, 6, 7], .dr 4], ?_⟩
      simp
      exact hK _ (by simp)
    · obtain ⟨j, hji⟩ : ∃ j, i = j + 1 := ⟨i - 1, by omega⟩
      have hj : j < l.length := by omega
      have hy : l[j]? = some l[j] := List.getElem?_eq_getElem hj
      have hq : l[j].pfx = pfxA (UInt8.ofNat (j + 1)) := by rw [h.2 j hj]; rfl
      have hlt := rt_lt (i := j) (j := i) (by omega) (by omega)
      have hb := burrowref14_before (UInt8.ne_of_lt hlt)
      rw [hostA_less hlt, ← hp, ← hq] at hb
      have hw : IntKind.i64.wrap ((i : Int) - 1) = j := by rw [wrap_i64 (by omega)]; omega
      simp [F.burrowref14_ValidRoutesl0, hx, hy, hi, hj, hw, show 0 < i by omega]
      refine callT.ret hv (by simp) (by simp) (by simp) ?_
      simp [hx, hy, hi, hj, hw, show 0 < i by omega]
      refine callT.ret hb (by simp) (by simp) (by simp) ?_
      simp [wrapi hi (by omega)]
      refine ⟨[.keep [0, 2, 5, 6, 7], .dr 4], ?_⟩
      simp
      exact hK _ (by simp)
  · have hl8 : (l.length : Int) ≤ 16 := by omega
    simp [F.burrowref14_ValidRoutesl0, F.burrowref14_ValidRoutesc1, hl8]
    refine RetS.plain [] ?_
    simp [hl8]
/-- the peers of made daemons -/
def PksOk (l : List Per) : Prop := l.length ≤ 3 ∧ ∀ (i : Nat) (h : i < l.length), l[i].pub = kOf i
theorem find_k {d : Dmn} (h : PksOk d.peers) {i : Nat} (hi : i < d.peers.length) : ARet Pg I.burrowref24_find [encD d, encK (kOf i)] (.int .i64 i) := by
  have hl := h.1
  refine find_yes (by omega) hi (h.2 i hi) (fun j hj hji => ?_)
  rw [h.2 j hj]
  intro e
  exact absurd (kOf_inj (by omega) (by omega) e) (by omega)
set_option maxRecDepth 10000 in
theorem routes_t {d : Dmn} (h : RtsOk d.routes) (hp : PksOk d.peers) (hl : d.routes.length = d.peers.length) : ARet Pg I.burrowref24_routes [encD d] (.bl true) := by
  refine ACalls.intro T.burrowref24_routes (by simp [F.burrowref24_routes]) ?_
  have hl3 := h.1
  simp [F.burrowref24_routes, argEnv, fpBx]
  refine LpS.rng d.routes.length (fun _ => True) [1, 2, 6, 7, 8] (fun i => [(8, .int .i64 i)]) (fun i => []) [.keep [1, 2, 6, 7, 8]] ?_
  simp
  refine ⟨fun i hi K hK => ?_, fun K => ?_⟩
  · have hx : d.routes[i]? = some d.routes[i] := List.getElem?_eq_getElem hi
    have he : d.routes[i].peer = kOf i := by rw [h.2 i hi]; rfl
    have hf := find_k hp (i := i) (by omega)
    rw [← he] at hf
    have hn : ¬ (i : Int) < 0 := by omega
    simp [F.burrowref24_routesl0, hx, hi]
    refine callS.ret hf (by simp) (by simp) (by simp) ?_
    simp [hn, wrapi hi (by omega)]
    refine ⟨[.keep [1, 2, 6, 7, 8], .dr 4], ?_⟩
    simp
    exact hK _ (by simp)
  · simp [F.burrowref24_routesl0, F.burrowref24_routesc1]
    refine callS.ret (ValidRoutes_t h) (by simp) (by simp) (by simp) ?_
    simp
    refine RetS.plain [] ?_
    simp
set_option maxRecDepth 10000 in
theorem load_t {d : Dmn} (h0 : 0 ≤ d.secAt) (h1 : d.secAt ≤ d.now) (h2 : d.recent = []) (h3 : d.buckets = []) : ARet Pg I.burrowref24_load [encD d] (.bl true) := by
  refine ACalls.intro T.burrowref24_load (by simp [F.burrowref24_load]) ?_
  simp [F.burrowref24_load, argEnv, fpBx]
  refine callS.ret (past_t h0 h1) (by simp) (by simp) (by simp) ?_
  simp [h2, h3]
  refine LpS.rng 0 (fun _ => True) [1, 2, 25, 26, 27] (fun i => []) (fun i => []) [.keep [1, 2, 25, 26, 27]] ?_
  simp
  intro K
  simp [F.burrowref24_loadl0, F.burrowref24_loadc3, h3]
  refine LpS.rng 0 (fun _ => True) [1, 2, 52, 53, 54] (fun i => []) (fun i => []) [.keep [1, 2, 52, 53, 54]] ?_
  simp
  intro K
  simp [F.burrowref24_loadl1, F.burrowref24_loadc2]
  refine RetS.plain [] ?_
  simp
end Go.Ab
