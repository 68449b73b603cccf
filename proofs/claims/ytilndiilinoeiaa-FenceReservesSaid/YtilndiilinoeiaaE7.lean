/- Windows with small counters: burrowref14.CheckWindow, AcceptWindow. Conditions: counters below 8. -/
import Derived.Test.YtilndiilinoeiaaE6
set_option linter.all false
namespace Go.Ab
open Go.Ab
structure Win where
  used : Bool
  top : Int
  w0 : Int
  w1 : Int
  w2 : Int
  w3 : Int
def wP (w : Win) : PV := .st 6 [.bl w.used, .int .u64 w.top, .ar 1 4 [.int .u64 w.w0, .int .u64 w.w1, .int .u64 w.w2, .int .u64 w.w3]]
def encW (w : Win) : FV shWn := ⟨wP w, by simp [wP, fits, fitsL, shW, shWL, fitsA]⟩
def chkW (w : Win) (c : Int) : Bool := !w.used || decide (w.top < c) || decide (bits .and .u64 (w.w0.fdiv (2 ^ min c.toNat 64)) 1 = 0)
structure SmW (w : Win) (c : Int) : Prop where
  t0 : 0 ≤ w.top
  t8 : w.top < 8
  c0 : 0 ≤ c
  c8 : c < 8
theorem q64 {c : Int} (h0 : 0 ≤ c) (h8 : c < 8) : c.tdiv 64 = 0 := Int.tdiv_eq_zero_of_lt h0 (by omega)
theorem r64 {c : Int} (h0 : 0 ≤ c) (h8 : c < 8) : c.tmod 64 = c := Int.tmod_eq_of_lt h0 (by omega)
set_option maxRecDepth 10000 in
theorem burrowref14_CheckWindow {w : Win} {c : Int} (h : SmW w c) : ARet Pg I.burrowref14_CheckWindow [wP w, .int .u64 c] (.bl (chkW w c)) := by
  refine ACalls.intro T.burrowref14_CheckWindow (by simp [F.burrowref14_CheckWindow]) ?_
  have h0 := h.c0
  have h1 := q64 h.c0 h.c8
  have h2 := r64 h.c0 h.c8
  have h3 := q64 h.t0 h.t8
  have w0 : IntKind.u64.wrap 0 = 0 := rfl
  by_cases hu : w.used = true
  · by_cases ht : w.top < c
    · simp [F.burrowref14_CheckWindow, argEnv, fpBx, wP, hu, ht, widths]
      refine RetS.plain [] ?_
      simp [chkW, hu, ht]
    · simp [F.burrowref14_CheckWindow, argEnv, fpBx, wP, hu, ht, widths, h1, h2, h3, w0]
      refine ⟨h0, ?_⟩
      refine RetS.plain [] ?_
      simp [chkW, hu, ht]
      rfl
  · simp [F.burrowref14_CheckWindow, argEnv, fpBx, wP, hu, widths]
    refine RetS.plain [] ?_
    simp [chkW, hu]
def accW (w : Win) (c : Int) : Win × Bool :=
  if chkW w c = true then
    let v : Win := if w.used = true then w else ⟨true, c, 0, 0, 0, 0⟩
    (⟨true, max v.top c, bits .or .u64 v.w0 (IntKind.u64.wrap (2 ^ min c.toNat 64)), v.w1, v.w2, v.w3⟩, true)
  else (w, false)
set_option maxRecDepth 10000 in
theorem burrowref14_AcceptWindow {w : Win} {c : Int} (h : SmW w c) : ARet Pg I.burrowref14_AcceptWindow [wP w, .int .u64 c] (.tup [wP (accW w c).1, .bl (accW w c).2]) := by
  refine ACalls.intro T.burrowref14_AcceptWindow (by simp [F.burrowref14_AcceptWindow]) ?_
  have h0 := h.c0
  have h1 := q64 h.c0 h.c8
  have h2 := r64 h.c0 h.c8
  have h3 := q64 h.t0 h.t8
  have w0 : IntKind.u64.wrap 0 = 0 := rfl
  have hc := burrowref14_CheckWindow h
  cases hk : chkW w c with
  | false =>
    rw [hk] at hc
    simp [F.burrowref14_AcceptWindow, argEnv, fpBx, wP]
    refine callS.ret hc (by simp [wP]) (by simp) (by simp) ?_
    simp
    refine RetS.plain [] ?_
    simp [accW, hk]
  | true =>
    rw [hk] at hc
    have hp : ∀ x : Int, bits .or .u64 0 x = bits .or .u64 0 x := fun _ => rfl
    by_cases hu : w.used = true
    · by_cases ht : w.top < c
      · have hm : max w.top c = c := by omega
        simp [F.burrowref14_AcceptWindow, argEnv, fpBx, wP, hu]
        refine callS.ret hc (by simp [wP, hu]) (by simp) (by simp) ?_
        simp [ht]
        refine LpS.rng 0 (fun _ => True) [1, 2, 4, 5, 6] (fun i => []) (fun i => []) [.keep [1, 2, 4, 5, 6]] ?_
        simp
        intro K
        simp [F.burrowref14_AcceptWindowl0, F.burrowref14_AcceptWindowc1, F.burrowref14_AcceptWindowc2, h1, h2, h3, w0, widths, h0, (by omega : min (0 : Int) 4 = 0)]
        refine RetS.plain [] ?_
        simp [accW, hk, hu, hm]
        rfl
      · have hm : max w.top c = w.top := by omega
        simp [F.burrowref14_AcceptWindow, argEnv, fpBx, wP, hu]
        refine callS.ret hc (by simp [wP, hu]) (by simp) (by simp) ?_
        simp [ht, F.burrowref14_AcceptWindowc2, h1, h2, h3, w0, widths, h0]
        refine RetS.plain [] ?_
        simp [accW, hk, hu, hm]
        rfl
    · simp [F.burrowref14_AcceptWindow, argEnv, fpBx, wP, hu]
      refine callS.ret hc (by simp [wP, hu]) (by simp) (by simp) ?_
      simp [F.burrowref14_AcceptWindowc2, h1, h2, h3, w0, widths, h0, zr, List.replicate]
      refine RetS.plain [] ?_
      simp [accW, hk, hu]
      rfl
theorem accW_ok {w : Win} {c : Int} (h : SmW w c) : (accW w c).1.used = w.used ∧ (accW w c).1 = w ∨ (accW w c).1.used = true := by
  unfold accW; split
  · right; rfl
  · left; exact ⟨rfl, rfl⟩
theorem accW_top {w : Win} {c : Int} (h : SmW w c) : 0 ≤ (accW w c).1.top ∧ (accW w c).1.top < 8 := by
  obtain ⟨a1, a2, a3, a4⟩ := h
  unfold accW; split
  · by_cases hu : w.used = true <;> simp [hu] <;> omega
  · exact ⟨a1, a2⟩
end Go.Ab
