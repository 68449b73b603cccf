/- Rings of the document: burrowref22.locals, clean, Locals, Begin, Answer, New. No condition. -/
import Derived.Test.YtilndiilinoeiaaE7
set_option linter.all false
namespace Go.Ab
open Go.Ab
def zKy : FV shKy := ⟨.ar 1 32 (zr 32 (.int .u8 0)), rfl⟩
def zWn : FV shWn := ⟨.st 6 [.bl false, .int .u64 0, .ar 1 4 (zr 4 (.int .u64 0))], rfl⟩
def zSes : Ses := ⟨0, 0, zKy, zKy, 0, 0, zWn, 0, false⟩
def zPlc : Plc := ⟨false, zSes⟩
theorem zPlc_e : encP zPlc = (.st 77 [(.bl false), (.st 76 [(.int .u32 0), (.int .u32 0), (.ar 1 32 (zr 32 (.int .u8 0))), (.ar 1 32 (zr 32 (.int .u8 0))), (.int .u64 0), (.int .u64 0), (.st 6 [(.bl false), (.int .u64 0), (.ar 1 4 (zr 4 (.int .u64 0)))]), (.int .i64 0), (.bl false)])]) := rfl
def lcl (l : List Plc) : List Int := (l.filter (fun p => p.has)).map (fun p => p.ses.loc)
theorem lcl_cons (p : Plc) (l : List Plc) : lcl (p :: l) = (if p.has = true then [p.ses.loc] else []) ++ lcl l := by
  unfold lcl; by_cases h : p.has = true <;> simp [h]
theorem lcl_succ {l : List Plc} {i : Nat} (h : i < l.length) : lcl (l.take (i + 1)) = lcl (l.take i) ++ (if l[i].has = true then [l[i].ses.loc] else []) := by
  unfold lcl; rw [filter_succ _ h]; by_cases hk : l[i].has = true <;> simp [hk]
theorem lcl_le (l : List Plc) : (lcl l).length ≤ l.length := by
  unfold lcl; rw [List.length_map]; exact List.length_filter_le _ _
set_option maxRecDepth 10000 in
set_option maxHeartbeats 1000000 in
theorem burrowref22_locals {l : List Plc} (h : l.length ≤ 8) (b : Bool) : ARet Pg I.burrowref22_locals [.sl 77 (l.map encP) b] (encU (lcl l)) := by
  refine ACalls.intro T.burrowref22_locals (by simp [F.burrowref22_locals]) ?_
  simp [F.burrowref22_locals, argEnv, fpBx, encU]
  refine LpS.rng l.length (fun _ => True) [2, 3, 6, 7, 8] (fun i => [(3, .rs 3 [] 0 (lcl (l.take i)).length (lcl (l.take i)).length 1 .tip), (8, .int .i64 i)]) (fun i => [(3, .arr 1 ((lcl (l.take i)).map (fun n : Int => PV.int .u32 n)))]) [.vt 3 3 1] ?_
  simp [show lcl [] = [] from rfl]
  refine ⟨fun i hi K hK => ?_, fun K => ?_⟩
  · have hx : l[i]? = some l[i] := List.getElem?_eq_getElem hi
    have hlen := lcl_le (l.take i)
    have hlen2 : (l.take i).length ≤ i := by rw [List.length_take]; omega
    rw [lcl_succ hi] at hK
    generalize lcl (l.take i) = out at *
    by_cases h1 : l[i].has = true
    · simp [F.burrowref22_localsl0, hx, hi, h1, wrapi hi (by omega)]
      refine ⟨⟨by omega, by omega⟩, [.keep [2, 3, 6, 7, 8], .dr 5], ?_⟩
      simp [refsEnv, refsBx, refsOk, refsOkB]
      exact hK _ (by simp [h1])
    · simp [F.burrowref22_localsl0, hx, hi, h1, wrapi hi (by omega)]
      refine ⟨[.keep [2, 3, 6, 7, 8], .dr 5], ?_⟩
      simp [refsEnv, refsBx, refsOk, refsOkB]
      exact hK _ (by simp [h1])
  · simp [F.burrowref22_localsl0, F.burrowref22_localsc1]
    refine RetS.plain [.keep [2], .fz 3, .wk 2] ?_
    simp
def cln (p : Plc) : Plc := if p.has = true then p else zPlc
theorem burrowref22_clean (p : Plc) : ARet Pg I.burrowref22_clean [encP p] (encP (cln p)) := by
  refine ACalls.intro T.burrowref22_clean (by simp [F.burrowref22_clean]) ?_
  by_cases h : p.has = true
  · simp [F.burrowref22_clean, argEnv, fpBx, h]
    refine RetS.plain [] ?_
    simp [cln, h]
  · simp [F.burrowref22_clean, argEnv, fpBx, h]
    refine RetS.plain [] ?_
    simp [cln, h, zPlc_e]
theorem burrowref22_Locals (r : Rng) : ARet Pg I.burrowref22_Locals [encR r] (encU (lcl [r.p, r.c, r.n])) := by
  refine ACalls.intro T.burrowref22_Locals (by simp [F.burrowref22_Locals]) ?_
  simp [F.burrowref22_Locals, argEnv, fpBx]
  refine callS.ret (burrowref22_locals (l := [r.p, r.c, r.n]) (by simp) false) (by simp) (by simp) (by simp) ?_
  simp
  refine RetS.plain [] ?_
  simp
def beginR (r : Rng) (s : Ses) : Rng := if r.n.has = true then ⟨r.n, ⟨true, s⟩, zPlc⟩ else ⟨cln r.c, ⟨true, s⟩, zPlc⟩
def beginD (r : Rng) : List Int := if r.n.has = true then lcl [r.p, r.c] else lcl [r.p]
set_option maxRecDepth 10000 in
theorem burrowref22_Begin (r : Rng) (s : Ses) : ARet Pg I.burrowref22_Begin [encR r, encS s] (.tup [encR (beginR r s), encU (beginD r)]) := by
  refine ACalls.intro T.burrowref22_Begin (by simp [F.burrowref22_Begin]) ?_
  by_cases h : r.n.has = true
  · simp [F.burrowref22_Begin, argEnv, fpBx, h]
    refine callT.ret (burrowref22_locals (l := [r.p, r.c]) (by simp) false) (by simp) (by simp) (by simp) ?_
    simp
    refine RetS.plain [] ?_
    simp [beginR, beginD, h, encR, encP]
    exact ⟨rfl, rfl⟩
  · simp [F.burrowref22_Begin, argEnv, fpBx, h]
    refine callT.ret (burrowref22_clean r.c) (by simp) (by simp) (by simp) ?_
    simp
    refine callT.ret (burrowref22_locals (l := [r.p]) (by simp) false) (by simp) (by simp) (by simp) ?_
    simp
    refine RetS.plain [] ?_
    simp [beginR, beginD, h, encR, encP]
    exact ⟨rfl, rfl⟩
def ansR (r : Rng) (s : Ses) : Rng := ⟨zPlc, r.c, ⟨true, s⟩⟩
def ansD (r : Rng) : List Int := lcl [r.p, r.n]
set_option maxRecDepth 10000 in
theorem burrowref22_Answer (r : Rng) (s : Ses) : ARet Pg I.burrowref22_Answer [encR r, encS s] (.tup [encR (ansR r s), encU (ansD r)]) := by
  refine ACalls.intro T.burrowref22_Answer (by simp [F.burrowref22_Answer]) ?_
  simp [F.burrowref22_Answer, argEnv, fpBx]
  refine callT.ret (burrowref22_locals (l := [r.p, r.n]) (by simp) false) (by simp) (by simp) (by simp) ?_
  simp
  refine RetS.plain [] ?_
  simp [ansR, ansD, encR, encP]
  exact ⟨rfl, rfl⟩
theorem burrowref22_New (loc rem : Int) (a b : FV shKy) (born : Int) (ini : Bool) (fence : Int) : ARet Pg I.burrowref22_New [.int .u32 loc, .int .u32 rem, a.p, b.p, .int .i64 born, .bl ini, .int .u64 fence] (encS ⟨loc, rem, a, b, 0, fence, zWn, born, ini⟩) := by
  refine ACalls.intro T.burrowref22_New (by simp [F.burrowref22_New]) ?_
  simp [F.burrowref22_New, argEnv, fpBx]
  refine RetS.plain [] ?_
  simp [encS, zWn]
end Go.Ab
