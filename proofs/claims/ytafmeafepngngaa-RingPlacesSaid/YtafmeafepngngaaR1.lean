/- The ring's functions: locals, kept, Locals, Begin, Answer, Confirm. -/
import Derived.Test.YtafmeafepngngaaSeatT
import Derived.Test.YtafmeafepngngaaA5
import Derived.Test.YtafmeafepngngaaA5
import Derived.Test.YtafmeafepngngaaA5
set_option linter.all false
namespace Go.Ab
open Go.Ab

abbrev shKy : Sh := .ar 32 (.i .u8)
@[simp] theorem shKy_w : shW shKy = 32 := rfl
@[simp] theorem shKy_agg : Sh.agg shKy = true := rfl
abbrev shWn : Sh := .st [.b, .i .u64, .ar 4 (.i .u64)]
@[simp] theorem shWn_w : shW shWn = 6 := rfl
@[simp] theorem shWn_agg : Sh.agg shWn = true := rfl
structure Ses where
  loc : Int
  rem : Int
  send : FV shKy
  recv : FV shKy
  next : Int
  fence : Int
  win : FV shWn
  born : Int
  ini : Bool
def encS (s : Ses) : PV := .st 76 [.int .u32 s.loc, .int .u32 s.rem, s.send.p, s.recv.p, .int .u64 s.next, .int .u64 s.fence, s.win.p, .int .i64 s.born, .bl s.ini]
@[simp] theorem pure_encS (e : Ses) : Pure (encS e) := by simp [encS]
@[simp] theorem wk_encS (e : Ses) : wk (encS e) = encS e := by simp [encS]
@[simp ↓] theorem vgk_encS (g : Bool) (e : Ses) (K : PV → Prop) : vgk g (encS e) K = K (encS e) := _root_.id rfl
@[simp] theorem encS_width (e : Ses) : (encS e).width = 76 := rfl
@[simp] theorem encS_agg (e : Ses) : (encS e).isAgg = true := rfl
@[simp] theorem encS_cell (e : Ses) : (encS e).cellular = true := rfl
@[simp] theorem encS_flat (e : Ses) : (encS e).flat = true := rfl
structure Plc where
  has : Bool
  ses : Ses
def encP (p : Plc) : PV := .st 77 [.bl p.has, encS p.ses]
@[simp] theorem pure_encP (e : Plc) : Pure (encP e) := by simp [encP]
@[simp] theorem wk_encP (e : Plc) : wk (encP e) = encP e := by simp [encP]
@[simp ↓] theorem vgk_encP (g : Bool) (e : Plc) (K : PV → Prop) : vgk g (encP e) K = K (encP e) := _root_.id rfl
@[simp] theorem encP_width (e : Plc) : (encP e).width = 77 := rfl
@[simp] theorem encP_agg (e : Plc) : (encP e).isAgg = true := rfl
@[simp] theorem encP_cell (e : Plc) : (encP e).cellular = true := rfl
@[simp] theorem encP_flat (e : Plc) : (encP e).flat = true := rfl
@[simp] theorem pureL_mP (l : List Plc) : PureL (l.map encP) := pureL_map pure_encP l
@[simp] theorem wkL_mP (l : List Plc) : wkL (l.map encP) = l.map encP := wkL_map wk_encP l
structure Rng where
  p : Plc
  c : Plc
  n : Plc
def encR (r : Rng) : PV := .st 231 [encP r.p, encP r.c, encP r.n]
@[simp] theorem pure_encR (e : Rng) : Pure (encR e) := by simp [encR]
@[simp] theorem wk_encR (e : Rng) : wk (encR e) = encR e := by simp [encR]
@[simp ↓] theorem vgk_encR (g : Bool) (e : Rng) (K : PV → Prop) : vgk g (encR e) K = K (encR e) := _root_.id rfl
@[simp] theorem encR_width (e : Rng) : (encR e).width = 231 := rfl
@[simp] theorem encR_agg (e : Rng) : (encR e).isAgg = true := rfl
@[simp] theorem encR_cell (e : Rng) : (encR e).cellular = true := rfl
@[simp] theorem encR_flat (e : Rng) : (encR e).flat = true := rfl
abbrev u32 (n : Int) : PV := .int .u32 n
def encU (l : List Int) : PV := .sl 1 (l.map u32) false
@[simp] theorem pureL_mU (l : List Int) : PureL (l.map u32) := pureL_map (fun _ => by simp) l
@[simp] theorem wkL_mU (l : List Int) : wkL (l.map u32) = l.map u32 := wkL_map (fun _ => by simp) l
@[simp] theorem pure_encU (e : List Int) : Pure (encU e) := by simp [encU]
@[simp] theorem wk_encU (e : List Int) : wk (encU e) = encU e := by simp [encU]
@[simp ↓] theorem vgk_encU (g : Bool) (e : List Int) (K : PV → Prop) : vgk g (encU e) K = K (encU e) := _root_.id rfl
@[simp] theorem encU_flat (e : List Int) : (encU e).flat = true := rfl

def S0 : Ses := ⟨0, 0, ⟨.ar 1 32 (zr 32 (.int .u8 0)), rfl⟩, ⟨.ar 1 32 (zr 32 (.int .u8 0)), rfl⟩, 0, 0, ⟨.st 6 [.bl false, .int .u64 0, .ar 1 4 (zr 4 (.int .u64 0))], rfl⟩, 0, false⟩
def P0 : Plc := ⟨false, S0⟩
def R0 : Rng := ⟨P0, P0, P0⟩
def locs (l : List Plc) : List Int := (l.filter fun a => a.has).map (·.ses.loc)
theorem locs_succ {l : List Plc} {i : Nat} (h : i < l.length) : locs (l.take (i + 1)) = locs (l.take i) ++ (if l[i].has = true then [l[i].ses.loc] else []) := by
  unfold locs
  rw [List.take_succ_eq_append_getElem h, List.filter_append, List.map_append]
  congr 1
  by_cases hk : l[i].has = true <;> simp [hk]
theorem locs_len (l : List Plc) : (locs l).length ≤ l.length := by
  unfold locs; rw [List.length_map]; exact List.length_filter_le _ _

set_option maxRecDepth 10000 in
theorem ring_locals {l : List Plc} (h : l.length ≤ 1073741824) : ARet Pg I.ring_locals [.sl 77 (l.map encP) false] (encU (locs l)) := by
  refine ACalls.intro T.ring_locals (by simp [F.ring_locals]) ?_
  simp [F.ring_locals, argEnv, fpBx]
  refine LpS.rng l.length (fun _ => True) [0, 2, 3, 6, 7, 8] (fun i => [(3, .rs 3 [] 0 (locs (l.take i)).length (locs (l.take i)).length 1 .tip), (8, .int .i64 i)]) (fun i => [(3, .arr 1 ((locs (l.take i)).map u32))]) [.vt 3 3 1] ?_
  simp [show locs [] = [] from rfl]
  refine ⟨fun i hi K hK => ?_, fun K => ?_⟩
  · have hx : l[i]? = some l[i] := List.getElem?_eq_getElem hi
    have hlen := locs_len (l.take i)
    rw [List.length_take] at hlen
    rw [locs_succ hi] at hK
    generalize locs (l.take i) = out at *
    by_cases hk : l[i].has = true
    · simp (disch := omega) [F.ring_localsl0, hx, hi, encP, encS, hk]
      repeat (refine ⟨by omega, ?_⟩)
      refine ⟨[.keep [0, 2, 3, 6, 7, 8], .dr 5], ?_⟩
      simp
      exact hK _ (by simp [hk])
    · simp (disch := omega) [F.ring_localsl0, hx, hi, encP, encS, hk]
      refine ⟨[.keep [0, 2, 3, 6, 7, 8], .dr 5], ?_⟩
      simp
      exact hK _ (by simp [hk])
  · simp [F.ring_localsl0, F.ring_localsc1]
    refine RetS.plain [.keep [2], .fz 3, .wk 2] ?_
    simp [encU]

def kept (p : Plc) : Plc := if p.has = true then p else P0
set_option maxRecDepth 10000 in
theorem ring_kept (p : Plc) : ARet Pg I.ring_kept [encP p] (encP (kept p)) := by
  refine ACalls.intro T.ring_kept (by simp [F.ring_kept]) ?_
  by_cases hk : p.has = true
  · simp [F.ring_kept, argEnv, fpBx, encP, hk]
    refine RetS.plain [] ?_
    simp [kept, hk]
  · simp [F.ring_kept, argEnv, fpBx, encP, hk]
    refine RetS.plain [] ?_
    simp [kept, hk, P0, S0, encS]
set_option maxRecDepth 10000 in
theorem ring_Locals (r : Rng) : ARet Pg I.ring_Locals [encR r] (encU (locs [r.p, r.c, r.n])) := by
  refine ACalls.intro T.ring_Locals (by simp [F.ring_Locals]) ?_
  simp [F.ring_Locals, argEnv, fpBx, encR]
  refine callS.ret (ring_locals (l := [r.p, r.c, r.n]) (by simp)) (by simp) (by simp) (by simp) ?_
  simp
  refine RetS.plain [.keep [2], .dr 1] ?_
  simp

def bgn (r : Rng) (s : Ses) : Rng × List Int := if r.n.has = true then (⟨r.n, ⟨true, s⟩, P0⟩, locs [r.p, r.c]) else (⟨kept r.c, ⟨true, s⟩, P0⟩, locs [r.p])
set_option maxRecDepth 10000 in
set_option maxHeartbeats 1000000 in
theorem ring_Begin (r : Rng) (s : Ses) : ARet Pg I.ring_Begin [encR r, encS s] (.tup [encR (bgn r s).1, encU (bgn r s).2]) := by
  refine ACalls.intro T.ring_Begin (by simp [F.ring_Begin]) ?_
  by_cases hk : r.n.has = true
  · have hb : bgn r s = (⟨r.n, ⟨true, s⟩, P0⟩, locs [r.p, r.c]) := by simp [bgn, hk]
    rw [hb]
    have hn : encP r.n = .st 77 [.bl true, encS r.n.ses] := by simp [encP, hk]
    simp [F.ring_Begin, argEnv, fpBx, encR, hn]
    refine callT.ret (ring_locals (l := [r.p, r.c]) (by simp)) (by simp) (by simp) (by simp) ?_
    simp
    refine RetS.plain [] ?_
    simp [hn, encP, P0, S0, encS]
  · have hb : bgn r s = (⟨kept r.c, ⟨true, s⟩, P0⟩, locs [r.p]) := by simp [bgn, hk]
    rw [hb]
    have hn : encP r.n = .st 77 [.bl false, encS r.n.ses] := by simp [encP, hk]
    simp [F.ring_Begin, argEnv, fpBx, encR, hn]
    refine callT.ret (ring_kept r.c) (by simp) (by simp) (by simp) ?_
    simp
    refine callT.ret (ring_locals (l := [r.p]) (by simp)) (by simp) (by simp) (by simp) ?_
    simp
    refine RetS.plain [] ?_
    simp [encP, P0, S0, encS]
def ans (r : Rng) (s : Ses) : Rng × List Int := (⟨P0, r.c, ⟨true, s⟩⟩, locs [r.p, r.n])
set_option maxRecDepth 10000 in
set_option maxHeartbeats 1000000 in
theorem ring_Answer (r : Rng) (s : Ses) : ARet Pg I.ring_Answer [encR r, encS s] (.tup [encR (ans r s).1, encU (ans r s).2]) := by
  refine ACalls.intro T.ring_Answer (by simp [F.ring_Answer]) ?_
  simp [F.ring_Answer, argEnv, fpBx, encR]
  refine callT.ret (ring_locals (l := [r.p, r.n]) (by simp)) (by simp) (by simp) (by simp) ?_
  simp
  refine RetS.plain [] ?_
  simp [ans, encP, P0, S0, encS]
def cnf (r : Rng) (x : Int) : Rng × Bool × List Int := if r.n.has = true ∧ r.n.ses.loc = x then (⟨kept r.c, r.n, P0⟩, true, locs [r.p]) else (r, false, [])
set_option maxRecDepth 10000 in
set_option maxHeartbeats 1000000 in
theorem ring_Confirm (r : Rng) (x : Int) : ARet Pg I.ring_Confirm [encR r, .int .u32 x] (.tup [encR (cnf r x).1, .bl (cnf r x).2.1, encU (cnf r x).2.2]) := by
  refine ACalls.intro T.ring_Confirm (by simp [F.ring_Confirm]) ?_
  by_cases hk : r.n.has = true
  · have hn : encP r.n = .st 77 [.bl true, encS r.n.ses] := by simp [encP, hk]
    by_cases hx : r.n.ses.loc = x
    · have hb : cnf r x = (⟨kept r.c, r.n, P0⟩, true, locs [r.p]) := by simp [cnf, hk, hx]
      rw [hb]
      simp [F.ring_Confirm, argEnv, fpBx, encR, hn, encS, hx]
      refine callT.ret (ring_kept r.c) (by simp) (by simp) (by simp) ?_
      simp
      refine callT.ret (ring_locals (l := [r.p]) (by simp)) (by simp) (by simp) (by simp) ?_
      simp
      refine RetS.plain [] ?_
      simp [encP, P0, S0, encS, hk, hx]
    · have hb : cnf r x = (r, false, []) := by simp [cnf, hx]
      rw [hb]
      simp [F.ring_Confirm, argEnv, fpBx, encR, hn, encS, hx]
      refine RetS.plain [.wk 6] ?_
      simp [hn, encS, encU]
  · have hn : encP r.n = .st 77 [.bl false, encS r.n.ses] := by simp [encP, hk]
    have hb : cnf r x = (r, false, []) := by simp [cnf, hk]
    rw [hb]
    simp [F.ring_Confirm, argEnv, fpBx, encR, hn, encS]
    refine RetS.plain [.wk 6] ?_
    simp [hn, encU, encS]
end Go.Ab
