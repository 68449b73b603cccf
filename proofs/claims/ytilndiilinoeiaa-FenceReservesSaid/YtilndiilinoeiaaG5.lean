/- A made daemon is valid: burrowref24.Check, Valid. -/
import Derived.Test.YtilndiilinoeiaaG4
set_option linter.all false
namespace Go.Ab
open Go.Ab
/-- the state of a made daemon -/
structure VD (d : Dmn) : Prop where
  ru : RulOk d.rules
  n0 : 0 ≤ d.now
  n1 : d.now ≤ 16777216
  p0 : 0 ≤ d.port
  p1 : d.port ≤ 65535
  bad : d.bad = 0
  pks : PksOk d.peers
  per : ∀ p ∈ d.peers, PerOk d p
  rts : RtsOk d.routes
  rtl : d.routes.length = d.peers.length
  sls : SlsOk d
  tis : TisOk d
  s0 : 0 ≤ d.secAt
  s1 : d.secAt ≤ d.now
  rcn : d.recent = []
  buc : d.buckets = []
set_option maxRecDepth 10000 in
set_option maxHeartbeats 1000000 in
theorem Check_t {d : Dmn} (h : VD d) : ARet Pg I.burrowref24_Check [encD d] (.int .i64 0) := by
  refine ACalls.intro T.burrowref24_Check (by simp [F.burrowref24_Check]) ?_
  have hl := h.pks.1
  have hs : 0 ≤ d.rules.stage := by have := h.ru.2.2.2.2.2.2.2.2.2.2.2.2.2.2.2.1; omega
  have hpe : ∀ (i : Nat) (h : i + 1 < d.peers.length), ltK d.peers[i].pub d.peers[i + 1].pub = true := by
    intro i hi
    rw [h.pks.2 i (by omega), h.pks.2 (i + 1) hi]
    exact kOf_lt (by omega) (by omega)
  have hb := h.bad
  simp [F.burrowref24_Check, argEnv, fpBx]
  refine callS.ret (ValidRules_t h.ru) (by simp) (by simp) (by simp) ?_
  simp
  refine callS.ret (within_t (n := d.now) (a := 0) (b := 1099511627776) h.n0 (by have := h.n1; omega)) (by simp) (by simp) (by simp) ?_
  simp
  refine callS.ret (within_t (n := d.port) (a := 0) (b := 65535) h.p0 h.p1) (by simp) (by simp) (by simp) ?_
  simp [hb]
  refine callS.ret (within_t (n := 0) (a := 0) (b := 1099511627776) (by omega) (by omega)) (by simp) (by simp) (by simp) ?_
  simp
  refine callS.ret (peers_t (d := d) (by omega) hpe) (by simp) (by simp) (by simp) ?_
  simp
  refine callS.ret (each_t (d := d) (k := 3) (by omega) (by omega) h.per h.n0 hs) (by simp) (by simp) (by simp) ?_
  simp
  refine callS.ret (each_t (d := d) (k := 4) (by omega) (by omega) h.per h.n0 hs) (by simp) (by simp) (by simp) ?_
  simp
  refine callS.ret (each_t (d := d) (k := 5) (by omega) (by omega) h.per h.n0 hs) (by simp) (by simp) (by simp) ?_
  simp
  refine callS.ret (routes_t (d := d) h.rts h.pks h.rtl) (by simp) (by simp) (by simp) ?_
  simp
  refine callS.ret (slots_t (d := d) h.sls h.pks h.per) (by simp) (by simp) (by simp) ?_
  simp
  refine callS.ret (timers_t (d := d) h.tis h.n0 h.pks h.per) (by simp) (by simp) (by simp) ?_
  simp
  refine callS.ret (load_t (d := d) h.s0 h.s1 h.rcn h.buc) (by simp) (by simp) (by simp) ?_
  simp
  refine RetS.plain [] ?_
  simp
theorem Valid_t {d : Dmn} (h : VD d) : ARet Pg I.burrowref24_Valid [encD d] (.bl true) := by
  refine ACalls.intro T.burrowref24_Valid (by simp [F.burrowref24_Valid]) ?_
  simp [F.burrowref24_Valid, argEnv, fpBx]
  refine callS.ret (Check_t h) (by simp) (by simp) (by simp) ?_
  simp
  refine RetS.plain [] ?_
  simp
end Go.Ab
