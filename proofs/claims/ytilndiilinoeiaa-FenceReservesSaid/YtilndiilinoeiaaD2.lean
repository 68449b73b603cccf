/- Copies of a daemon: own.Daemon of the program. Conditions: lengths up to 2^20. -/
import Derived.Test.YtilndiilinoeiaaD1
set_option linter.all false
namespace Go.Ab
open Go.Ab

/-- lengths that no append outgrows -/
structure Sml (d : Dmn) : Prop where
  peers : d.peers.length ≤ 1048576
  routes : d.routes.length ≤ 1048576
  slots : d.slots.length ≤ 1048576
  timers : d.timers.length ≤ 1048576
  recent : d.recent.length ≤ 1048576
  buckets : d.buckets.length ≤ 1048576
  staged : ∀ p ∈ d.peers, p.staged.length ≤ 1048576 ∧ ∀ b ∈ p.staged, b.length ≤ 1048576

theorem clone_ret {f : FuncId} {sz bytes : Nat} {z : PV} (ht : trFun Pg [] [] f = some (cloneFun sz bytes z).er) (hsz : 0 < sz) {l : List PV} (hr : PureL l) (h : l.length ≤ 1048576) (hb : bytes ≤ 100000) : ARet Pg f [.sl sz l false] (.sl sz l false) :=
  (show AOwn Pg f [.sl sz l false] sz l from clone_own ht hsz hr false (Nat.le_trans (Nat.mul_le_mul h hb) (by decide)) (by omega)).frz hr
theorem clone_own' {f : FuncId} {sz bytes : Nat} {z : PV} (ht : trFun Pg [] [] f = some (cloneFun sz bytes z).er) (hsz : 0 < sz) {l : List PV} (hr : PureL l) (h : l.length ≤ 1048576) (hb : bytes ≤ 100000) : AOwn Pg f [.sl sz l false] sz l :=
  clone_own ht hsz hr false (Nat.le_trans (Nat.mul_le_mul h hb) (by decide)) (by omega)
theorem pureL_i64 (l : List Int) : PureL (l.map fun n => PV.int .i64 n) := pureL_map (fun _ => by simp) l

theorem cl_bytes {b : List UInt8} (h : b.length ≤ 1048576) : ARet Pg I.slices_Clone_byte_byte_71 [encB b] (encB b) :=
  clone_ret (bytes := 1) T.slices_Clone_byte_byte_71 (by omega) (by simp) (by simpa using h) (by omega)
theorem cl_routes {l : List Rte} (h : l.length ≤ 1048576) : ARet Pg I.slices_Clone_api_Route_api_Route [encRts l] (encRts l) :=
  clone_ret (bytes := 64) T.slices_Clone_api_Route_api_Route (by omega) (by simp) (by simpa using h) (by omega)
theorem cl_slots {l : List Slt} (h : l.length ≤ 1048576) : ARet Pg I.slices_Clone_api_Slot_api_Slot [encSls l] (encSls l) :=
  clone_ret (bytes := 40) T.slices_Clone_api_Slot_api_Slot (by omega) (by simp) (by simpa using h) (by omega)
theorem cl_timers {l : List Tmr} (h : l.length ≤ 1048576) : ARet Pg I.slices_Clone_api_Timer_api_Timer [encTs l] (encTs l) :=
  clone_ret (bytes := 48) T.slices_Clone_api_Timer_api_Timer (by omega) (by simp) (by simpa using h) (by omega)
theorem cl_ints {l : List Int} (h : l.length ≤ 1048576) : ARet Pg I.slices_Clone_int64_int64 [encIs l] (encIs l) :=
  clone_ret (bytes := 8) T.slices_Clone_int64_int64 (by omega) (pureL_i64 l) (by simpa using h) (by omega)
theorem cl_buckets {l : List Bkt} (h : l.length ≤ 1048576) : ARet Pg I.slices_Clone_api_Bucket_api_Bucket [encBks l] (encBks l) :=
  clone_ret (bytes := 40) T.slices_Clone_api_Bucket_api_Bucket (by omega) (by simp) (by simpa using h) (by omega)
theorem cl_peers {l : List Per} (h : l.length ≤ 1048576) : AOwn Pg I.slices_Clone_api_Peer_api_Peer [encPes l] 464 (l.map encPe) :=
  clone_own' (bytes := 808) T.slices_Clone_api_Peer_api_Peer (by omega) (by simp) (by simpa using h) (by omega)
theorem cl_staged {l : List (List UInt8)} (h : l.length ≤ 1048576) : AOwn Pg I.slices_Clone_byte_byte [encBs l] 1 (l.map encB) :=
  clone_own' (bytes := 24) T.slices_Clone_byte_byte (by omega) (by simp) (by simpa using h) (by omega)

theorem map_set_self {α β : Type} (f : α → β) (l : List α) (i : Nat) (h : i < l.length) : (l.map f).set i (f l[i]) = l.map f := by
  rw [← List.map_set, List.set_getElem_self]
set_option maxRecDepth 10000 in
theorem own_Bytes {l : List (List UInt8)} (h : l.length ≤ 1048576) (hb : ∀ b ∈ l, b.length ≤ 1048576) : ARet Pg I.own_Bytes [encBs l] (encBs l) := by
  refine ACalls.intro T.own_Bytes (by simp [F.own_Bytes]) ?_
  simp [F.own_Bytes, argEnv, fpBx]
  refine callS.own 7 (cl_staged h) (by simp) (by simp) (by simp) (by simp) ?_
  simp
  refine LpS.rng l.length (fun _ => True) [3, 8, 9, 10] (fun i => [(10, .int .i64 i)]) (fun i => []) [.keep [3, 8, 9, 10]] ?_
  simp
  refine ⟨fun i hi K hK => ?_, fun K => ?_⟩
  · have hx : l[i]? = some l[i] := List.getElem?_eq_getElem hi
    simp [F.own_Bytesl0, hx, hi]
    refine callS.ret (cl_bytes (hb _ (List.getElem_mem hi))) (by simp) (by simp) (by simp) ?_
    simp (disch := omega) [hx, hi]
    refine ⟨[.keep [3, 8, 9, 10]], ?_⟩
    simp
    exact hK _ (by simp [map_set_self])
  · simp [F.own_Bytesl0, F.own_Bytesc1]
    refine RetS.plain [.keep [2], .fz 7, .wk 2] ?_
    simp [encBs]

set_option maxRecDepth 10000 in
set_option maxHeartbeats 1000000 in
theorem own_Daemon {d : Dmn} (h : Sml d) : ACalls Pg I.own_Daemon [encD d] [] (fun r fp => r = encDo d (.rs KB [] 0 d.peers.length d.peers.length 464 .tip) ∧ fp = [.arr 464 (d.peers.map encPe)]) := by
  refine ACalls.intro T.own_Daemon (by simp [F.own_Daemon]) ?_
  simp [F.own_Daemon, argEnv, fpBx, encD]
  refine callS.own 6 (cl_peers h.peers) (by simp) (by simp) (by simp) (by simp) ?_
  simp
  refine LpS.rng d.peers.length (fun _ => True) [1, 2, 10, 11] (fun i => [(11, .int .i64 i)]) (fun i => []) [.keep [1, 2, 10, 11]] ?_
  simp
  refine ⟨fun i hi K hK => ?_, fun K => ?_⟩
  · have hx : d.peers[i]? = some d.peers[i] := List.getElem?_eq_getElem hi
    have hs := h.staged _ (List.getElem_mem hi)
    have hl := h.peers
    simp [F.own_Daemonl0, hx, hi]
    refine callT.ret (own_Bytes hs.1 hs.2) (by simp) (by simp) (by simp) ?_
    simp (disch := omega) [hx, hi]
    refine ⟨[.keep [1, 2, 10, 11]], ?_⟩
    simp
    exact hK _ (by simp; exact map_set_self encPe _ i hi)
  · simp [F.own_Daemonl0, F.own_Daemonc1]
    refine callT.ret (cl_routes h.routes) (by simp) (by simp) (by simp) ?_
    simp
    refine callT.ret (cl_slots h.slots) (by simp) (by simp) (by simp) ?_
    simp
    refine callT.ret (cl_timers h.timers) (by simp) (by simp) (by simp) ?_
    simp
    refine callT.ret (cl_ints h.recent) (by simp) (by simp) (by simp) ?_
    simp
    refine callT.ret (cl_buckets h.buckets) (by simp) (by simp) (by simp) ?_
    simp
    refine RetS.with [.keep [2], .dr 1] [6] ?_
    simp
end Go.Ab
