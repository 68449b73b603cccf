/- Copies, sessions, reservations, the reference of rings, codes. No condition. -/
import Derived.Test.YtdfkcobijmbidaaGreatB1
import Derived.Test.YtdfkcobijmbidaaGreatA5
set_option linter.all false
namespace Go.Ab
open Go.Ab
structure Sml (d : Dmn) : Prop where
  peers : d.peers.length ≤ 1048576
  routes : d.routes.length ≤ 1048576
  slots : d.slots.length ≤ 1048576
  timers : d.timers.length ≤ 1048576
  recent : d.recent.length ≤ 1048576
  buckets : d.buckets.length ≤ 1048576
  staged : ∀ p ∈ d.peers, p.staged.length ≤ 1048576 ∧ ∀ b ∈ p.staged, b.length ≤ 1048576
theorem clone_ret {f : FuncId} {sz bytes : Nat} {z : PV} (ht : trFun Pg [] [] f = some (cloneFun sz bytes z).er) (hsz : 0 < sz) {l : List PV} (hr : PureL l) (h : l.length ≤ 1048576) (hb : bytes ≤ 100000) : ARet Pg f [.sl sz l false] (.sl sz l false) :=
  (show AOwn Pg f [.sl sz l false] sz l from clone_own ht hsz hr false (Nat.le_trans (Nat.mul_le_mul h hb) (by decide)) (by omega)).frz hr
theorem clone_own' {f : FuncId} {sz bytes : Nat} {z : PV} (ht : trFun Pg [] [] f = some (cloneFun sz bytes z).er) (hsz : 0 < sz) {l : List PV} (hr : PureL l) (h : l.length ≤ 1048576) (hb : bytes ≤ 100000) : AOwn Pg f [.sl sz l false] sz l :=
  clone_own ht hsz hr false (Nat.le_trans (Nat.mul_le_mul h hb) (by decide)) (by omega)
theorem pureL_i64 (l : List Int) : PureL (l.map fun n => PV.int .i64 n) := pureL_map (fun _ => by simp) l
theorem cl_bytes {b : List UInt8} (h : b.length ≤ 1048576) : ARet Pg I.slices_Clone_byte_byte [encB b] (encB b) :=
  clone_ret (bytes := 1) T.slices_Clone_byte_byte (by omega) (by simp) (by simpa using h) (by omega)
theorem cl_routes {l : List Rte} (h : l.length ≤ 1048576) : ARet Pg I.slices_Clone_api_Route_api_Route [encRts l] (encRts l) :=
  clone_ret (bytes := 64) T.slices_Clone_api_Route_api_Route (by omega) (by simp) (by simpa using h) (by omega)
theorem cl_slots {l : List Slt} (h : l.length ≤ 1048576) : ARet Pg I.slices_Clone_api_Slot_api_Slot [encSls l] (encSls l) :=
  clone_ret (bytes := 40) T.slices_Clone_api_Slot_api_Slot (by omega) (by simp) (by simpa using h) (by omega)
theorem cl_timers {l : List Tmr} (h : l.length ≤ 1048576) : ARet Pg I.slices_Clone_api_Timer_api_Timer [encTs l] (encTs l) :=
  clone_ret (bytes := 48) T.slices_Clone_api_Timer_api_Timer (by omega) (by simp) (by simpa using h) (by omega)
theorem cl_ints {l : List Int} (h : l.length ≤ 1048576) : ARet Pg I.slices_Clone_int64_int64 [encIs l] (encIs l) :=
  clone_ret (bytes := 8) T.slices_Clone_int64_int64 (by omega) (pureL_i64 l) (by simpa using h) (by omega)
theorem cl_buckets {l : List Bkt} (h : l.length ≤ 1048576) : ARet Pg I.slices_Clone_api_Bucket_api_Bucket [encBks l] (encBks l) :=
  clone_ret (bytes := 40) T.slices_Clone_api_Bucket_api_Bucket (by omega) (by simp) (by simpa using h) (by omega)
theorem cl_peers {l : List Per} (h : l.length ≤ 1048576) : AOwn Pg I.slices_Clone_api_Peer_api_Peer [encPes l] 464 (l.map encPe) :=
  clone_own' (bytes := 808) T.slices_Clone_api_Peer_api_Peer (by omega) (by simp) (by simpa using h) (by omega)
theorem cl_staged {l : List (List UInt8)} (h : l.length ≤ 1048576) : AOwn Pg I.slices_Clone_byte_byte_3 [encBs l] 1 (l.map encB) :=
  clone_own' (bytes := 24) T.slices_Clone_byte_byte_3 (by omega) (by simp) (by simpa using h) (by omega)
theorem map_set_self {α β : Type} (f : α → β) (l : List α) (i : Nat) (h : i < l.length) : (l.map f).set i (f l[i]) = l.map f := by
  rw [← List.map_set, List.set_getElem_self]
set_option maxRecDepth 10000 in
theorem own_Bytes {l : List (List UInt8)} (h : l.length ≤ 1048576) (hb : ∀ b ∈ l, b.length ≤ 1048576) : ARet Pg I.own_Bytes [encBs l] (encBs l) := by
  refine ACalls.intro T.own_Bytes (by simp [F.own_Bytes]) ?_
  simp [F.own_Bytes, argEnv, fpBx]
  refine callS.own 7 (cl_staged h) (by simp) (by simp) (by simp) (by simp) ?_
  simp
  refine LpS.rng l.length (fun _ => True) [3, 8, 9, 10] (fun i => [(10, .int .i64 i)]) (fun i => []) [.keep [3, 8, 9, 10]] ?_
  simp
  refine ⟨fun i hi K hK => ?_, fun K => ?_⟩
  · have hx : l[i]? = some l[i] := List.getElem?_eq_getElem hi
    simp [↓aw_lk, hx, hi]
    refine callS.ret (cl_bytes (hb _ (List.getElem_mem hi))) (by simp) (by simp) (by simp) ?_
    simp (disch := omega) [hx, hi]
    refine ⟨[.keep [3, 8, 9, 10]], ?_⟩
    simp
    exact hK _ (by simp [map_set_self])
  · simp [↓aw_lk, ↓aw_lk]
    refine RetS.plain [.keep [2], .fz 7, .wk 2] ?_
    simp [encBs]
set_option maxRecDepth 10000 in
set_option maxHeartbeats 1000000 in
theorem own_Daemon {d : Dmn} (h : Sml d) : ACalls Pg I.own_Daemon [encD d] [] (fun r fp => r = encDo d (.rs KB [] 0 d.peers.length d.peers.length 464 .tip) ∧ fp = [.arr 464 (d.peers.map encPe)]) := by
  refine ACalls.intro T.own_Daemon (by simp [F.own_Daemon]) ?_
  simp [F.own_Daemon, argEnv, fpBx, encD]
  refine callS.own 6 (cl_peers h.peers) (by simp) (by simp) (by simp) (by simp) ?_
  simp
  refine LpS.rng d.peers.length (fun _ => True) [1, 2, 10, 11] (fun i => [(11, .int .i64 i)]) (fun i => []) [.keep [1, 2, 10, 11]] ?_
  simp
  refine ⟨fun i hi K hK => ?_, fun K => ?_⟩
  · have hx : d.peers[i]? = some d.peers[i] := List.getElem?_eq_getElem hi
    have hs := h.staged _ (List.getElem_mem hi)
    have hl := h.peers
    simp [↓aw_lk, hx, hi]
    refine callT.ret (own_Bytes hs.1 hs.2) (by simp) (by simp) (by simp) ?_
    simp (disch := omega) [hx, hi]
    refine ⟨[.keep [1, 2, 10, 11]], ?_⟩
    simp
    exact hK _ (by simp; exact map_set_self encPe _ i hi)
  · simp [↓aw_lk, ↓aw_lk]
    refine callT.ret (cl_routes h.routes) (by simp) (by simp) (by simp) ?_
    simp
    refine callT.ret (cl_slots h.slots) (by simp) (by simp) (by simp) ?_
    simp
    refine callT.ret (cl_timers h.timers) (by simp) (by simp) (by simp) ?_
    simp
    refine callT.ret (cl_ints h.recent) (by simp) (by simp) (by simp) ?_
    simp
    refine callT.ret (cl_buckets h.buckets) (by simp) (by simp) (by simp) ?_
    simp
    refine RetS.with [.keep [2], .dr 1] [6] ?_
    simp
end Go.Ab
noncomputable section D3s
namespace Go.Ab
open Go.Ab
def pl (φ : Ses → Ses) (q : Plc) : Plc := if q.has = true then ⟨true, φ q.ses⟩ else q
def pk (φ : Ses → Ses) (k : Nat) (p : Per) : Per := { p with ring := ⟨if 0 < k then pl φ p.ring.p else p.ring.p, if 1 < k then pl φ p.ring.c else p.ring.c, if 2 < k then pl φ p.ring.n else p.ring.n⟩ }
def lik (φ : Ses → Ses) (l : List Per) (i k : Nat) : List Per := l.mapIdx fun j p => if j < i then pk φ 3 p else if j = i then pk φ k p else p
@[simp] theorem lik_length (φ : Ses → Ses) (l : List Per) (i k : Nat) : (lik φ l i k).length = l.length := by simp [lik]
theorem lik_get {φ : Ses → Ses} {l : List Per} {i k : Nat} (h : i < l.length) : (lik φ l i k)[i]? = some (pk φ k l[i]) := by
  simp [lik, List.getElem?_mapIdx, h]
theorem lik_set {φ : Ses → Ses} {l : List Per} {i k m : Nat} (h : i < l.length) : (lik φ l i k).set i (pk φ m l[i]) = lik φ l i m := by
  apply List.ext_getElem
  · simp
  · intro j h1 h2
    simp only [lik, List.getElem_set, List.getElem_mapIdx]
    by_cases e : i = j
    · subst e; simp
    · simp [e, Ne.symm e]
theorem lik_next {φ : Ses → Ses} {l : List Per} {i : Nat} : lik φ l i 3 = lik φ l (i + 1) 0 := by
  apply List.ext_getElem
  · simp
  · intro j h1 h2
    simp only [lik, List.getElem_mapIdx]
    by_cases e1 : j < i
    · rw [if_pos e1, if_pos (by omega)]
    · rw [if_neg e1]
      by_cases e2 : j = i
      · rw [if_pos e2, if_pos (by omega)]
      · rw [if_neg e2, if_neg (by omega)]
        split
        · simp [pk]
        · rfl
theorem lik_zero {φ : Ses → Ses} {l : List Per} : lik φ l 0 0 = l := by
  apply List.ext_getElem
  · simp
  · intro j h1 h2
    simp only [lik, List.getElem_mapIdx]
    rw [if_neg (by omega)]
    split
    · simp [pk]
    · rfl
theorem lik_end {φ : Ses → Ses} {l : List Per} : lik φ l l.length 0 = l.map (pk φ 3) := by
  apply List.ext_getElem
  · simp
  · intro j h1 h2
    simp only [lik, List.getElem_mapIdx, List.getElem_map]
    rw [if_pos (by simpa using h2)]
theorem lik_skip {φ : Ses → Ses} {l : List Per} {i k m : Nat} (h : i < l.length) (e : pk φ k l[i] = pk φ m l[i]) : lik φ l i k = lik φ l i m := by
  apply List.ext_getElem
  · simp
  · intro j h1 h2
    simp only [lik, List.getElem_mapIdx]
    split
    · rfl
    · split
      · subst_vars; exact e
      · rfl
theorem fence_sessions {d : Dmn} {l : List Per} (b : Blk) (hb : b = .box (encDo d (.rs (KB + 1) [] 0 l.length l.length 464 .tip))) : ACalls Pg I.fence_sessions [.pt KB [] 0] [b, .arr 464 (l.map encPe)]
    (fun r fp => r = .fn (.func I.fence_sessions_1) [] [.pt (KB + 2) [] 0] ∧ fp = [b, .arr 464 (l.map encPe), .box (.pt KB [] 0)]) := by
  subst hb
  refine ACalls.intro T.fence_sessions (by simp [F.fence_sessions]) ?_
  simp [F.fence_sessions, argEnv, fpBx]
  refine RetS.with [] [KB, KB + 1, 1] ?_
  simp [refsOk, refsOkL, ren, renL]
def sesY5 (φ : Ses → Ses) (d : Dmn) (e1 e2 : PV) (l : List Per) : List PV → List Blk → (List Blk → Prop) → Prop := fun args fp R =>
  ∃ (i : Nat) (_ : i < l.length) (k : Nat) (q : Plc), (k = 0 ∧ q = l[i].ring.p ∨ k = 1 ∧ q = l[i].ring.c ∨ k = 2 ∧ q = l[i].ring.n) ∧ q.has = true ∧ args = [.pt (KB + 2) [.i i 464, .f 13 232, .f k (77 * k), .f 1 1] l.length] ∧
    fp = [.box (.pt (KB + 1) [] 0), .box (encDo d (.rs (KB + 2) [] 0 l.length l.length 464 .tip)), .arr 464 ((lik φ l i k).map encPe), .box e1, .box e2] ∧ R = fun fp' => fp' = [.box (.pt (KB + 1) [] 0), .box (encDo d (.rs (KB + 2) [] 0 l.length l.length 464 .tip)), .arr 464 ((lik φ l i (k + 1)).map encPe), .box e1, .box e2]
set_option maxRecDepth 10000 in
set_option maxHeartbeats 4000000 in
theorem fence_sessions_1 (φ : Ses → Ses) {d : Dmn} {l : List Per} (hl : l.length ≤ 1048576) (e1 e2 : PV) (h1 : Pure e1) (h2 : Pure e2) :
    AIter Pg I.fence_sessions_1 [.pt KB [] 0] [.box (.pt (KB + 1) [] 0), .box (encDo d (.rs (KB + 2) [] 0 l.length l.length 464 .tip)), .arr 464 (l.map encPe), .box e1, .box e2] (sesY5 φ d e1 e2 l) fun fp => fp = [.box (.pt (KB + 1) [] 0), .box (encDo d (.rs (KB + 2) [] 0 l.length l.length 464 .tip)), .arr 464 ((l.map (pk φ 3)).map encPe), .box e1, .box e2] := by
  refine AIter.introI T.fence_sessions_1 (by simp [F.fence_sessions_1]) fun y I hI => ?_
  have hI5 : I = ofY 5 y (sesY5 φ d e1 e2 l) := hI
  simp [F.fence_sessions_1, argEnv, fpBx]
  refine LpS.rng l.length (fun _ => True) [0, 1, 11, 12] (fun i => [(12, .int .i64 i)]) (fun i => [(KB + 2, .arr 464 ((lik φ l i 0).map encPe))]) [.keep [0, 1, 11, 12]] ?_
  simp [lik_zero]
  refine ⟨fun i hi K hK => ?_, fun K => ?_⟩
  · have hg := fun m => lik_get (φ := φ) (k := m) hi
    simp [↓aw_lk, hi, show PV.np.width = 1 from rfl]
    refine LpS.rng 3 (fun _ => True) [0, 1, 11, 12, 31, 32, 33] (fun k => [(33, .int .i64 k)]) (fun k => [(KB + 2, .arr 464 ((lik φ l i k).map encPe))]) [] ?_
    simp
    refine ⟨fun k hk K2 hK2 => ?_, fun K2 => ?_⟩
    · rcases (by omega : k = 0 ∨ k = 1 ∨ k = 2) with rfl | rfl | rfl
      · by_cases hh : l[i].ring.p.has = true
        · simp (disch := omega) [↓aw_lk, hi, hg, pk, hh]
          refine yS.eqI hI5 [.box (.pt (KB + 1) [] 0), .box (encDo d (.rs (KB + 2) [] 0 l.length l.length 464 .tip)), .arr 464 ((lik φ l i 0).map encPe), .box e1, .box e2] [.box (.pt (KB + 1) [] 0), .box (encDo d (.rs (KB + 2) [] 0 l.length l.length 464 .tip)), .arr 464 ((lik φ l i 1).map encPe), .box e1, .box e2] rfl ?_ ?_ ?_ ?_ ?_ ?_
          · simp [getAll]
          · simp [refsOkL, refsOk, inFp]
          · simp [refsOkB, refsOk, inFp, h1.refs, h2.refs]
          · exact ⟨i, hi, 0, l[i].ring.p, by simp, hh, by simp, rfl, rfl⟩
          · simp [refsOkB, refsOk, inFp, h1.refs, h2.refs]
          · simp [putAll, ↓aw_lk]
            refine ⟨[.keep [0, 1, 11, 12, 31, 32, 33]], ?_⟩
            simp
            exact hK2 _ (by simp)
        · simp (disch := omega) [↓aw_lk, hi, hg, pk, hh]
          refine ⟨[.keep [0, 1, 11, 12, 31, 32, 33]], ?_⟩
          simp
          rw [lik_skip (k := 1) (m := 0) hi (by simp [pk, pl, hh])] at hK2
          exact hK2 _ (by simp)
      · by_cases hh : l[i].ring.c.has = true
        · simp (disch := omega) [↓aw_lk, hi, hg, pk, hh]
          refine yS.eqI hI5 [.box (.pt (KB + 1) [] 0), .box (encDo d (.rs (KB + 2) [] 0 l.length l.length 464 .tip)), .arr 464 ((lik φ l i 1).map encPe), .box e1, .box e2] [.box (.pt (KB + 1) [] 0), .box (encDo d (.rs (KB + 2) [] 0 l.length l.length 464 .tip)), .arr 464 ((lik φ l i 2).map encPe), .box e1, .box e2] rfl ?_ ?_ ?_ ?_ ?_ ?_
          · simp [getAll]
          · simp [refsOkL, refsOk, inFp]
          · simp [refsOkB, refsOk, inFp, h1.refs, h2.refs]
          · exact ⟨i, hi, 1, l[i].ring.c, by simp, hh, by simp, rfl, rfl⟩
          · simp [refsOkB, refsOk, inFp, h1.refs, h2.refs]
          · simp [putAll, ↓aw_lk]
            refine ⟨[.keep [0, 1, 11, 12, 31, 32, 33]], ?_⟩
            simp
            exact hK2 _ (by simp)
        · simp (disch := omega) [↓aw_lk, hi, hg, pk, hh]
          refine ⟨[.keep [0, 1, 11, 12, 31, 32, 33]], ?_⟩
          simp
          rw [lik_skip (k := 2) (m := 1) hi (by simp [pk, pl, hh])] at hK2
          exact hK2 _ (by simp)
      · by_cases hh : l[i].ring.n.has = true
        · simp (disch := omega) [↓aw_lk, hi, hg, pk, hh]
          refine yS.eqI hI5 [.box (.pt (KB + 1) [] 0), .box (encDo d (.rs (KB + 2) [] 0 l.length l.length 464 .tip)), .arr 464 ((lik φ l i 2).map encPe), .box e1, .box e2] [.box (.pt (KB + 1) [] 0), .box (encDo d (.rs (KB + 2) [] 0 l.length l.length 464 .tip)), .arr 464 ((lik φ l i 3).map encPe), .box e1, .box e2] rfl ?_ ?_ ?_ ?_ ?_ ?_
          · simp [getAll]
          · simp [refsOkL, refsOk, inFp]
          · simp [refsOkB, refsOk, inFp, h1.refs, h2.refs]
          · exact ⟨i, hi, 2, l[i].ring.n, by simp, hh, by simp, rfl, rfl⟩
          · simp [refsOkB, refsOk, inFp, h1.refs, h2.refs]
          · simp [putAll, ↓aw_lk]
            refine ⟨[.keep [0, 1, 11, 12, 31, 32, 33]], ?_⟩
            simp
            exact hK2 _ (by simp)
        · simp (disch := omega) [↓aw_lk, hi, hg, pk, hh]
          refine ⟨[.keep [0, 1, 11, 12, 31, 32, 33]], ?_⟩
          simp
          rw [lik_skip (k := 3) (m := 2) hi (by simp [pk, pl, hh])] at hK2
          exact hK2 _ (by simp)
    · simp (disch := omega) [↓aw_lk, ↓aw_lk]
      refine ⟨[.keep [0, 1, 11, 12]], ?_⟩
      simp
      rw [← lik_next] at hK
      exact hK _ (by simp)
  · simp [↓aw_lk, ↓aw_lk]
    refine RetS.with [] [KB, KB + 1, KB + 2, KB + 3, KB + 4] ?_
    simp [lik_end, tupOf, refsOk, refsOkL, h1.refs, h2.refs, h1.ren, h2.ren]
end Go.Ab
end D3s
noncomputable section D4s
namespace Go.Ab
open Go.Ab
def edge (next reserve rej : Int) : Int := max next (min (if next + reserve ≤ 18446744073709551615 then next + reserve else 18446744073709551615) rej)
def U64 (n : Int) : Prop := 0 ≤ n ∧ n ≤ 18446744073709551615
theorem fence_Edge {s : Ses} {r : Rul} {n : Int} (hs : U64 s.next) (hn : U64 n) : ARet Pg I.fence_Edge [encS s, encRu r, .int .u64 n] (.int .u64 (edge s.next n r.rejm)) := by
  obtain ⟨h1, h2⟩ := hs
  obtain ⟨h3, h4⟩ := hn
  refine ACalls.intro T.fence_Edge (by simp [F.fence_Edge]) ?_
  by_cases hc : s.next + n ≤ 18446744073709551615
  · simp (disch := omega) [F.fence_Edge, argEnv, fpBx, show n ≤ 18446744073709551615 - s.next by omega]
    refine RetS.plain [] ?_
    simp [edge, hc]
  · simp (disch := omega) [F.fence_Edge, argEnv, fpBx, show ¬ n ≤ 18446744073709551615 - s.next by omega]
    refine RetS.plain [] ?_
    simp [edge, hc]
def RngOk (r : Rng) : Prop := U64 r.p.ses.next ∧ U64 r.c.ses.next ∧ U64 r.n.ses.next
structure Nice (d : Dmn) : Prop extends Sml d where
  ring : ∀ p ∈ d.peers, RngOk p.ring
def low (res rej : Int) (s : Ses) : Ses := { s with fence := edge s.next res rej }
def rise (res rej : Int) (s : Ses) : Ses := { s with next := edge s.next res rej, fence := rej }
def all_ (φ : Ses → Ses) (d : Dmn) : Dmn := { d with peers := d.peers.map (pk φ 3) }
theorem set_step {φ : Ses → Ses} {l : List Per} {i k m : Nat} (h : i < l.length) {x : Per} (hx : x = pk φ m l[i]) : ((lik φ l i k).map encPe).set i (encPe x) = (lik φ l i m).map encPe := by
  rw [← List.map_set, hx, lik_set h]
theorem encD_all (φ : Ses → Ses) (d : Dmn) : encD (all_ φ d) = encDo d (.sl 464 ((d.peers.map (pk φ 3)).map encPe) false) := rfl
set_option maxRecDepth 10000 in
set_option maxHeartbeats 4000000 in
theorem fence_Reserve {d : Dmn} (h : Nice d) {n : Int} (hn : U64 n) : ARet Pg I.fence_Reserve [encD d, .int .u64 n] (.tup [encD (all_ (low n d.rules.rejm) d), encD (all_ (rise n d.rules.rejm) d)]) := by
  refine ACalls.intro T.fence_Reserve (by simp [F.fence_Reserve]) ?_
  simp [F.fence_Reserve, argEnv, fpBx]
  refine DrS.run [6, 7, 11, 13] rfl ?_
  simp
  refine callS.gen [] [11] [] (own_Daemon h.toSml) (by simp [getAll]) (by simp) (by simp) (by simp [refsOkL, refsOk, inKs, idx]) (by simp [refsOkB, refsOk, inKs, idx]) (by simp [renL, ren, ren1, idx]) (by simp [renB, ren, ren1, idx]) (by simp [refsOkB, refsOkL, refsOk, inFp]) ?_
  simp [putAll, renB, ren, renL, ren2]
  refine callS.gen [] [13] [] (own_Daemon h.toSml) (by simp [getAll]) (by simp) (by simp) (by simp [refsOkL, refsOk, inKs, idx]) (by simp [refsOkB, refsOk, inKs, idx]) (by simp [renL, ren, ren1, idx]) (by simp [renB, ren, ren1, idx]) (by simp [refsOkB, refsOkL, refsOk, inFp]) ?_
  simp [putAll, renB, ren, renL, ren2]
  refine callS.gen [6, 11] [14] [.box (encDo d (.rs 11 [] 0 d.peers.length d.peers.length 464 .tip)), .arr 464 (d.peers.map encPe)] (fence_sessions (d := d) (l := d.peers) _ rfl) (by simp [getAll]) (by simp) (by simp) (by simp [refsOkL, refsOk, inKs, idx]) (by simp [refsOkB, refsOk, inKs, idx]) (by simp [renL, ren, ren1, idx]) (by simp [renB, ren, ren1, idx]) (by simp [refsOkB, refsOkL, refsOk, inFp]) ?_
  simp [putAll, renB, ren, renL, ren2]
  refine RgS.of [14, 6, 11, 2, 3] [.box (.pt 6 [] 0), .box (encDo d (.rs 11 [] 0 d.peers.length d.peers.length 464 .tip)), .arr 464 (d.peers.map encPe), .box (encD d), .box (.int .u64 n)] (by simp [getAll]) (by simp) (by simp [refsOkL, refsOk, inKs, idx]) (by simp [refsOkB, refsOk, inKs, idx]) (by simp [renL, ren, ren1, idx]) (by simp [renB, ren, ren1, idx]) (fence_sessions_1 (low n d.rules.rejm) (d := d) h.peers (encD d) (.int .u64 n) (by simp) (by simp)) ?_ (by simp [refsOkB, refsOkL, refsOk, inFp]) ?_
  · rintro args fp R1 ⟨i, hi, k, q, hq, hh, rfl, rfl, rfl⟩
    have hg := fun m => lik_get (φ := low n d.rules.rejm) (k := m) hi
    have hrg := h.ring _ (List.getElem_mem hi)
    rcases hq with ⟨rfl, rfl⟩ | ⟨rfl, rfl⟩ | ⟨rfl, rfl⟩
    · simp [roundSt, renEnv, putsL, refsOk, inKs, idx, ren, ren1, fpBx, ↓aw_lk, hg, pk]
      refine callT.ret (fence_Edge (r := d.rules) hrg.1 hn) (by simp) (by simp) (by simp) ?_
      simp [hg, pk]
      refine RndS.of [.keep []] ?_
      simp [getAll, refsOkB, refsOk, inFp]
      exact set_step hi (by simp [pk, pl, hh, low])
    · simp [roundSt, renEnv, putsL, refsOk, inKs, idx, ren, ren1, fpBx, ↓aw_lk, hg, pk]
      refine callT.ret (fence_Edge (r := d.rules) hrg.2.1 hn) (by simp) (by simp) (by simp) ?_
      simp [hg, pk]
      refine RndS.of [.keep []] ?_
      simp [getAll, refsOkB, refsOk, inFp]
      exact set_step hi (by simp [pk, pl, hh, low])
    · simp [roundSt, renEnv, putsL, refsOk, inKs, idx, ren, ren1, fpBx, ↓aw_lk, hg, pk]
      refine callT.ret (fence_Edge (r := d.rules) hrg.2.2 hn) (by simp) (by simp) (by simp) ?_
      simp [hg, pk]
      refine RndS.of [.keep []] ?_
      simp [getAll, refsOkB, refsOk, inFp]
      exact set_step hi (by simp [pk, pl, hh, low])
  · simp [putAll, renB, ren, ren2, ↓aw_lk]
    refine callS.gen [7, 13] [26] [.box (encDo d (.rs 13 [] 0 d.peers.length d.peers.length 464 .tip)), .arr 464 (d.peers.map encPe)] (fence_sessions (d := d) (l := d.peers) _ rfl) (by simp [getAll]) (by simp) (by simp) (by simp [refsOkL, refsOk, inKs, idx]) (by simp [refsOkB, refsOk, inKs, idx]) (by simp [renL, ren, ren1, idx]) (by simp [renB, ren, ren1, idx]) (by simp [refsOkB, refsOkL, refsOk, inFp]) ?_
    simp [putAll, renB, ren, renL, ren2]
    refine RgS.of [26, 7, 13, 2, 3] [.box (.pt 7 [] 0), .box (encDo d (.rs 13 [] 0 d.peers.length d.peers.length 464 .tip)), .arr 464 (d.peers.map encPe), .box (encD d), .box (.int .u64 n)] (by simp [getAll]) (by simp) (by simp [refsOkL, refsOk, inKs, idx]) (by simp [refsOkB, refsOk, inKs, idx]) (by simp [renL, ren, ren1, idx]) (by simp [renB, ren, ren1, idx]) (fence_sessions_1 (rise n d.rules.rejm) (d := d) h.peers (encD d) (.int .u64 n) (by simp) (by simp)) ?_ (by simp [refsOkB, refsOkL, refsOk, inFp]) ?_
    · rintro args fp R1 ⟨i, hi, k, q, hq, hh, rfl, rfl, rfl⟩
      have hg := fun m => lik_get (φ := rise n d.rules.rejm) (k := m) hi
      have hsx : ∀ k X, (((lik (rise n d.rules.rejm) d.peers i k).map encPe).set i X)[i]? = some X := by intro k X; simp [hi]
      have hrg := h.ring _ (List.getElem_mem hi)
      rcases hq with ⟨rfl, rfl⟩ | ⟨rfl, rfl⟩ | ⟨rfl, rfl⟩
      · simp [roundSt, renEnv, putsL, refsOk, inKs, idx, ren, ren1, fpBx, ↓aw_lk, hg, pk]
        refine DrS.run [KB + 2] rfl ?_
        simp [hg, pk, hsx]
        refine callT.ret (fence_Edge (r := d.rules) hrg.1 hn) (by simp) (by simp) (by simp) ?_
        simp [hg, pk, hsx]
        refine RndS.of [.keep []] ?_
        simp [getAll, refsOkB, refsOk, inFp]
        exact set_step hi (by simp [pk, pl, hh, rise])
      · simp [roundSt, renEnv, putsL, refsOk, inKs, idx, ren, ren1, fpBx, ↓aw_lk, hg, pk]
        refine DrS.run [KB + 2] rfl ?_
        simp [hg, pk, hsx]
        refine callT.ret (fence_Edge (r := d.rules) hrg.2.1 hn) (by simp) (by simp) (by simp) ?_
        simp [hg, pk, hsx]
        refine RndS.of [.keep []] ?_
        simp [getAll, refsOkB, refsOk, inFp]
        exact set_step hi (by simp [pk, pl, hh, rise])
      · simp [roundSt, renEnv, putsL, refsOk, inKs, idx, ren, ren1, fpBx, ↓aw_lk, hg, pk]
        refine DrS.run [KB + 2] rfl ?_
        simp [hg, pk, hsx]
        refine callT.ret (fence_Edge (r := d.rules) hrg.2.2 hn) (by simp) (by simp) (by simp) ?_
        simp [hg, pk, hsx]
        refine RndS.of [.keep []] ?_
        simp [getAll, refsOkB, refsOk, inFp]
        exact set_step hi (by simp [pk, pl, hh, rise])
    · simp [putAll, renB, ren, ren2, ↓aw_lk]
      refine DrS.run [4, 5] rfl ?_
      simp
      refine RetS.plain [.keep [4, 5], .dr 26, .dr 14, .dr 6, .dr 7, .dr 2, .dr 3, .fz 11, .fz 13] ?_
      simp [refsEnv, refsBx, refsOk, refsOkB]
      rw [encD_all, encD_all, List.map_map, List.map_map]
      exact ⟨rfl, rfl⟩
end Go.Ab
end D4s
noncomputable section D5s
namespace Go.Ab
open Go.Ab
theorem frzL_set (k sz : Nat) (l0 : List PV) : ∀ (l : List PV) (i : Nat) (x : PV), frzL k sz l0 (l.set i x) = (frzL k sz l0 l).set i (frz k sz l0 x)
  | [], i, x => by simp
  | p :: l, 0, x => by simp
  | p :: l, i + 1, x => by simp [frzL_set k sz l0 l i x]
@[simp] theorem frz_encPe_s14 (k sz : Nat) (l : List PV) (e : Per) (p : PV) : frz k sz l (encPe_s14 e p) = encPe_s14 e (frz k sz l p) := by
  simp [encPe_s14, frzL]
theorem map_set_self' {l : List Per} {i : Nat} (h : i < l.length) {p : PV} (hp : p = encPe l[i]) : (l.map encPe).set i p = l.map encPe := by
  rw [hp]; exact map_set_self encPe l i h
set_option maxRecDepth 10000 in
set_option maxHeartbeats 4000000 in
theorem burrowref24_Copy {d : Dmn} (h : Sml d) : ACalls Pg I.burrowref24_Copy [encD d] [] (fun r fp => r = encDo d (.rs KB [] 0 d.peers.length d.peers.length 464 .tip) ∧ fp = [.arr 464 (d.peers.map encPe)]) := by
  refine ACalls.intro T.burrowref24_Copy (by simp [F.burrowref24_Copy]) ?_
  have hp := h.peers
  simp (disch := omega) [F.burrowref24_Copy, argEnv, fpBx, encD, encDo, encPes]
  refine ⟨⟨by omega, by omega⟩, ?_⟩
  refine LpS.rng d.peers.length (fun _ => True) [1, 2, 13, 14] (fun i => [(14, .int .i64 i)]) (fun i => []) [.keep [1, 2, 13, 14]] ?_
  simp
  refine ⟨fun i hi K hK => ?_, fun K => ?_⟩
  · have hx : d.peers[i]? = some d.peers[i] := List.getElem?_eq_getElem hi
    have hs := h.staged _ (List.getElem_mem hi)
    obtain ⟨m, hm⟩ : ∃ m, d.peers[i].staged = m := ⟨_, rfl⟩
    rw [hm] at hs
    simp [↓aw_lk, hx, hi, hm, encBs]
    refine LpS.rng m.length (fun _ => True) [1, 2, 3, 4, 13, 14, 22, 23, 24] (fun j => [(4, .rs 4 [] 0 j j 1 .tip), (24, .int .i64 j)]) (fun j => [(4, .arr 1 ((m.take j).map encB))]) [.vt 4 4 1] ?_
    simp
    refine ⟨fun j hj K2 hK2 => ?_, fun K2 => ?_⟩
    · have hy : m[j]? = some m[j] := List.getElem?_eq_getElem hj
      have hb := hs.2 _ (List.getElem_mem hj)
      have hj' : min j m.length = j := by omega
      simp (disch := omega) [↓aw_lk, hy, hj, encB]
      refine ⟨⟨by omega, by omega⟩, ⟨by omega, by omega⟩, [.keep [1, 2, 3, 4, 13, 14, 22, 23, 24], .fz 31], ?_⟩
      simp
      exact hK2 _ (by simp [List.take_add_one, hy, encB])
    · simp (disch := omega) [↓aw_lk, ↓aw_lk, hx, hi, ↓aw_lk]
      refine ⟨[.keep [1, 2, 13, 14], .fz 4], ?_⟩
      simp
      refine hK _ ?_
      simp [frzL_set]
      exact map_set_self' hi (by rw [← hm]; rfl)
  · simp [↓aw_lk, ↓aw_lk]
    have hr := h.routes
    have hsl := h.slots
    have ht := h.timers
    have hrc := h.recent
    have hb := h.buckets
    refine DrS.run [44, 47] rfl ?_
    simp (disch := omega) [encRts, encSls, encTs, encIs, encBks]
    refine ⟨⟨by omega, by omega⟩, ⟨by omega, by omega⟩, ?_⟩
    refine DrS.run [52, 55] rfl ?_
    simp (disch := omega)
    refine ⟨⟨by omega, by omega⟩, ⟨by omega, by omega⟩, ⟨by omega, by omega⟩, ?_⟩
    refine RetS.with [.keep [2], .dr 1, .fz 44, .fz 47, .fz 52, .fz 55, .fz 60] [9] ?_
    simp
def getR (r : Rng) (k : Nat) : Plc := if k = 1 then r.p else if k = 2 then r.c else r.n
set_option maxRecDepth 10000 in
theorem burrowref22_Get (r : Rng) {k : Nat} (h : k = 1 ∨ k = 2 ∨ k = 3) : ARet Pg I.burrowref22_Get [encR r, .int .i64 k] (encP (getR r k)) := by
  refine ACalls.intro T.burrowref22_Get (by simp [F.burrowref22_Get]) ?_
  rcases h with rfl | rfl | rfl <;>
  · simp [F.burrowref22_Get, argEnv, fpBx]
    refine RetS.plain [] ?_
    simp [getR]
end Go.Ab
end D5s
namespace Go.Ab
open Go.Ab
end Go.Ab
noncomputable section E1s
namespace Go.Ab
open Go.Ab
@[simp] theorem fpKeys_1' : fpKeys 1 = [KB] := rfl
structure Cds where
  l : List UInt8
  at_ : Nat
def encC (c : Cds) : PV := .st 2 [encB c.l, .int .i64 c.at_]
@[simp] theorem pure_encC (e : Cds) : Pure (encC e) := by simp [encC]
@[simp ↓] theorem getP_encC_0 (e : Cds) (r : List Step) : getP (encC e) (.f 0 0 :: r) = getP (encB e.l) r := by simp [encC, widths]
@[simp ↓] theorem getP_encC_1 (e : Cds) (r : List Step) : getP (encC e) (.f 1 1 :: r) = getP (.int .i64 e.at_) r := by simp [encC, widths]
@[simp ↓] theorem setP_encC_1 (e : Cds) (n : Nat) : setP (encC e) [.f 1 1] (.int .i64 n) = some (encC { e with at_ := n }) := by simp [encC, widths]
structure CdsOk (c : Cds) : Prop where
  len : c.l.length ≤ 1048576
  at_ : c.at_ ≤ c.l.length
theorem Codes_Left (c : Cds) : ACalls Pg I.burrowcase_Codes_Left [.pt KB [] 0] [.box (encC c)] (fun r fp => r = .bl (decide (c.at_ < c.l.length)) ∧ fp = [.box (encC c)]) := by
  refine ACalls.intro T.burrowcase_Codes_Left (by simp [F.burrowcase_Codes_Left]) ?_
  simp [F.burrowcase_Codes_Left, argEnv, fpBx]
  refine RetS.with [] [KB] ?_
  simp
def nxt (c : Cds) (n : Nat) : Nat × Cds := if h : c.at_ < c.l.length ∧ 1 ≤ n then ((c.l[c.at_]'h.1).toNat % n, { c with at_ := c.at_ + 1 }) else (0, c)
theorem nxt_ok {c : Cds} (h : CdsOk c) (n : Nat) : CdsOk (nxt c n).2 := by
  unfold nxt; split
  · rename_i hh; exact ⟨h.len, hh.1⟩
  · exact h
theorem nxt_lt (c : Cds) {n : Nat} (h : 1 ≤ n) : (nxt c n).1 < n := by
  unfold nxt; split
  · exact Nat.mod_lt _ h
  · exact h
set_option maxRecDepth 10000 in
theorem Codes_Next {c : Cds} (h : CdsOk c) (n : Nat) (hn : n ≤ 1048576) : ACalls Pg I.burrowcase_Codes_Next [.pt KB [] 0, .int .i64 n] [.box (encC c)] (fun r fp => r = .int .i64 (nxt c n).1 ∧ fp = [.box (encC (nxt c n).2)]) := by
  refine ACalls.intro T.burrowcase_Codes_Next (by simp [F.burrowcase_Codes_Next]) ?_
  have hlen := h.len
  simp [F.burrowcase_Codes_Next, argEnv, fpBx]
  refine callS.gen [KB] [] [.box (encC c)] (Codes_Left c) (by simp [getAll]) (by simp) (by simp) (by simp [refsOkL, refsOk, inKs, idx]) (by simp [refsOkB, (pure_encC c).refs]) (by simp [renL, ren, ren1, idx]) (by simp [renB, (pure_encC c).ren]) (by simp [refsOkB, refsOk, (pure_encC c).refs]) ?_
  simp [putAll, renB, ren, (pure_encC c).ren]
  by_cases hl : c.at_ < c.l.length
  · by_cases h1 : 1 ≤ n
    · have hw : IntKind.i64.wrap ((c.at_ : Int) + 1) = ((c.at_ + 1 : Nat) : Int) := by rw [wrap_i64 (by omega)]; rfl
      have hx : c.l[c.at_]? = some c.l[c.at_] := List.getElem?_eq_getElem hl
      have hb := (c.l[c.at_]).toNat_lt
      have hm := Nat.mod_le (c.l[c.at_]).toNat n
      have hq : IntKind.i64.wrap (((c.at_ + 1 : Nat) : Int) - 1) = (c.at_ : Int) := by rw [wrap_i64 (by omega)]; omega
      have hw3 : IntKind.i64.wrap (((c.l[c.at_]).toNat : Int)) = ((c.l[c.at_]).toNat : Int) := wrap_i64 (by omega)
      have hw4 : IntKind.i64.wrap (((c.l[c.at_]).toNat : Int).tmod n) = ((c.l[c.at_].toNat % n : Nat) : Int) := by
        rw [← Int.ofNat_tmod]; exact wrap_i64 (by omega)
      simp [hl, show ¬ (n : Int) < 1 by omega, hw, hq, hx, hw3, hw4, -Int.natCast_add, -Int.natCast_emod]
      refine ⟨fun h' => absurd h' (by omega), fun _ => ?_⟩
      simp only [u8]
      simp [hw3, show ¬ n = 0 by omega]
      refine RetS.with [] [KB] ?_
      simp [nxt, hl, h1]
      rw [← Int.ofNat_tmod]; rfl
    · have h0 : n = 0 := by omega
      subst h0
      simp [hl]
      refine RetS.with [] [KB] ?_
      simp [nxt]
  · simp [hl]
    intro _
    refine RetS.with [] [KB] ?_
    simp [nxt, hl]
theorem i64_or_nat (a b : Nat) (ha : a < 4611686018427387904) (hb : b < 4611686018427387904) : bits .or .i64 (a : Int) (b : Int) = ((a ||| b : Nat) : Int) := by
  have hx : a ||| b < 2 ^ 62 := Nat.or_lt_two_pow (by omega) (by omega)
  have h1 : (BitVec.ofInt 64 (a : Int)).toNat = a := by
    rw [BitVec.ofInt_natCast, BitVec.toNat_ofNat]; exact Nat.mod_eq_of_lt (by omega)
  have h2 : (BitVec.ofInt 64 (b : Int)).toNat = b := by
    rw [BitVec.ofInt_natCast, BitVec.toNat_ofNat]; exact Nat.mod_eq_of_lt (by omega)
  show IntKind.i64.wrap ((BitVec.ofInt 64 (a : Int) ||| BitVec.ofInt 64 (b : Int)).toNat : Int) = _
  rw [BitVec.toNat_or, h1, h2]
  exact wrap_i64 (by omega)
theorem callS.cdsE {P : Program} {s : St} {α : Type} {d : Option Nat} {f : FuncId} {args args' : List PV} {c : Cds} {Φ : α → Prop} {r : α → PV} {c' : α → Cds} {K : St → Prop} {t : Tg K} (k : Nat) (hA : ACalls P f args' [.box (encC c)] fun x fp => ∃ w, Φ w ∧ x = r w ∧ fp = [.box (encC (c' w))]) (hb : get s.bx k = some (.box (encC c)))
    (hargs : refsOkL (inKs [k]) args = true) (ha : wkL (renL (ren1 [k]) args) = args') (hr : ∀ w, Pure (r w)) (h : ∀ w, Φ w → K ({ s with bx := put s.bx k (.box (encC (c' w))) }.put d (r w))) : callS P s d f args K t := by
  subst ha
  refine ⟨[k], [], [.box (encC c)], _, by simp [getAll, hb], by simp, by simp, hargs, by simp [refsOkB, (pure_encC c).refs], ACalls.wkA (by simpa [renB, (pure_encC c).ren] using hA), ?_⟩
  rintro x fp ⟨w, hw, rfl, rfl⟩
  refine ⟨⟨rfl, (hr w).refs _, by simp [refsOkB, (pure_encC _).refs]⟩, ?_⟩
  simpa [putAll, renB, (pure_encC _).ren, (hr w).ren] using h w hw
theorem callS.cds {P : Program} {s : St} {d : Option Nat} {f : FuncId} {args args' : List PV} {c c' : Cds} {r : PV} {K : St → Prop} {t : Tg K} (k : Nat) (hA : ACalls P f args' [.box (encC c)] fun x fp => x = r ∧ fp = [.box (encC c')]) (hb : get s.bx k = some (.box (encC c)))
    (hargs : refsOkL (inKs [k]) args = true) (ha : wkL (renL (ren1 [k]) args) = args') (hr : Pure r) (h : K ({ s with bx := put s.bx k (.box (encC c')) }.put d r)) : callS P s d f args K t := by
  refine callS.gen [k] [] [.box (encC c)] hA (by simp [getAll, hb]) (by simp) (by simp) hargs (by simp [refsOkB, (pure_encC c).refs]) ha (by simp [renB, (pure_encC c).ren]) ⟨rfl, hr.refs _, by simp [refsOkB, (pure_encC c').refs]⟩ ?_
  simpa [putAll, renB, (pure_encC c').ren, hr.ren] using h
def bool (c : Cds) : Bool × Cds := (decide ((nxt c 2).1 = 1), (nxt c 2).2)
set_option maxRecDepth 10000 in
theorem Codes_Bool {c : Cds} (h : CdsOk c) : ACalls Pg I.burrowcase_Codes_Bool [.pt KB [] 0] [.box (encC c)] (fun r fp => r = .bl (bool c).1 ∧ fp = [.box (encC (bool c).2)]) := by
  refine ACalls.intro T.burrowcase_Codes_Bool (by simp [F.burrowcase_Codes_Bool]) ?_
  simp [F.burrowcase_Codes_Bool, argEnv, fpBx]
  refine callS.cds KB (Codes_Next h 2 (by omega)) (by simp) (by simp [refsOkL, refsOk, inKs, idx]) (by simp [renL, ren, ren1, idx]) (by simp) ?_
  simp
  refine RetS.with [] [KB] ?_
  simp [bool, refsOkB, (pure_encC _).refs, renB, (pure_encC _).ren]
  omega
set_option maxRecDepth 10000 in
theorem Codes_Big {c : Cds} (h : CdsOk c) (n : Nat) (hn : n ≤ 16777216) (h1 : 1 ≤ n) : ACalls Pg I.burrowcase_Codes_Big [.pt KB [] 0, .int .i64 n] [.box (encC c)] (fun r fp => ∃ m c', CdsOk c' ∧ m < n ∧ r = .int .i64 (m : Nat) ∧ fp = [.box (encC c')]) := by
  refine ACalls.intro T.burrowcase_Codes_Big (by simp [F.burrowcase_Codes_Big]) ?_
  simp [F.burrowcase_Codes_Big, argEnv, fpBx, show ¬ (n : Int) < 1 by omega]
  refine callS.cds KB (Codes_Next h 256 (by omega)) (by simp) (by simp [refsOkL, refsOk, inKs, idx]) (by simp [renL, ren, ren1, idx]) (by simp) ?_
  have l1 := nxt_lt c (n := 256) (by omega)
  have o1 := nxt_ok h 256
  generalize nxt c 256 = a at *
  simp
  refine callS.cds KB (Codes_Next o1 256 (by omega)) (by simp) (by simp [refsOkL, refsOk, inKs, idx]) (by simp [renL, ren, ren1, idx]) (by simp) ?_
  have l2 := nxt_lt a.2 (n := 256) (by omega)
  have o2 := nxt_ok o1 256
  generalize nxt a.2 256 = b at *
  simp
  refine callS.cds KB (Codes_Next o2 256 (by omega)) (by simp) (by simp [refsOkL, refsOk, inKs, idx]) (by simp [renL, ren, ren1, idx]) (by simp) ?_
  have l3 := nxt_lt b.2 (n := 256) (by omega)
  have o3 := nxt_ok o2 256
  generalize nxt b.2 256 = e at *
  simp
  refine ⟨by omega, ?_⟩
  have w1 : IntKind.i64.wrap ((a.1 : Int) * 2 ^ min 16 IntKind.i64.bits) = ((a.1 * 65536 : Nat) : Int) := by
    simp [IntKind.bits]; rw [wrap_i64 (by omega)]
  have w2 : IntKind.i64.wrap ((b.1 : Int) * 2 ^ min 8 IntKind.i64.bits) = ((b.1 * 256 : Nat) : Int) := by
    simp [IntKind.bits]; rw [wrap_i64 (by omega)]
  have hx : a.1 * 65536 ||| b.1 * 256 < 2 ^ 24 := Nat.or_lt_two_pow (by omega) (by omega)
  have hy : (a.1 * 65536 ||| b.1 * 256) ||| e.1 < 2 ^ 24 := Nat.or_lt_two_pow hx (by omega)
  rw [w1, w2, i64_or_nat _ _ (by omega) (by omega), i64_or_nat _ _ (by omega) (by omega)]
  generalize (a.1 * 65536 ||| b.1 * 256) ||| e.1 = m at *
  generalize a.1 * 65536 ||| b.1 * 256 = m2 at *
  have ht : ((m : Int)).tmod n = ((m % n : Nat) : Int) := by rw [← Int.ofNat_tmod]
  refine RetS.with [] [KB] ?_
  simp [refsOkB, (pure_encC _).refs, renB, (pure_encC _).ren, -Int.natCast_emod]
  exact ⟨m % n, e.2, o3, Nat.mod_lt _ (by omega), ht, rfl⟩
end Go.Ab
end E1s
noncomputable section E2s
namespace Go.Ab
open Go.Ab
theorem wrapi {i n : Nat} (h : i < n) (hn : n ≤ 1048576) : IntKind.i64.wrap ((i : Int) + 1) = (i : Int) + 1 := wrap_i64 (by omega)
theorem u8_wrap (m : Int) : ∃ b : UInt8, PV.int .u8 (IntKind.u8.wrap m) = u8 b := by
  have h : 0 ≤ IntKind.u8.wrap m ∧ IntKind.u8.wrap m < 256 := by
    simp only [IntKind.wrap, IntKind.bits, IntKind.signed]; simp; omega
  refine ⟨UInt8.ofNat (IntKind.u8.wrap m).toNat, ?_⟩
  simp only [u8]
  congr 1
  rw [UInt8.toNat_ofNat']
  omega
def mixB (f : Nat → UInt8) (n i : Nat) : List UInt8 := (List.range n).map fun j => if j < i then f j else 0
@[simp] theorem mixB_length (f : Nat → UInt8) (n i : Nat) : (mixB f n i).length = n := by simp [mixB]
theorem mixB_zero (f : Nat → UInt8) (n : Nat) : List.replicate n (PV.int .u8 0) = (mixB f n 0).map u8 := by
  apply List.ext_getElem <;> simp [mixB, u8]
theorem mixB_set (f : Nat → UInt8) (n i : Nat) : ((mixB f n i).map u8).set i (u8 (f i)) = (mixB f n (i + 1)).map u8 := by
  rw [← List.map_set]
  congr 1
  apply List.ext_getElem
  · simp
  · intro j h1 h2
    simp only [mixB, List.getElem_set, List.getElem_map, List.getElem_range]
    by_cases e : i = j
    · subst e; simp
    · simp only [e, if_false]
      by_cases e2 : j < i
      · rw [if_pos e2, if_pos (by omega)]
      · rw [if_neg e2, if_neg (by omega)]
set_option maxRecDepth 10000 in
set_option maxHeartbeats 1000000 in
theorem Codes_Bytes {c : Cds} (h : CdsOk c) (n : Nat) (hn : n ≤ 1048576) : ACalls Pg I.burrowcase_Codes_Bytes [.pt KB [] 0, .int .i64 n] [.box (encC c)] (fun r fp => ∃ w : List UInt8 × Cds, (CdsOk w.2 ∧ w.1.length = n) ∧ r = encB w.1 ∧ fp = [.box (encC w.2)]) := by
  refine ACalls.intro T.burrowcase_Codes_Bytes (by simp [F.burrowcase_Codes_Bytes]) ?_
  simp [F.burrowcase_Codes_Bytes, argEnv, fpBx]
  refine ⟨⟨by omega, by omega⟩, ?_⟩
  refine callS.cds KB (Codes_Next h 256 (by omega)) (by simp) (by simp [refsOkL, refsOk, inKs, idx]) (by simp [renL, ren, ren1, idx]) (by simp) ?_
  have o1 := nxt_ok h 256
  generalize nxt c 256 = a at *
  simp
  generalize IntKind.i64.wrap (IntKind.i64.wrap (2 * ↑a.snd.at_) + 1) = st
  have hf : ∃ f : Nat → UInt8, ∀ i : Nat, PV.int .u8 (IntKind.u8.wrap (IntKind.i64.wrap ((a.1 : Int) + IntKind.i64.wrap ((i : Int) * st)))) = u8 (f i) :=
    ⟨fun i => Classical.choose (u8_wrap _), fun i => Classical.choose_spec (u8_wrap _)⟩
  obtain ⟨f, hf⟩ := hf
  rw [mixB_zero f]
  refine LpS.rng n (fun _ => True) [0, 4, 5, 6, 7, 20, 21] (fun i => [(21, .int .i64 i)]) (fun i => [(10, .arr 1 ((mixB f n i).map u8))]) [.keep [0, 4, 5, 6, 7, 20, 21]] ?_
  simp
  refine ⟨fun i hi K hK => ?_, fun K => ?_⟩
  · simp [↓aw_lk, hi, hf, wrapi hi hn]
    refine ⟨⟨rfl, rfl⟩, [.keep [0, 4, 5, 6, 7, 20, 21]], ?_⟩
    simp
    exact hK _ (by simp [mixB_set])
  · simp [↓aw_lk, ↓aw_lk]
    refine RetS.with [.keep [4], .fz 10] [KB] ?_
    simp [refsOkB, (pure_encC _).refs, renB, (pure_encC _).ren, refsOk, refsOkL]
    exact ⟨mixB f n n, a.2, ⟨o1, by simp⟩, by rw [List.take_of_length_le (by simp)]; rfl, rfl⟩
set_option maxRecDepth 10000 in
theorem Codes_Key {c : Cds} (h : CdsOk c) : ACalls Pg I.burrowcase_Codes_Key [.pt KB [] 0] [.box (encC c)] (fun r fp => ∃ w : Key × Cds, CdsOk w.2 ∧ r = encK w.1 ∧ fp = [.box (encC w.2)]) := by
  refine ACalls.intro T.burrowcase_Codes_Key (by simp [F.burrowcase_Codes_Key]) ?_
  simp [F.burrowcase_Codes_Key, argEnv, fpBx]
  refine DrS.run [KB] rfl ?_
  simp
  refine callS.cdsE KB (Codes_Bytes h 32 (by omega)) (by simp) (by simp [refsOkL, refsOk, inKs, idx]) (by simp [renL, ren, ren1, idx]) (by simp) ?_
  rintro ⟨l, c'⟩ ⟨hc, hl⟩
  simp at hc hl
  have hl2 : l.take 32 = l := List.take_of_length_le (by omega)
  simp [hl, encB]
  have e : PV.ar 1 32 (List.take 32 (List.map u8 l) ++ List.drop 32 (zr 32 (PV.int .u8 0))) = encK ⟨l, hl⟩ := by
    rw [List.take_of_length_le (by simp [hl]), List.drop_of_length_le (by simp [zr_eq])]; simp [encK]
  rw [e]
  refine RetS.with [] [KB] ?_
  simp [refsOkB, (pure_encC _).refs, renB, (pure_encC _).ren, (pure_encK _).refs]
  exact ⟨⟨l, hl⟩, c', hc, rfl, rfl⟩
def RulOk (r : Rul) : Prop := 1 ≤ r.rekm ∧ r.rekm ≤ r.rejm ∧ r.rejm ≤ 18446744073709543423 ∧ 1000 ≤ r.ret ∧ r.ret ≤ 3000 ∧ 2000 ≤ r.kat ∧ r.kat ≤ 6000 ∧ r.cot = 30000 ∧ 20000 ≤ r.rekt ∧ r.rekt ≤ r.rejt ∧ r.rejt ≤ 100000 ∧ r.ret ≤ r.att ∧ r.att ≤ 20 * r.ret ∧ 1 ≤ r.load ∧ r.load ≤ 6 ∧ 1 ≤ r.stage ∧ r.stage ≤ 8
theorem RulOk.mk' {a b c d e f g i j k : Int} (h1 : 1 ≤ a) (h2 : a ≤ b) (h3 : b ≤ 18446744073709543423) (h4 : 1000 ≤ f) (h5 : f ≤ 3000) (h6 : 2000 ≤ g) (h7 : g ≤ 6000) (h8 : 20000 ≤ c) (h9 : c ≤ d) (h10 : d ≤ 100000) (h11 : f ≤ e) (h12 : e ≤ 20 * f) (h13 : 1 ≤ j) (h14 : j ≤ 6) (h15 : 1 ≤ k) (h16 : k ≤ 8) (h17 : i = 30000 := by rfl) : RulOk ⟨a, b, c, d, e, f, g, i, j, k⟩ :=
  ⟨h1, h2, h3, h4, h5, h6, h7, h17, h8, h9, h10, h11, h12, h13, h14, h15, h16⟩
set_option maxRecDepth 10000 in
set_option maxHeartbeats 4000000 in
theorem Codes_Rules {c : Cds} (h : CdsOk c) : ACalls Pg I.burrowcase_Codes_Rules [.pt KB [] 0] [.box (encC c)] (fun r fp => ∃ w : Rul × Cds, (RulOk w.1 ∧ CdsOk w.2) ∧ r = encRu w.1 ∧ fp = [.box (encC w.2)]) := by
  refine ACalls.intro T.burrowcase_Codes_Rules (by simp [F.burrowcase_Codes_Rules]) ?_
  simp [F.burrowcase_Codes_Rules, argEnv, fpBx]
  refine callS.cds KB (Codes_Next h 40 (by omega)) (by simp) (by simp [refsOkL, refsOk, inKs, idx]) (by simp [renL, ren, ren1, idx]) (by simp) ?_
  have l0 := nxt_lt c (n := 40) (by omega)
  have o0 := nxt_ok h 40
  generalize nxt c 40 = x0 at *
  simp (disch := omega)
  refine callS.cds KB (Codes_Next o0 20 (by omega)) (by simp) (by simp [refsOkL, refsOk, inKs, idx]) (by simp [renL, ren, ren1, idx]) (by simp) ?_
  have l1 := nxt_lt x0.2 (n := 20) (by omega)
  have o1 := nxt_ok o0 20
  generalize nxt x0.2 20 = x1 at *
  simp (disch := omega)
  refine callS.cds KB (Codes_Next o1 5 (by omega)) (by simp) (by simp [refsOkL, refsOk, inKs, idx]) (by simp [renL, ren, ren1, idx]) (by simp) ?_
  have l2 := nxt_lt x1.2 (n := 5) (by omega)
  have o2 := nxt_ok o1 5
  generalize nxt x1.2 5 = x2 at *
  simp (disch := omega)
  refine callS.cds KB (Codes_Next o2 5 (by omega)) (by simp) (by simp [refsOkL, refsOk, inKs, idx]) (by simp [renL, ren, ren1, idx]) (by simp) ?_
  have l3 := nxt_lt x2.2 (n := 5) (by omega)
  have o3 := nxt_ok o2 5
  generalize nxt x2.2 5 = x3 at *
  simp (disch := omega)
  refine callS.cds KB (Codes_Next o3 6 (by omega)) (by simp) (by simp [refsOkL, refsOk, inKs, idx]) (by simp [renL, ren, ren1, idx]) (by simp) ?_
  have l4 := nxt_lt x3.2 (n := 6) (by omega)
  have o4 := nxt_ok o3 6
  generalize nxt x3.2 6 = x4 at *
  simp (disch := omega)
  refine callS.cds KB (Codes_Next o4 8 (by omega)) (by simp) (by simp [refsOkL, refsOk, inKs, idx]) (by simp [renL, ren, ren1, idx]) (by simp) ?_
  have l5 := nxt_lt x4.2 (n := 8) (by omega)
  have o5 := nxt_ok o4 8
  generalize nxt x4.2 8 = x5 at *
  simp (disch := omega)
  refine DrS.run [KB] rfl ?_
  simp (disch := omega)
  refine callS.cds KB (Codes_Next o5 60 (by omega)) (by simp) (by simp [refsOkL, refsOk, inKs, idx]) (by simp [renL, ren, ren1, idx]) (by simp) ?_
  have l6 := nxt_lt x5.2 (n := 60) (by omega)
  have o6 := nxt_ok o5 60
  generalize nxt x5.2 60 = x6 at *
  simp (disch := omega)
  refine DrS.run [KB] rfl ?_
  simp (disch := omega)
  refine callS.cds KB (Codes_Next o6 40 (by omega)) (by simp) (by simp [refsOkL, refsOk, inKs, idx]) (by simp [renL, ren, ren1, idx]) (by simp) ?_
  have l7 := nxt_lt x6.2 (n := 40) (by omega)
  have o7 := nxt_ok o6 40
  generalize nxt x6.2 40 = x7 at *
  simp (disch := omega)
  refine DrS.run [KB] rfl ?_
  simp (disch := omega)
  refine callS.cds KB (Codes_Next o7 5 (by omega)) (by simp) (by simp [refsOkL, refsOk, inKs, idx]) (by simp [renL, ren, ren1, idx]) (by simp) ?_
  have l8 := nxt_lt x7.2 (n := 5) (by omega)
  have o8 := nxt_ok o7 5
  generalize nxt x7.2 5 = x8 at *
  simp (disch := omega)
  refine callS.cds KB (Codes_Next o8 4 (by omega)) (by simp) (by simp [refsOkL, refsOk, inKs, idx]) (by simp [renL, ren, ren1, idx]) (by simp) ?_
  have l9 := nxt_lt x8.2 (n := 4) (by omega)
  have o9 := nxt_ok o8 4
  generalize nxt x8.2 4 = x9 at *
  simp (disch := omega)
  have hP : ∃ Q : Int, IntKind.i64.wrap ((1000 + (x2.1 : Int) * 500) * (1 + (x8.1 : Int))) = Q ∧ 1000 + (x2.1 : Int) * 500 ≤ Q ∧ Q ≤ 20 * (1000 + (x2.1 : Int) * 500) := by
    have hc : x8.1 = 0 ∨ x8.1 = 1 ∨ x8.1 = 2 ∨ x8.1 = 3 ∨ x8.1 = 4 := by omega
    rcases hc with h | h | h | h | h <;> rw [h]
    · exact ⟨_, wrap_i64 (by omega), by omega, by omega⟩
    · exact ⟨_, wrap_i64 (by omega), by omega, by omega⟩
    · exact ⟨_, wrap_i64 (by omega), by omega, by omega⟩
    · exact ⟨_, wrap_i64 (by omega), by omega, by omega⟩
    · exact ⟨_, wrap_i64 (by omega), by omega, by omega⟩
  obtain ⟨Q, hQ, hQ1, hQ2⟩ := hP
  rw [hQ]
  refine ⟨fun hz => ?_, fun hz => ?_⟩
  · refine RetS.with [] [KB] ?_
    simp [refsOkB, (pure_encC _).refs, renB, (pure_encC _).ren, refsOk, refsOkL]
    exact ⟨⟨1152921504606846976, 18446744073709543423, 20000 + (x1.1 : Int) * 1000, 20000 + (x1.1 : Int) * 1000 + (x7.1 : Int) * 1000, Q, 1000 + (x2.1 : Int) * 500, 2000 + (x3.1 : Int) * 1000, 30000, 1 + (x4.1 : Int), 1 + (x5.1 : Int)⟩, x9.2, ⟨RulOk.mk' (by omega) (by omega) (by omega) (by omega) (by omega) (by omega) (by omega) (by omega) (by omega) (by omega) (by omega) (by omega) (by omega) (by omega) (by omega) (by omega), o9⟩, rfl, rfl⟩
  · refine RetS.with [] [KB] ?_
    simp [refsOkB, (pure_encC _).refs, renB, (pure_encC _).ren, refsOk, refsOkL]
    exact ⟨⟨1 + (x0.1 : Int), 1 + (x0.1 : Int) + (x6.1 : Int), 20000 + (x1.1 : Int) * 1000, 20000 + (x1.1 : Int) * 1000 + (x7.1 : Int) * 1000, Q, 1000 + (x2.1 : Int) * 500, 2000 + (x3.1 : Int) * 1000, 30000, 1 + (x4.1 : Int), 1 + (x5.1 : Int)⟩, x9.2, ⟨RulOk.mk' (by omega) (by omega) (by omega) (by omega) (by omega) (by omega) (by omega) (by omega) (by omega) (by omega) (by omega) (by omega) (by omega) (by omega) (by omega) (by omega), o9⟩, rfl, rfl⟩
end Go.Ab
end E2s
