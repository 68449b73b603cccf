/- The checks of routing and timers; daemon.Valid of a made daemon. No condition. -/
import Derived.Test.YtjkfnhhekobfgaaGreatDoorC1
set_option linter.all false
namespace Go.Ab
open Go.Ab
set_option maxRecDepth 10000 in
theorem idx_yes {sz : Nat} {ag : Bool} {f : FuncId} (ht : trFun Pg [] [] f = some (idxFun sz ag).er) {L : List PV} (hL : Els sz ag L) {g : FuncId} {v : PV} (hv : Pure v) {n : Nat} (hn : n < L.length)
    (hno : ∀ j (hj : j < L.length), j < n → ACalls Pg g [L[j], .pt KB [] 0] [.box v] (fun r fp => r = .bl false ∧ fp = [.box v]))
    (hye : ACalls Pg g [L[n], .pt KB [] 0] [.box v] (fun r fp => r = .bl true ∧ fp = [.box v])) :
    ACalls Pg f [.sl sz L false, .fn (.func g) [] [.pt KB [] 0]] [.box v] (fun r fp => r = .int .i64 n ∧ fp = [.box v]) := by
  refine ACalls.intro ht (by simp [idxFun]) ?_
  have hl := hL.len
  simp [idxFun, argEnv, fpBx]
  refine LpS.rng n (fun _ => True) [0, 1, 4, 6, 7, 8] (fun i => [(8, .int .i64 i)]) (fun _ => []) [.keep [0, 1, 4, 6, 7, 8]] ?_
  simp
  refine ⟨fun i hin K hK => ?_, fun K => ?_⟩
  · have hi : i < L.length := by omega
    have hx : L[i]? = some L[i] := List.getElem?_eq_getElem hi
    obtain ⟨⟨e1, e2⟩, e3, e4, e5⟩ := hL.el L[i] (List.getElem_mem hi)
    have hc := hno i hi hin
    obtain ⟨x, hxe⟩ : ∃ x, x = L[i] := ⟨_, rfl⟩
    rw [← hxe] at e1 e2 e3 e4 e5 hc hx
    have wi : IntKind.i64.wrap ((i : Int) + 1) = (i : Int) + 1 := wrap_i64 (by omega)
    simp [idxL, hx, hi, ← hxe, e1, e2, e5]
    refine callS.gen [KB] [] [.box v] hc (by simp [getAll]) (by simp) (by simp) (by simp [refsOkL, refsOk, inKs, idx, e3.refs]) (by simp [refsOkB, hv.refs]) (by simp [renL, ren, ren1, idx, e3.ren, e4]) (by simp [renB, hv.ren]) (by simp [refsOkB, refsOk, hv.refs]) ?_
    simp [putAll, renB, ren, ren2, hv.ren, wi]
    refine ⟨[.keep [0, 1, 4, 6, 7, 8]], ?_⟩
    simp
    exact hK _ (by simp)
  · have hx : L[n]? = some L[n] := List.getElem?_eq_getElem hn
    obtain ⟨⟨e1, e2⟩, e3, e4, e5⟩ := hL.el L[n] (List.getElem_mem hn)
    have hc := hye
    obtain ⟨x, hxe⟩ : ∃ x, x = L[n] := ⟨_, rfl⟩
    rw [← hxe] at e1 e2 e3 e4 e5 hc hx
    simp [idxL, hx, hn, ← hxe, e1, e2, e5]
    refine callS.gen [KB] [] [.box v] hc (by simp [getAll]) (by simp) (by simp) (by simp [refsOkL, refsOk, inKs, idx, e3.refs]) (by simp [refsOkB, hv.refs]) (by simp [renL, ren, ren1, idx, e3.ren, e4]) (by simp [renB, hv.ren]) (by simp [refsOkB, refsOk, hv.refs]) ?_
    simp [putAll, renB, ren, ren2, hv.ren]
    refine RetS.with [] [KB] ?_
    simp [refsOkB, hv.refs, renB, hv.ren]
set_option maxRecDepth 10000 in
theorem con_yes {sz : Nat} {ag : Bool} {f ix : FuncId} (hf : trFun Pg [] [] f = some (conFun ix).er) (ht : trFun Pg [] [] ix = some (idxFun sz ag).er) {L : List PV} (hL : Els sz ag L) {g : FuncId} {v : PV} (hv : Pure v) {n : Nat} (hn : n < L.length)
    (hno : ∀ j (hj : j < L.length), j < n → ACalls Pg g [L[j], .pt KB [] 0] [.box v] (fun r fp => r = .bl false ∧ fp = [.box v]))
    (hye : ACalls Pg g [L[n], .pt KB [] 0] [.box v] (fun r fp => r = .bl true ∧ fp = [.box v])) :
    ACalls Pg f [.sl sz L false, .fn (.func g) [] [.pt KB [] 0]] [.box v] (fun r fp => r = .bl true ∧ fp = [.box v]) := by
  refine ACalls.intro hf (by simp [conFun]) ?_
  have hpl : PureL L := PureL.mk' fun x hx => (hL.el x hx).2.1
  have hwl : wkL L = L := hL.wk
  simp [conFun, argEnv, fpBx]
  refine callS.gen [KB] [] [.box v] (idx_yes ht hL hv hn hno hye) (by simp [getAll]) (by simp) (by simp) (by simp [refsOkL, refsOk, inKs, idx, hpl.refs]) (by simp [refsOkB, refsOk, refsOkL, inKs, idx, hv.refs]) (by simp [renL, ren, ren1, idx, hpl.ren, hwl]) (by simp [renB, ren, renL, ren1, idx, hv.ren]) (by simp [refsOkB, refsOk, refsOkL, inFp, hv.refs]) ?_
  simp [putAll, renB, ren, renL, ren2, hv.ren]
  refine RetS.with [] [KB] ?_
  simp [refsOkB, refsOk, refsOkL, renB, ren, renL, inFp, hv.refs, hv.ren]
theorem known1 (p : Per) (k : Key) : ACalls Pg I.rules_known_1 [encPe p, .pt KB [] 0] [.box (encK k)] (fun r fp => r = .bl (decide (p.pub = k)) ∧ fp = [.box (encK k)]) := by
  refine ACalls.intro T.rules_known_1 (by simp [F.rules_known_1]) ?_
  simp [F.rules_known_1, argEnv, fpBx, beq_K]
  refine RetS.with [] [KB] ?_
  simp [refsOkB, (pure_encK k).refs, renB, (pure_encK k).ren]
set_option maxRecDepth 10000 in
theorem known_t {d : Dmn} (h : PksOk d.peers) {i : Nat} (hi : i < d.peers.length) : ARet Pg I.rules_known [encD d, encK (kOf i)] (.bl true) := by
  refine ACalls.intro T.rules_known (by simp [F.rules_known]) ?_
  have hl := h.1
  have hc := con_yes (f := I.slices_ContainsFunc_api_Peer_api_Peer) (ix := I.slices_IndexFunc_api_Peer_api_Peer) T.slices_ContainsFunc_api_Peer_api_Peer T.slices_IndexFunc_api_Peer_api_Peer (els_peers (l := d.peers) (by omega)) (g := I.rules_known_1) (v := encK (kOf i)) (by simp) (n := i) (by simpa using hi)
    (fun j hj hji => by
      have hj2 : j < d.peers.length := by simpa using hj
      have := known1 d.peers[j] (kOf i)
      rw [h.2 j hj2] at this
      have hne : ¬ kOf j = kOf i := fun e => absurd (kOf_inj (by omega) (by omega) e) (by omega)
      simpa [hne] using this)
    (by
      have := known1 d.peers[i] (kOf i)
      rw [h.2 i hi] at this
      simpa using this)
  simp [F.rules_known, argEnv, fpBx]
  refine callS.gen [3] [] [.box (encK (kOf i))] hc (by simp [getAll]) (by simp) (by simp) (by simp [refsOkL, refsOk, inKs, idx, encPes, (pureL_map pure_encPe d.peers).refs]) (by simp [refsOkB]) (by simp [renL, ren, ren1, idx, encPes, (pureL_map pure_encPe d.peers).ren]) (by simp [renB]) (by simp [refsOkB, refsOk]) ?_
  simp [putAll, renB, ren, ren2]
  refine RetS.plain [] ?_
  simp
end Go.Ab
namespace Go.Ab
open Go.Ab
theorem els_routes {l : List Rte} (h : l.length ≤ 1048576) : Els 50 true (l.map encRt) := by
  refine ⟨by simpa using h, fun x hx => ?_⟩
  obtain ⟨p, _, rfl⟩ := List.mem_map.1 hx
  exact ⟨⟨rfl, rfl⟩, by simp, by simp, fun K => by simp⟩
set_option maxRecDepth 10000 in
theorem irouting1_t {d : Dmn} (h : PksOk d.peers) {r : Rte} {i : Nat} (hi : i < d.peers.length) (hr : r.peer = kOf i) : ACalls Pg I.rules_routing_1 [encRt r, .pt KB [] 0] [.box (encD d)] (fun r fp => r = .bl false ∧ fp = [.box (encD d)]) := by
  refine ACalls.intro T.rules_routing_1 (by simp [F.rules_routing_1]) ?_
  simp [F.rules_routing_1, argEnv, fpBx, hr]
  refine callS.ret (known_t h hi) (by simp) (by simp) (by simp) ?_
  simp
  refine RetS.with [] [KB] ?_
  simp [refsOkB, (pure_encD d).refs, renB, (pure_encD d).ren]
set_option maxRecDepth 10000 in
theorem irouting_t {d : Dmn} (h : VD d) : ARet Pg I.rules_routing [encD d] (.bl true) := by
  refine ACalls.intro T.rules_routing (by simp [F.rules_routing]) ?_
  have hl := h.rts.1
  have hrl := h.rtl
  simp [F.rules_routing, argEnv, fpBx]
  refine callS.ret (routesValid_t h.rts) (by simp) (by simp) (by simp) ?_
  simp
  have hc := con_no (f := I.slices_ContainsFunc_api_Route_api_Route) (ix := I.slices_IndexFunc_api_Route_api_Route) T.slices_ContainsFunc_api_Route_api_Route T.slices_IndexFunc_api_Route_api_Route (els_routes (l := d.routes) (by omega)) (g := I.rules_routing_1) (v := encD d) (by simp) (fun x hx => by
    obtain ⟨p, hp, rfl⟩ := List.mem_map.1 hx
    obtain ⟨i, hi, rfl⟩ := List.mem_iff_getElem.1 hp
    exact irouting1_t h.pks (i := i) (by omega) (by rw [h.rts.2 i hi]; rfl))
  refine callS.gen [1] [] [.box (encD d)] hc (by simp [getAll]) (by simp) (by simp) (by simp [refsOkL, refsOk, inKs, idx, encRts, (pureL_map pure_encRt d.routes).refs]) (by simp [refsOkB, (pure_encD d).refs]) (by simp [renL, ren, ren1, idx, encRts, (pureL_map pure_encRt d.routes).ren]) (by simp [renB, (pure_encD d).ren]) (by simp [refsOkB, refsOk, (pure_encD d).refs]) ?_
  simp [putAll, renB, ren, ren2, (pure_encD d).ren]
  refine RetS.plain [] ?_
  simp
end Go.Ab
namespace Go.Ab
open Go.Ab
set_option maxRecDepth 10000 in
theorem idx_no3 {sz : Nat} {ag : Bool} {f : FuncId} (ht : trFun Pg [] [] f = some (idxFun sz ag).er) {L : List PV} (hL : Els sz ag L) {g : FuncId} {v w : PV} (hv : Pure v) (hw : Pure w)
    (hno : ∀ x ∈ L, ACalls Pg g [x, .pt KB [] 0, .pt (KB + 1) [] 0] [Blk.box v, .box w] (fun r fp => r = .bl false ∧ fp = [Blk.box v, .box w])) :
    ACalls Pg f [.sl sz L false, .fn (.func g) [] [.pt KB [] 0, .pt (KB + 1) [] 0]] [Blk.box v, .box w] (fun r fp => r = .int .i64 (-1) ∧ fp = [Blk.box v, .box w]) := by
  refine ACalls.intro ht (by simp [idxFun]) ?_
  have hl := hL.len
  simp [idxFun, argEnv, fpBx]
  refine LpS.rng L.length (fun _ => True) [0, 1, 4, 6, 7, 8] (fun i => [(8, .int .i64 i)]) (fun _ => []) [.keep [0, 1, 4, 6, 7, 8]] ?_
  simp
  refine ⟨fun i hi K hK => ?_, fun K => ?_⟩
  · have hx : L[i]? = some L[i] := List.getElem?_eq_getElem hi
    obtain ⟨⟨e1, e2⟩, e3, e4, e5⟩ := hL.el L[i] (List.getElem_mem hi)
    have hc := hno L[i] (List.getElem_mem hi)
    obtain ⟨x, hxe⟩ : ∃ x, x = L[i] := ⟨_, rfl⟩
    rw [← hxe] at e1 e2 e3 e4 e5 hc hx
    have wi : IntKind.i64.wrap ((i : Int) + 1) = (i : Int) + 1 := wrap_i64 (by omega)
    simp [idxL, hx, hi, ← hxe, e1, e2, e5]
    refine callS.gen [KB, KB + 1] [] [Blk.box v, .box w] hc (by simp [getAll]) (by simp) (by simp) (by simp [refsOkL, refsOk, inKs, idx, e3.refs]) (by simp [refsOkB, refsOk, refsOkL, inKs, idx, hv.refs, hw.refs]) (by simp [renL, ren, ren1, idx, e3.ren, e4]) (by simp [renB, ren, renL, ren1, idx, hv.ren, hw.ren]) (by simp [refsOkB, refsOk, refsOkL, inFp, hv.refs, hw.refs]) ?_
    simp [putAll, renB, ren, renL, ren2, hv.ren, hw.ren, wi]
    refine ⟨[.keep [0, 1, 4, 6, 7, 8]], ?_⟩
    simp
    exact hK _ (by simp)
  · simp [idxL, idxC]
    refine RetS.with [] [KB, KB + 1] ?_
    simp [refsOkB, hv.refs, renB, hv.ren, hw.ren, hw.refs, refsOk, refsOkL, ren, renL, inFp]
set_option maxRecDepth 10000 in
theorem con_no3 {sz : Nat} {ag : Bool} {f ix : FuncId} (hf : trFun Pg [] [] f = some (conFun ix).er) (ht : trFun Pg [] [] ix = some (idxFun sz ag).er) {L : List PV} (hL : Els sz ag L) {g : FuncId} {v w : PV} (hv : Pure v) (hw : Pure w)
    (hno : ∀ x ∈ L, ACalls Pg g [x, .pt KB [] 0, .pt (KB + 1) [] 0] [Blk.box v, .box w] (fun r fp => r = .bl false ∧ fp = [Blk.box v, .box w])) :
    ACalls Pg f [.sl sz L false, .fn (.func g) [] [.pt KB [] 0, .pt (KB + 1) [] 0]] [Blk.box v, .box w] (fun r fp => r = .bl false ∧ fp = [Blk.box v, .box w]) := by
  refine ACalls.intro hf (by simp [conFun]) ?_
  have hpl : PureL L := PureL.mk' fun x hx => (hL.el x hx).2.1
  have hwl : wkL L = L := hL.wk
  simp [conFun, argEnv, fpBx]
  refine callS.gen [KB, KB + 1] [] [Blk.box v, .box w] (idx_no3 ht hL hv hw hno) (by simp [getAll]) (by simp) (by simp) (by simp [refsOkL, refsOk, inKs, idx, hpl.refs]) (by simp [refsOkB, refsOk, refsOkL, inKs, idx, hv.refs, hw.refs]) (by simp [renL, ren, ren1, idx, hpl.ren, hwl]) (by simp [renB, ren, renL, ren1, idx, hv.ren, hw.ren]) (by simp [refsOkB, refsOk, refsOkL, inFp, hv.refs, hw.refs]) ?_
  simp [putAll, renB, ren, renL, ren2, hv.ren, hw.ren]
  refine RetS.with [] [KB, KB + 1] ?_
  simp [refsOkB, refsOk, refsOkL, renB, ren, renL, inFp, hv.refs, hw.refs, hv.ren, hw.ren]
theorem els_timers {l : List Tmr} (h : l.length ≤ 1048576) : Els 34 true (l.map encT) := by
  refine ⟨by simpa using h, fun x hx => ?_⟩
  obtain ⟨p, _, rfl⟩ := List.mem_map.1 hx
  exact ⟨⟨rfl, rfl⟩, by simp, by simp, fun K => by simp⟩
theorem of_no {t : Tmr} {k : Key} {n : Int} (h : ¬ (t.peer = k ∧ t.kind = n)) : ARet Pg I.wheel_timer_of [.st 34 [encT t], encK k, .int .i64 n] (.bl false) := by
  refine ACalls.intro T.wheel_timer_of (by simp [F.wheel_timer_of]) ?_
  by_cases h1 : t.peer = k
  · have h2 : ¬ t.kind = n := fun e => h ⟨h1, e⟩
    simp [F.wheel_timer_of, argEnv, fpBx, beq_K, h1, h2, widths]
    refine RetS.plain [] ?_
    simp
  · simp [F.wheel_timer_of, argEnv, fpBx, beq_K, h1, widths]
    refine RetS.plain [] ?_
    simp
theorem has1_no {t : Tmr} {k : Key} {n : Int} (h : ¬ (t.peer = k ∧ t.kind = n)) : ACalls Pg I.wheel_Has_1 [encT t, .pt KB [] 0, .pt (KB + 1) [] 0] [.box (encK k), .box (.int .i64 n)] (fun r fp => r = .bl false ∧ fp = [.box (encK k), .box (.int .i64 n)]) := by
  refine ACalls.intro T.wheel_Has_1 (by simp [F.wheel_Has_1]) ?_
  simp [F.wheel_Has_1, argEnv, fpBx, widths]
  refine callS.ret (of_no h) (by simp) (by simp) (by simp) ?_
  simp
  refine RetS.with [] [KB, KB + 1] ?_
  simp [refsOkB, refsOk, refsOkL, renB, ren, renL, inFp]
theorem iHas_no {l : List Tmr} (hl : l.length ≤ 1000) {k : Key} {n : Int} (h : ∀ t ∈ l, ¬ (t.peer = k ∧ t.kind = n)) : ARet Pg I.wheel_Has [.sl 34 (l.map encT) false, encK k, .int .i64 n] (.bl false) := by
  refine ACalls.intro T.wheel_Has (by simp [F.wheel_Has]) ?_
  have hc := con_no3 (f := I.slices_ContainsFunc_api_Timer_api_Timer) (ix := I.slices_IndexFunc_api_Timer_api_Timer) T.slices_ContainsFunc_api_Timer_api_Timer T.slices_IndexFunc_api_Timer_api_Timer (els_timers (l := l) (by omega)) (g := I.wheel_Has_1) (v := encK k) (w := .int .i64 n) (by simp) (by simp) (fun x hx => by
    obtain ⟨t, ht, rfl⟩ := List.mem_map.1 hx
    exact has1_no (h t ht))
  simp [F.wheel_Has, argEnv, fpBx]
  refine callS.gen [4, 5] [] [.box (encK k), .box (.int .i64 n)] hc (by simp [getAll]) (by simp) (by simp) (by simp [refsOkL, refsOk, inKs, idx, (pureL_map pure_encT l).refs]) (by simp [refsOkB, refsOk]) (by simp [renL, ren, ren1, idx, (pureL_map pure_encT l).ren]) (by simp [renB, ren]) (by simp [refsOkB, refsOk]) ?_
  simp [putAll, renB, ren, ren2]
  refine RetS.plain [] ?_
  simp
theorem cmpK_lt {i j : Nat} (h : i < j) (hj : j < 3) : cmpB (kOf i).l (kOf j).l = -1 := by
  rcases (by omega : i = 0 ∧ j = 1 ∨ i = 0 ∧ j = 2 ∨ i = 1 ∧ j = 2) with ⟨rfl, rfl⟩ | ⟨rfl, rfl⟩ | ⟨rfl, rfl⟩ <;> decide +kernel
theorem cmpK_eq {i : Nat} (h : i < 3) : cmpB (kOf i).l (kOf i).l = 0 := by
  rcases (by omega : i = 0 ∨ i = 1 ∨ i = 2) with rfl | rfl | rfl <;> decide +kernel
set_option maxRecDepth 10000 in
theorem before_t {a b : Tmr} {i j : Nat} (hi : i < 3) (hj : j < 3) (ha : a.peer = kOf i) (hb : b.peer = kOf j) (h : lessT a b = true) : ARet Pg I.wheel_timer_before [.st 34 [encT a], .st 34 [encT b]] (.bl true) := by
  refine ACalls.intro T.wheel_timer_before (by simp [F.wheel_timer_before]) ?_
  have g1 : getP (.st 34 [encT a]) [.f 0 0, .f 1 1] = some (.ar 1 32 ((kOf i).l.map u8)) := by simp [widths, ha, encK]
  have g2 : getP (.st 34 [encT b]) [.f 0 0, .f 1 1] = some (.ar 1 32 ((kOf j).l.map u8)) := by simp [widths, hb, encK]
  have hv := viewCmp g1 g2 (kOf i).h (kOf j).h
  have p1 : Pure (.st 34 [encT a]) := by simp
  have p2 : Pure (.st 34 [encT b]) := by simp
  by_cases h1 : a.at_ = b.at_
  · have h2 := (lessT_iff hi hj ha hb).1 h
    simp [F.wheel_timer_before, argEnv, fpBx, widths, h1]
    refine callS.gen [2, 3] [] [.box (.st 34 [encT a]), .box (.st 34 [encT b])] hv (by simp [getAll]) (by simp) (by simp) (by simp [refsOkL, refsOk, inKs, idx]) (by simp [refsOkB, p1.refs, p2.refs]) (by simp [renL, ren, ren1, idx]) (by simp [renB, p1.ren, p2.ren]) (by simp [refsOkB, refsOk, p1.refs, p2.refs]) ?_
    simp [putAll, renB, ren, ren2, p1.ren, p2.ren]
    rcases h2 with h2 | ⟨_, h2 | ⟨h2, h3⟩⟩
    · omega
    · rw [cmpK_lt h2 hj]
      simp
      refine RetS.plain [] ?_
      simp
    · subst h2
      rw [cmpK_eq hi]
      simp [h3, widths]
      refine RetS.plain [] ?_
      simp
  · have h2 := (lessT_iff hi hj ha hb).1 h
    have h3 : a.at_ < b.at_ := by rcases h2 with h2 | ⟨h2, _⟩ <;> omega
    simp [F.wheel_timer_before, argEnv, fpBx, widths, h1, h3]
    refine RetS.plain [] ?_
    simp
theorem wless_t {a b : Tmr} {i j : Nat} (hi : i < 3) (hj : j < 3) (ha : a.peer = kOf i) (hb : b.peer = kOf j) (h : lessT a b = true) : ARet Pg I.wheel_Less [encT a, encT b] (.bl true) := by
  refine ACalls.intro T.wheel_Less (by simp [F.wheel_Less]) ?_
  simp [F.wheel_Less, argEnv, fpBx, widths]
  refine callS.ret (before_t hi hj ha hb h) (by simp) (by simp) (by simp) ?_
  simp
  refine RetS.plain [] ?_
  simp
end Go.Ab
namespace Go.Ab
open Go.Ab
set_option maxRecDepth 10000 in
set_option maxHeartbeats 1000000 in
theorem wheelValid_t {l : List Tmr} (hl : l.length ≤ 1000) (hso : ∀ (i : Nat) (h : i + 1 < l.length), lessT l[i] l[i + 1] = true)
    (hrg : ∀ t ∈ l, 2 ≤ t.kind ∧ t.kind ≤ 5 ∧ 0 ≤ t.at_ ∧ t.at_ ≤ 4398046511104) (hpk : ∀ t ∈ l, ∃ i, i < 3 ∧ t.peer = kOf i)
    (hun : ∀ (i j : Nat) (hi : i < l.length) (hj : j < l.length), i < j → ¬ (l[j].peer = l[i].peer ∧ l[j].kind = l[i].kind)) : ARet Pg I.wheel_Valid [encTs l] (.bl true) := by
  refine ACalls.intro T.wheel_Valid (by simp [F.wheel_Valid]) ?_
  simp [F.wheel_Valid, argEnv, fpBx]
  refine LpS.rng l.length (fun _ => True) [0, 2, 5, 6, 7] (fun i => [(7, .int .i64 i)]) (fun i => []) [.keep [0, 2, 5, 6, 7]] ?_
  simp
  refine ⟨fun i hi K hK => ?_, fun K => ?_⟩
  · have hx : l[i]? = some l[i] := List.getElem?_eq_getElem hi
    obtain ⟨r1, r2, r3, r4⟩ := hrg _ (List.getElem_mem hi)
    have g1 : ¬ l[i].kind < 1 := by omega
    have g2 : ¬ 5 < l[i].kind := by omega
    have g3 : ¬ l[i].at_ < 0 := by omega
    have g4 : ¬ 4398046511104 < l[i].at_ := by omega
    have hno := iHas_no (l := l.take i) (by rw [List.length_take]; omega) (k := l[i].peer) (n := l[i].kind) (by
      intro t ht
      obtain ⟨m, hm, rfl⟩ := List.mem_iff_getElem.1 ht
      rw [List.length_take] at hm
      rw [List.getElem_take]
      have := hun m i (by omega) hi (by omega)
      intro h; exact this ⟨h.1.symm, h.2.symm⟩)
    by_cases hz : i = 0
    · subst hz
      simp at hno
      simp [F.wheel_Validl0, hx, hi, g1, g2, g3, g4, encTs]
      refine callT.ret hno (by simp) (by simp) (by simp) ?_
      simp
      refine ⟨[.keep [0, 2, 5, 6, 7], .dr 4], ?_⟩
      simp
      exact hK _ (by simp [encTs])
    · obtain ⟨j, hji⟩ : ∃ j, i = j + 1 := ⟨i - 1, by omega⟩
      have hj : j < l.length := by omega
      have hy : l[j]? = some l[j] := List.getElem?_eq_getElem hj
      have hlt : lessT l[j] l[i] = true := by subst hji; exact hso j hi
      have hw : IntKind.i64.wrap ((i : Int) - 1) = j := by rw [wrap_i64 (by omega)]; omega
      obtain ⟨a, ha, ea⟩ := hpk _ (List.getElem_mem hj)
      obtain ⟨b, hb, eb⟩ := hpk _ (List.getElem_mem hi)
      have hlc := wless_t ha hb ea eb hlt
      simp [F.wheel_Validl0, hx, hy, hi, hj, g1, g2, g3, g4, hw, show 0 < i by omega]
      refine callT.ret hlc (by simp) (by simp) (by simp) ?_
      simp [encTs, show i ≤ l.length by omega]
      refine callT.ret hno (by simp) (by simp) (by simp) ?_
      simp [wrapi hi (by omega)]
      refine ⟨[.keep [0, 2, 5, 6, 7], .dr 4], ?_⟩
      simp
      exact hK _ (by simp [encTs])
  · simp [F.wheel_Validl0, F.wheel_Validc1]
    refine RetS.plain [] ?_
    simp
set_option maxRecDepth 10000 in
theorem itimers1_t {d : Dmn} (h : PksOk d.peers) {t : Tmr} {i : Nat} (hi : i < d.peers.length) (hr : t.peer = kOf i) (ha : d.now < t.at_) : ACalls Pg I.rules_timers_1 [encT t, .pt KB [] 0] [.box (encD d)] (fun r fp => r = .bl false ∧ fp = [.box (encD d)]) := by
  refine ACalls.intro T.rules_timers_1 (by simp [F.rules_timers_1]) ?_
  have hn : ¬ t.at_ ≤ d.now := by omega
  simp [F.rules_timers_1, argEnv, fpBx, hr, hn]
  refine callS.ret (known_t h hi) (by simp) (by simp) (by simp) ?_
  simp
  refine RetS.with [] [KB] ?_
  simp [refsOkB, (pure_encD d).refs, renB, (pure_encD d).ren]
set_option maxRecDepth 10000 in
theorem itimers2_t {d : Dmn} (h : VD d) {p : Per} (hp : p ∈ d.peers) : ACalls Pg I.rules_timers_2 [encPe p, .pt KB [] 0] [.box (encD d)] (fun r fp => r = .bl true ∧ fp = [.box (encD d)]) := by
  refine ACalls.intro T.rules_timers_2 (by simp [F.rules_timers_2]) ?_
  have hl := h.pks.1
  have hh := (h.per p hp).hand
  have h2 : zHnd.has = false := rfl
  have hno1 := iHas_no (l := d.timers) h.tis.len (k := p.pub) (n := 1) (fun t ht => by
    have := (h.tis.rg t ht).1
    intro e; omega)
  obtain ⟨a, ha, rfl⟩ := List.mem_iff_getElem.1 hp
  by_cases hk : d.peers[a].kal = 0
  · have hno4 := iHas_no (l := d.timers) h.tis.len (k := d.peers[a].pub) (n := 4) (fun t ht => by
      obtain ⟨_, _, _, _, i, hi, e1, e2⟩ := h.tis.rg t ht
      rintro ⟨e3, e4⟩
      rw [e1, h.pks.2 a ha] at e3
      have := kOf_inj (by omega) (by omega) e3
      subst this
      exact e2 e4 hk)
    simp [F.rules_timers_2, argEnv, fpBx, hh, h2, hk, encTs]
    refine callT.ret hno1 (by simp) (by simp) (by simp) ?_
    simp [hh, h2, hk, encTs]
    refine callT.ret hno4 (by simp) (by simp) (by simp) ?_
    simp
    refine RetS.with [] [KB] ?_
    simp [refsOkB, (pure_encD d).refs, renB, (pure_encD d).ren]
  · simp [F.rules_timers_2, argEnv, fpBx, hh, h2, hk, encTs]
    refine callT.ret hno1 (by simp) (by simp) (by simp) ?_
    simp [hh, h2, hk, encTs]
    refine RetS.with [] [KB] ?_
    simp [refsOkB, (pure_encD d).refs, renB, (pure_encD d).ren]
set_option maxRecDepth 10000 in
theorem itimers_t {d : Dmn} (h : VD d) : ARet Pg I.rules_timers [encD d] (.bl true) := by
  refine ACalls.intro T.rules_timers (by simp [F.rules_timers]) ?_
  have hl := h.pks.1
  have hn := h.n0
  have hv := wheelValid_t h.tis.len h.tis.so (fun t ht => by
    obtain ⟨a, b, c, e, _⟩ := h.tis.rg t ht
    exact ⟨a, b, by omega, e⟩) (fun t ht => by
    obtain ⟨_, _, _, _, i, hi, e, _⟩ := h.tis.rg t ht
    exact ⟨i, by omega, e⟩) h.tis.un
  have htl := h.tis.len
  have hc := con_no (f := I.slices_ContainsFunc_api_Timer_api_Timer) (ix := I.slices_IndexFunc_api_Timer_api_Timer) T.slices_ContainsFunc_api_Timer_api_Timer T.slices_IndexFunc_api_Timer_api_Timer (els_timers (l := d.timers) (by omega)) (g := I.rules_timers_1) (v := encD d) (by simp) (fun x hx => by
    obtain ⟨t, ht, rfl⟩ := List.mem_map.1 hx
    obtain ⟨_, _, c, _, i, hi, e, _⟩ := h.tis.rg t ht
    exact itimers1_t h.pks hi e c)
  simp [F.rules_timers, argEnv, fpBx]
  refine callS.ret hv (by simp) (by simp) (by simp) ?_
  simp
  refine callS.gen [1] [] [.box (encD d)] hc (by simp [getAll]) (by simp) (by simp) (by simp [refsOkL, refsOk, inKs, idx, encTs, (pureL_map pure_encT d.timers).refs]) (by simp [refsOkB, (pure_encD d).refs]) (by simp [renL, ren, ren1, idx, encTs, (pureL_map pure_encT d.timers).ren]) (by simp [renB, (pure_encD d).ren]) (by simp [refsOkB, refsOk, (pure_encD d).refs]) ?_
  simp [putAll, renB, ren, ren2, (pure_encD d).ren]
  refine callS.gen [1] [] [.box (encD d)] (every_t (d := d) (h := I.rules_timers_2) (by omega) (fun p hp => itimers2_t h hp)) (by simp [getAll]) (by simp) (by simp) (by simp [refsOkL, refsOk, inKs, idx, (pure_encD d).refs]) (by simp [refsOkB, (pure_encD d).refs]) (by simp [renL, ren, ren1, idx, (pure_encD d).ren]) (by simp [renB, (pure_encD d).ren]) (by simp [refsOkB, refsOk, (pure_encD d).refs]) ?_
  simp [putAll, renB, ren, ren2, (pure_encD d).ren]
  refine RetS.plain [] ?_
  simp
end Go.Ab
namespace Go.Ab
open Go.Ab
def allF : List FuncId := [I.rules_numbers, I.rules_peers, I.rules_fields, I.rules_hands, I.rules_sessions, I.rules_routing, I.rules_slots, I.rules_timers, I.rules_load]
def fnV (f : FuncId) : PV := .fn (.func f) [] []
@[simp] theorem pure_fnV (f : FuncId) : Pure (fnV f) := by simp [fnV]
@[simp] theorem wk_fnV (f : FuncId) : wk (fnV f) = fnV f := by simp [fnV]
def encFs (l : List FuncId) : PV := .sl 1 (l.map fnV) false
@[simp] theorem pure_encFs (l : List FuncId) : Pure (encFs l) := by simp [encFs]
theorem rules_All : ARet Pg I.rules_All [] (encFs allF) := by
  refine ACalls.intro T.rules_All (by simp [F.rules_All]) ?_
  simp [F.rules_All, argEnv, fpBx, show PV.nf.width = 1 from rfl]
  refine RetS.plain [.wk 0] ?_
  simp [encFs, allF, fnV]
theorem allF_t {d : Dmn} (h : VD d) (hb : Bd d) : ∀ f ∈ allF, ARet Pg f [encD d] (.bl true) := by
  intro f hf
  simp only [allF, List.mem_cons, List.not_mem_nil, or_false] at hf
  rcases hf with rfl | rfl | rfl | rfl | rfl | rfl | rfl | rfl | rfl
  · exact inumbers_t h
  · exact ipeers_t h
  · exact ifields_t h
  · exact ihands_t h
  · exact isessions_t h
  · exact irouting_t h
  · exact islots_t h hb
  · exact itimers_t h
  · exact iload_t h
set_option maxRecDepth 10000 in
theorem iCheck_t {d : Dmn} (h : VD d) (hb : Bd d) : ARet Pg I.rules_Check [encD d] (.int .i64 0) := by
  refine ACalls.intro T.rules_Check (by simp [F.rules_Check]) ?_
  have hall := allF_t h hb
  have hlen : allF.length = 9 := rfl
  simp [F.rules_Check, argEnv, fpBx]
  refine callS.ret rules_All (by simp) (by simp) (by simp) ?_
  generalize allF = L at *
  simp [encFs]
  refine LpS.rng L.length (fun _ => True) [1, 2, 5, 6, 7] (fun i => [(7, .int .i64 i)]) (fun i => []) [.keep [1, 2, 5, 6, 7]] ?_
  simp
  refine ⟨fun i hi K hK => ?_, fun K => ?_⟩
  · have hx : L[i]? = some L[i] := List.getElem?_eq_getElem hi
    have hc := hall _ (List.getElem_mem hi)
    generalize L[i] = f at *
    simp [F.rules_Checkl0, hx, hi, wrapi hi (by omega), fnV, -getElem?_pos]
    refine callS.ret hc (by simp) (by simp) (by simp) ?_
    simp [wrapi hi (by omega)]
    refine ⟨[.keep [1, 2, 5, 6, 7]], ?_⟩
    simp
    exact hK _ (by simp [fnV])
  · simp [F.rules_Checkl0, F.rules_Checkc1]
    refine RetS.plain [] ?_
    simp
theorem iValid_t {d : Dmn} (h : VD d) (hb : Bd d) : ARet Pg I.daemon_Valid [encD d] (.bl true) := by
  refine ACalls.intro T.daemon_Valid (by simp [F.daemon_Valid]) ?_
  simp [F.daemon_Valid, argEnv, fpBx]
  refine callS.ret (iCheck_t h hb) (by simp) (by simp) (by simp) ?_
  simp
  refine RetS.plain [] ?_
  simp
end Go.Ab
