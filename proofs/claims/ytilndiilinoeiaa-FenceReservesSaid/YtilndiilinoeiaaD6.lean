/- Changes of a daemon by the document: burrowref29. Conditions: lengths up to 2^20, counters of 64 bits. -/
import Derived.Test.YtilndiilinoeiaaD5
set_option linter.all false
namespace Go.Ab
open Go.Ab

theorem lik_getE {φ : Ses → Ses} {l : List Per} {i k : Nat} (h : i < l.length) (h' : i < (lik φ l i k).length) : (lik φ l i k)[i] = pk φ k l[i] := by
  have := lik_get (φ := φ) (k := k) h
  rw [List.getElem?_eq_getElem h'] at this
  simpa using this

set_option maxRecDepth 10000 in
set_option maxHeartbeats 8000000 in
theorem burrowref29_changed1 {d : Dmn} (h : Nice d) {n : Int} (hn : U64 n) : ARet Pg I.burrowref29_changed [encD d, .int .i64 1, .int .u64 n] (encD (all_ (low n d.rules.rejm) d)) := by
  refine ACalls.intro T.burrowref29_changed (by simp [F.burrowref29_changed]) ?_
  have hp := h.peers
  simp [F.burrowref29_changed, argEnv, fpBx]
  refine callS.gen [] [12] [] (burrowref24_Copy h.toSml) (by simp [getAll]) (by simp) (by simp) (by simp [refsOkL]) (by simp) (by simp [renL]) (by simp) (by simp [refsOkB, refsOk, inFp]) ?_
  simp [putAll, renB, ren, ren2]
  refine LpS.rng d.peers.length (fun _ => True) [1, 2, 3, 6, 15, 16] (fun i => [(16, .int .i64 i)]) (fun i => [(12, .arr 464 ((lik (low n d.rules.rejm) d.peers i 0).map encPe))]) [.keep [1, 2, 3, 6, 15, 16]] ?_
  simp [lik_zero]
  refine ⟨fun i hi K hK => ?_, fun K => ?_⟩
  · have hg := fun m => lik_get (φ := low n d.rules.rejm) (k := m) hi
    have hrg := h.ring _ (List.getElem_mem hi)
    have hge := fun m h' => lik_getE (φ := low n d.rules.rejm) (k := m) hi h'
    simp [F.burrowref29_changedl2, hi]
    refine LpS.rng 3 (fun _ => True) [1, 2, 3, 6, 7, 8, 15, 16] (fun k => [(8, .int .i64 ((k : Int) + 1))]) (fun k => [(12, .arr 464 ((lik (low n d.rules.rejm) d.peers i k).map encPe))]) [] ?_
    simp
    refine ⟨fun k hk K2 hK2 => ?_, fun K2 => ?_⟩
    · rcases (by omega : k = 0 ∨ k = 1 ∨ k = 2) with rfl | rfl | rfl
      · simp [F.burrowref29_changedl0, hi, hge]
        refine callS.ret (burrowref22_Get (pk (low n d.rules.rejm) 0 d.peers[i]).ring (k := 1) (by omega)) (by simp) (by simp) (by simp) ?_
        have hgr : getR (pk (low n d.rules.rejm) 0 d.peers[i]).ring 1 = d.peers[i].ring.p := by simp [getR, pk]
        rw [hgr]
        by_cases hh : d.peers[i].ring.p.has = true
        · simp [hh, hge, hi]
          refine callS.ret (burrowref29_Edge (r := d.rules) hrg.1 hn) (by simp) (by simp) (by simp) ?_
          simp [hge, hi]
          refine callT.ret (burrowref22_Put (pk (low n d.rules.rejm) 0 d.peers[i]).ring (low n d.rules.rejm d.peers[i].ring.p.ses) (k := 1) (by omega)) (by simp [low]) (by simp) (by simp) ?_
          simp [hge, hi]
          refine ⟨[.keep [1, 2, 3, 6, 7, 8, 15, 16], .dr 9, .dr 10], ?_⟩
          simp [refsEnv, refsBx, refsOk, refsOkB]
          refine hK2 _ ?_
          simp
          exact set_step hi (by simp [pk, putR, pl, hh])
        · simp [hh]
          refine ⟨[.keep [1, 2, 3, 6, 7, 8, 15, 16], .dr 9], ?_⟩
          simp [refsEnv, refsBx, refsOk, refsOkB]
          rw [lik_skip (k := 1) (m := 0) hi (by simp [pk, pl, hh])] at hK2
          exact hK2 _ (by simp)
      · simp [F.burrowref29_changedl0, hi, hge]
        refine callS.ret (burrowref22_Get (pk (low n d.rules.rejm) 1 d.peers[i]).ring (k := 2) (by omega)) (by simp) (by simp) (by simp) ?_
        have hgr : getR (pk (low n d.rules.rejm) 1 d.peers[i]).ring 2 = d.peers[i].ring.c := by simp [getR, pk]
        rw [hgr]
        by_cases hh : d.peers[i].ring.c.has = true
        · simp [hh, hge, hi]
          refine callS.ret (burrowref29_Edge (r := d.rules) hrg.2.1 hn) (by simp) (by simp) (by simp) ?_
          simp [hge, hi]
          refine callT.ret (burrowref22_Put (pk (low n d.rules.rejm) 1 d.peers[i]).ring (low n d.rules.rejm d.peers[i].ring.c.ses) (k := 2) (by omega)) (by simp [low]) (by simp) (by simp) ?_
          simp [hge, hi]
          refine ⟨[.keep [1, 2, 3, 6, 7, 8, 15, 16], .dr 9, .dr 10], ?_⟩
          simp [refsEnv, refsBx, refsOk, refsOkB]
          refine hK2 _ ?_
          simp
          exact set_step hi (by simp [pk, putR, pl, hh])
        · simp [hh]
          refine ⟨[.keep [1, 2, 3, 6, 7, 8, 15, 16], .dr 9], ?_⟩
          simp [refsEnv, refsBx, refsOk, refsOkB]
          rw [lik_skip (k := 2) (m := 1) hi (by simp [pk, pl, hh])] at hK2
          exact hK2 _ (by simp)
      · simp [F.burrowref29_changedl0, hi, hge]
        refine callS.ret (burrowref22_Get (pk (low n d.rules.rejm) 2 d.peers[i]).ring (k := 3) (by omega)) (by simp) (by simp) (by simp) ?_
        have hgr : getR (pk (low n d.rules.rejm) 2 d.peers[i]).ring 3 = d.peers[i].ring.n := by simp [getR, pk]
        rw [hgr]
        by_cases hh : d.peers[i].ring.n.has = true
        · simp [hh, hge, hi]
          refine callS.ret (burrowref29_Edge (r := d.rules) hrg.2.2 hn) (by simp) (by simp) (by simp) ?_
          simp [hge, hi]
          refine callT.ret (burrowref22_Put (pk (low n d.rules.rejm) 2 d.peers[i]).ring (low n d.rules.rejm d.peers[i].ring.n.ses) (k := 3) (by omega)) (by simp [low]) (by simp) (by simp) ?_
          simp [hge, hi]
          refine ⟨[.keep [1, 2, 3, 6, 7, 8, 15, 16], .dr 9, .dr 10], ?_⟩
          simp [refsEnv, refsBx, refsOk, refsOkB]
          refine hK2 _ ?_
          simp
          exact set_step hi (by simp [pk, putR, pl, hh])
        · simp [hh]
          refine ⟨[.keep [1, 2, 3, 6, 7, 8, 15, 16], .dr 9], ?_⟩
          simp [refsEnv, refsBx, refsOk, refsOkB]
          rw [lik_skip (k := 3) (m := 2) hi (by simp [pk, pl, hh])] at hK2
          exact hK2 _ (by simp)
    · simp (disch := omega) [F.burrowref29_changedl0, F.burrowref29_changedc1]
      refine ⟨[.keep [1, 2, 3, 6, 15, 16]], ?_⟩
      simp
      rw [← lik_next] at hK
      exact hK _ (by simp)
  · simp [F.burrowref29_changedl2, F.burrowref29_changedc3]
    refine RetS.plain [.keep [6], .dr 3, .fz 12] ?_
    simp [refsEnv, refsBx, refsOk, refsOkB, lik_end]
    rw [encD_all, List.map_map]

set_option maxRecDepth 10000 in
set_option maxHeartbeats 8000000 in
theorem burrowref29_changed2 {d : Dmn} (h : Nice d) {n : Int} (hn : U64 n) : ARet Pg I.burrowref29_changed [encD d, .int .i64 2, .int .u64 n] (encD (all_ (rise n d.rules.rejm) d)) := by
  refine ACalls.intro T.burrowref29_changed (by simp [F.burrowref29_changed]) ?_
  have hp := h.peers
  simp [F.burrowref29_changed, argEnv, fpBx]
  refine callS.gen [] [12] [] (burrowref24_Copy h.toSml) (by simp [getAll]) (by simp) (by simp) (by simp [refsOkL]) (by simp) (by simp [renL]) (by simp) (by simp [refsOkB, refsOk, inFp]) ?_
  simp [putAll, renB, ren, ren2]
  refine LpS.rng d.peers.length (fun _ => True) [1, 2, 3, 6, 15, 16] (fun i => [(16, .int .i64 i)]) (fun i => [(12, .arr 464 ((lik (rise n d.rules.rejm) d.peers i 0).map encPe))]) [.keep [1, 2, 3, 6, 15, 16]] ?_
  simp [lik_zero]
  refine ⟨fun i hi K hK => ?_, fun K => ?_⟩
  · have hg := fun m => lik_get (φ := rise n d.rules.rejm) (k := m) hi
    have hrg := h.ring _ (List.getElem_mem hi)
    have hge := fun m h' => lik_getE (φ := rise n d.rules.rejm) (k := m) hi h'
    simp [F.burrowref29_changedl2, hi]
    refine LpS.rng 3 (fun _ => True) [1, 2, 3, 6, 7, 8, 15, 16] (fun k => [(8, .int .i64 ((k : Int) + 1))]) (fun k => [(12, .arr 464 ((lik (rise n d.rules.rejm) d.peers i k).map encPe))]) [] ?_
    simp
    refine ⟨fun k hk K2 hK2 => ?_, fun K2 => ?_⟩
    · rcases (by omega : k = 0 ∨ k = 1 ∨ k = 2) with rfl | rfl | rfl
      · simp [F.burrowref29_changedl0, hi, hge]
        refine callS.ret (burrowref22_Get (pk (rise n d.rules.rejm) 0 d.peers[i]).ring (k := 1) (by omega)) (by simp) (by simp) (by simp) ?_
        have hgr : getR (pk (rise n d.rules.rejm) 0 d.peers[i]).ring 1 = d.peers[i].ring.p := by simp [getR, pk]
        rw [hgr]
        by_cases hh : d.peers[i].ring.p.has = true
        · simp [hh, hge, hi]
          refine DrS.run [10] rfl ?_
          simp
          refine callT.ret (burrowref29_Edge (r := d.rules) hrg.1 hn) (by simp) (by simp) (by simp) ?_
          simp [hge, hi]
          refine callT.ret (burrowref22_Put (pk (rise n d.rules.rejm) 0 d.peers[i]).ring (rise n d.rules.rejm d.peers[i].ring.p.ses) (k := 1) (by omega)) (by simp [rise]) (by simp) (by simp) ?_
          simp [hge, hi]
          refine ⟨[.keep [1, 2, 3, 6, 7, 8, 15, 16], .dr 9, .dr 10], ?_⟩
          simp [refsEnv, refsBx, refsOk, refsOkB]
          refine hK2 _ ?_
          simp
          exact set_step hi (by simp [pk, putR, pl, hh])
        · simp [hh]
          refine ⟨[.keep [1, 2, 3, 6, 7, 8, 15, 16], .dr 9], ?_⟩
          simp [refsEnv, refsBx, refsOk, refsOkB]
          rw [lik_skip (k := 1) (m := 0) hi (by simp [pk, pl, hh])] at hK2
          exact hK2 _ (by simp)
      · simp [F.burrowref29_changedl0, hi, hge]
        refine callS.ret (burrowref22_Get (pk (rise n d.rules.rejm) 1 d.peers[i]).ring (k := 2) (by omega)) (by simp) (by simp) (by simp) ?_
        have hgr : getR (pk (rise n d.rules.rejm) 1 d.peers[i]).ring 2 = d.peers[i].ring.c := by simp [getR, pk]
        rw [hgr]
        by_cases hh : d.peers[i].ring.c.has = true
        · simp [hh, hge, hi]
          refine DrS.run [10] rfl ?_
          simp
          refine callT.ret (burrowref29_Edge (r := d.rules) hrg.2.1 hn) (by simp) (by simp) (by simp) ?_
          simp [hge, hi]
          refine callT.ret (burrowref22_Put (pk (rise n d.rules.rejm) 1 d.peers[i]).ring (rise n d.rules.rejm d.peers[i].ring.c.ses) (k := 2) (by omega)) (by simp [rise]) (by simp) (by simp) ?_
          simp [hge, hi]
          refine ⟨[.keep [1, 2, 3, 6, 7, 8, 15, 16], .dr 9, .dr 10], ?_⟩
          simp [refsEnv, refsBx, refsOk, refsOkB]
          refine hK2 _ ?_
          simp
          exact set_step hi (by simp [pk, putR, pl, hh])
        · simp [hh]
          refine ⟨[.keep [1, 2, 3, 6, 7, 8, 15, 16], .dr 9], ?_⟩
          simp [refsEnv, refsBx, refsOk, refsOkB]
          rw [lik_skip (k := 2) (m := 1) hi (by simp [pk, pl, hh])] at hK2
          exact hK2 _ (by simp)
      · simp [F.burrowref29_changedl0, hi, hge]
        refine callS.ret (burrowref22_Get (pk (rise n d.rules.rejm) 2 d.peers[i]).ring (k := 3) (by omega)) (by simp) (by simp) (by simp) ?_
        have hgr : getR (pk (rise n d.rules.rejm) 2 d.peers[i]).ring 3 = d.peers[i].ring.n := by simp [getR, pk]
        rw [hgr]
        by_cases hh : d.peers[i].ring.n.has = true
        · simp [hh, hge, hi]
          refine DrS.run [10] rfl ?_
          simp
          refine callT.ret (burrowref29_Edge (r := d.rules) hrg.2.2 hn) (by simp) (by simp) (by simp) ?_
          simp [hge, hi]
          refine callT.ret (burrowref22_Put (pk (rise n d.rules.rejm) 2 d.peers[i]).ring (rise n d.rules.rejm d.peers[i].ring.n.ses) (k := 3) (by omega)) (by simp [rise]) (by simp) (by simp) ?_
          simp [hge, hi]
          refine ⟨[.keep [1, 2, 3, 6, 7, 8, 15, 16], .dr 9, .dr 10], ?_⟩
          simp [refsEnv, refsBx, refsOk, refsOkB]
          refine hK2 _ ?_
          simp
          exact set_step hi (by simp [pk, putR, pl, hh])
        · simp [hh]
          refine ⟨[.keep [1, 2, 3, 6, 7, 8, 15, 16], .dr 9], ?_⟩
          simp [refsEnv, refsBx, refsOk, refsOkB]
          rw [lik_skip (k := 3) (m := 2) hi (by simp [pk, pl, hh])] at hK2
          exact hK2 _ (by simp)
    · simp (disch := omega) [F.burrowref29_changedl0, F.burrowref29_changedc1]
      refine ⟨[.keep [1, 2, 3, 6, 15, 16]], ?_⟩
      simp
      rw [← lik_next] at hK
      exact hK _ (by simp)
  · simp [F.burrowref29_changedl2, F.burrowref29_changedc3]
    refine RetS.plain [.keep [6], .dr 3, .fz 12] ?_
    simp [refsEnv, refsBx, refsOk, refsOkB, lik_end]
    rw [encD_all, List.map_map]

set_option maxRecDepth 10000 in
set_option maxHeartbeats 8000000 in
theorem burrowref29_changed3 {d : Dmn} (h : Nice d) {n : Int} (hn : U64 n) : ARet Pg I.burrowref29_changed [encD d, .int .i64 3, .int .u64 n] (encD (all_ (lift_ d.rules.rejm) d)) := by
  refine ACalls.intro T.burrowref29_changed (by simp [F.burrowref29_changed]) ?_
  have hp := h.peers
  simp [F.burrowref29_changed, argEnv, fpBx]
  refine callS.gen [] [12] [] (burrowref24_Copy h.toSml) (by simp [getAll]) (by simp) (by simp) (by simp [refsOkL]) (by simp) (by simp [renL]) (by simp) (by simp [refsOkB, refsOk, inFp]) ?_
  simp [putAll, renB, ren, ren2]
  refine LpS.rng d.peers.length (fun _ => True) [1, 2, 3, 6, 15, 16] (fun i => [(16, .int .i64 i)]) (fun i => [(12, .arr 464 ((lik (lift_ d.rules.rejm) d.peers i 0).map encPe))]) [.keep [1, 2, 3, 6, 15, 16]] ?_
  simp [lik_zero]
  refine ⟨fun i hi K hK => ?_, fun K => ?_⟩
  · have hg := fun m => lik_get (φ := lift_ d.rules.rejm) (k := m) hi
    have hrg := h.ring _ (List.getElem_mem hi)
    have hge := fun m h' => lik_getE (φ := lift_ d.rules.rejm) (k := m) hi h'
    simp [F.burrowref29_changedl2, hi]
    refine LpS.rng 3 (fun _ => True) [1, 2, 3, 6, 7, 8, 15, 16] (fun k => [(8, .int .i64 ((k : Int) + 1))]) (fun k => [(12, .arr 464 ((lik (lift_ d.rules.rejm) d.peers i k).map encPe))]) [] ?_
    simp
    refine ⟨fun k hk K2 hK2 => ?_, fun K2 => ?_⟩
    · rcases (by omega : k = 0 ∨ k = 1 ∨ k = 2) with rfl | rfl | rfl
      · simp [F.burrowref29_changedl0, hi, hge]
        refine callS.ret (burrowref22_Get (pk (lift_ d.rules.rejm) 0 d.peers[i]).ring (k := 1) (by omega)) (by simp) (by simp) (by simp) ?_
        have hgr : getR (pk (lift_ d.rules.rejm) 0 d.peers[i]).ring 1 = d.peers[i].ring.p := by simp [getR, pk]
        rw [hgr]
        by_cases hh : d.peers[i].ring.p.has = true
        · simp [hh, hge, hi]
          refine callT.ret (burrowref22_Put (pk (lift_ d.rules.rejm) 0 d.peers[i]).ring (lift_ d.rules.rejm d.peers[i].ring.p.ses) (k := 1) (by omega)) (by simp [lift_]) (by simp) (by simp) ?_
          simp [hge, hi]
          refine ⟨[.keep [1, 2, 3, 6, 7, 8, 15, 16], .dr 9, .dr 10], ?_⟩
          simp [refsEnv, refsBx, refsOk, refsOkB]
          refine hK2 _ ?_
          simp
          exact set_step hi (by simp [pk, putR, pl, hh])
        · simp [hh]
          refine ⟨[.keep [1, 2, 3, 6, 7, 8, 15, 16], .dr 9], ?_⟩
          simp [refsEnv, refsBx, refsOk, refsOkB]
          rw [lik_skip (k := 1) (m := 0) hi (by simp [pk, pl, hh])] at hK2
          exact hK2 _ (by simp)
      · simp [F.burrowref29_changedl0, hi, hge]
        refine callS.ret (burrowref22_Get (pk (lift_ d.rules.rejm) 1 d.peers[i]).ring (k := 2) (by omega)) (by simp) (by simp) (by simp) ?_
        have hgr : getR (pk (lift_ d.rules.rejm) 1 d.peers[i]).ring 2 = d.peers[i].ring.c := by simp [getR, pk]
        rw [hgr]
        by_cases hh : d.peers[i].ring.c.has = true
        · simp [hh, hge, hi]
          refine callT.ret (burrowref22_Put (pk (lift_ d.rules.rejm) 1 d.peers[i]).ring (lift_ d.rules.rejm d.peers[i].ring.c.ses) (k := 2) (by omega)) (by simp [lift_]) (by simp) (by simp) ?_
          simp [hge, hi]
          refine ⟨[.keep [1, 2, 3, 6, 7, 8, 15, 16], .dr 9, .dr 10], ?_⟩
          simp [refsEnv, refsBx, refsOk, refsOkB]
          refine hK2 _ ?_
          simp
          exact set_step hi (by simp [pk, putR, pl, hh])
        · simp [hh]
          refine ⟨[.keep [1, 2, 3, 6, 7, 8, 15, 16], .dr 9], ?_⟩
          simp [refsEnv, refsBx, refsOk, refsOkB]
          rw [lik_skip (k := 2) (m := 1) hi (by simp [pk, pl, hh])] at hK2
          exact hK2 _ (by simp)
      · simp [F.burrowref29_changedl0, hi, hge]
        refine callS.ret (burrowref22_Get (pk (lift_ d.rules.rejm) 2 d.peers[i]).ring (k := 3) (by omega)) (by simp) (by simp) (by simp) ?_
        have hgr : getR (pk (lift_ d.rules.rejm) 2 d.peers[i]).ring 3 = d.peers[i].ring.n := by simp [getR, pk]
        rw [hgr]
        by_cases hh : d.peers[i].ring.n.has = true
        · simp [hh, hge, hi]
          refine callT.ret (burrowref22_Put (pk (lift_ d.rules.rejm) 2 d.peers[i]).ring (lift_ d.rules.rejm d.peers[i].ring.n.ses) (k := 3) (by omega)) (by simp [lift_]) (by simp) (by simp) ?_
          simp [hge, hi]
          refine ⟨[.keep [1, 2, 3, 6, 7, 8, 15, 16], .dr 9, .dr 10], ?_⟩
          simp [refsEnv, refsBx, refsOk, refsOkB]
          refine hK2 _ ?_
          simp
          exact set_step hi (by simp [pk, putR, pl, hh])
        · simp [hh]
          refine ⟨[.keep [1, 2, 3, 6, 7, 8, 15, 16], .dr 9], ?_⟩
          simp [refsEnv, refsBx, refsOk, refsOkB]
          rw [lik_skip (k := 3) (m := 2) hi (by simp [pk, pl, hh])] at hK2
          exact hK2 _ (by simp)
    · simp (disch := omega) [F.burrowref29_changedl0, F.burrowref29_changedc1]
      refine ⟨[.keep [1, 2, 3, 6, 15, 16]], ?_⟩
      simp
      rw [← lik_next] at hK
      exact hK _ (by simp)
  · simp [F.burrowref29_changedl2, F.burrowref29_changedc3]
    refine RetS.plain [.keep [6], .dr 3, .fz 12] ?_
    simp [refsEnv, refsBx, refsOk, refsOkB, lik_end]
    rw [encD_all, List.map_map]

theorem burrowref29_Reserve {d : Dmn} (h : Nice d) {n : Int} (hn : U64 n) : ARet Pg I.burrowref29_Reserve [encD d, .int .u64 n] (.tup [encD (all_ (low n d.rules.rejm) d), encD (all_ (rise n d.rules.rejm) d)]) := by
  refine ACalls.intro T.burrowref29_Reserve (by simp [F.burrowref29_Reserve]) ?_
  simp [F.burrowref29_Reserve, argEnv, fpBx]
  refine callT.ret (burrowref29_changed1 h hn) (by simp) (by simp) (by simp) ?_
  simp
  refine callT.ret (burrowref29_changed2 h hn) (by simp) (by simp) (by simp) ?_
  simp
  refine RetS.plain [] ?_
  simp
theorem burrowref29_Lift {d : Dmn} (h : Nice d) : ARet Pg I.burrowref29_Lift [encD d] (encD (all_ (lift_ d.rules.rejm) d)) := by
  refine ACalls.intro T.burrowref29_Lift (by simp [F.burrowref29_Lift]) ?_
  simp [F.burrowref29_Lift, argEnv, fpBx]
  refine callS.ret (burrowref29_changed3 h (n := 0) ⟨by omega, by omega⟩) (by simp) (by simp) (by simp) ?_
  simp
  refine RetS.plain [] ?_
  simp
end Go.Ab
