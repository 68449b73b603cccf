/- The fence of a session, of the program and of the document. Condition: the counters are of 64 bits. -/
import Derived.Test.YtilndiilinoeiaaD3
set_option linter.all false
namespace Go.Ab
open Go.Ab

def edge (next reserve rej : Int) : Int := max next (min (if next + reserve ≤ 18446744073709551615 then next + reserve else 18446744073709551615) rej)

/-- a number of 64 bits -/
def U64 (n : Int) : Prop := 0 ≤ n ∧ n ≤ 18446744073709551615

theorem fence_Edge {s : Ses} {r : Rul} {n : Int} (hs : U64 s.next) (hn : U64 n) : ARet Pg I.fence_Edge [encS s, encRu r, .int .u64 n] (.int .u64 (edge s.next n r.rejm)) := by
  obtain ⟨h1, h2⟩ := hs
  obtain ⟨h3, h4⟩ := hn
  refine ACalls.intro T.fence_Edge (by simp [F.fence_Edge]) ?_
  by_cases hc : s.next + n ≤ 18446744073709551615
  · simp (disch := omega) [F.fence_Edge, argEnv, fpBx, show n ≤ 18446744073709551615 - s.next by omega]
    refine RetS.plain [] ?_
    simp [edge, hc]
  · simp (disch := omega) [F.fence_Edge, argEnv, fpBx, show ¬ n ≤ 18446744073709551615 - s.next by omega]
    refine RetS.plain [] ?_
    simp [edge, hc]
theorem burrowref29_Edge {s : Ses} {r : Rul} {n : Int} (hs : U64 s.next) (hn : U64 n) : ARet Pg I.burrowref29_Edge [encS s, encRu r, .int .u64 n] (.int .u64 (edge s.next n r.rejm)) := by
  obtain ⟨h1, h2⟩ := hs
  obtain ⟨h3, h4⟩ := hn
  refine ACalls.intro T.burrowref29_Edge (by simp [F.burrowref29_Edge]) ?_
  by_cases hc : s.next + n ≤ 18446744073709551615
  · simp (disch := omega) [F.burrowref29_Edge, argEnv, fpBx, show ¬ s.next + n < s.next by omega]
    refine RetS.plain [] ?_
    simp [edge, hc]
  · have hw : IntKind.u64.wrap (s.next + n) = s.next + n - 18446744073709551616 := by
      simp only [IntKind.wrap, IntKind.bits, IntKind.signed]; simp; omega
    simp (disch := omega) [F.burrowref29_Edge, argEnv, fpBx, hw, show s.next + n - 18446744073709551616 < s.next by omega]
    refine RetS.plain [] ?_
    simp [edge, hc]

/-- all counters of a ring are of 64 bits -/
def RngOk (r : Rng) : Prop := U64 r.p.ses.next ∧ U64 r.c.ses.next ∧ U64 r.n.ses.next
/-- what this layer wants of a daemon -/
structure Nice (d : Dmn) : Prop extends Sml d where
  ring : ∀ p ∈ d.peers, RngOk p.ring

def low (res rej : Int) (s : Ses) : Ses := { s with fence := edge s.next res rej }
def rise (res rej : Int) (s : Ses) : Ses := { s with next := edge s.next res rej, fence := rej }
def lift_ (rej : Int) (s : Ses) : Ses := { s with fence := rej }
/-- a daemon, its sessions turned -/
def all_ (φ : Ses → Ses) (d : Dmn) : Dmn := { d with peers := d.peers.map (pk φ 3) }

theorem set_step {φ : Ses → Ses} {l : List Per} {i k m : Nat} (h : i < l.length) {x : Per} (hx : x = pk φ m l[i]) : ((lik φ l i k).map encPe).set i (encPe x) = (lik φ l i m).map encPe := by
  rw [← List.map_set, hx, lik_set h]
theorem encD_all (φ : Ses → Ses) (d : Dmn) : encD (all_ φ d) = encDo d (.sl 464 ((d.peers.map (pk φ 3)).map encPe) false) := rfl

set_option maxRecDepth 10000 in
set_option maxHeartbeats 4000000 in
theorem fence_Lift {d : Dmn} (h : Nice d) : ARet Pg I.fence_Lift [encD d] (encD (all_ (lift_ d.rules.rejm) d)) := by
  refine ACalls.intro T.fence_Lift (by simp [F.fence_Lift]) ?_
  simp [F.fence_Lift, argEnv, fpBx]
  refine callS.gen [] [5] [] (own_Daemon h.toSml) (by simp [getAll]) (by simp) (by simp) (by simp [refsOkL]) (by simp) (by simp [renL]) (by simp) (by simp [refsOkB, refsOk, inFp]) ?_
  simp [putAll, renB, ren, ren2]
  refine callS.gen [1, 5] [6] [.box (encDo d (.rs 5 [] 0 d.peers.length d.peers.length 464 .tip)), .arr 464 (d.peers.map encPe)] (fence_sessions (d := d) (l := d.peers) _ rfl) (by simp [getAll]) (by simp) (by simp) (by simp [refsOkL, refsOk, inKs, idx]) (by simp [refsOkB, refsOk, inKs, idx]) (by simp [renL, ren, ren1, idx]) (by simp [renB, ren, ren1, idx]) (by simp [refsOkB, refsOkL, refsOk, inFp]) ?_
  simp [putAll, renB, ren, renL, ren2]
  refine RgS.of [6, 1, 5] [.box (.pt 1 [] 0), .box (encDo d (.rs 5 [] 0 d.peers.length d.peers.length 464 .tip)), .arr 464 (d.peers.map encPe)] (by simp [getAll]) (by simp) (by simp [refsOkL, refsOk, inKs, idx]) (by simp [refsOkB, refsOk, inKs, idx]) (by simp [renL, ren, ren1, idx]) (by simp [renB, ren, ren1, idx]) (fence_sessions_1b (lift_ d.rules.rejm) (d := d) h.peers) ?_ (by simp [refsOkB, refsOkL, refsOk, inFp]) ?_
  · rintro args fp R1 ⟨i, hi, k, q, hq, hh, rfl, rfl, rfl⟩
    have hg := fun m => lik_get (φ := lift_ d.rules.rejm) (k := m) hi
    rcases hq with ⟨rfl, rfl⟩ | ⟨rfl, rfl⟩ | ⟨rfl, rfl⟩
    · simp [roundSt, renEnv, putsL, refsOk, inKs, idx, ren, ren1, fpBx, F.fence_Liftr0, hg, pk]
      refine RndS.of [.keep []] ?_
      simp [getAll, refsOkB, refsOk, inFp]
      exact set_step hi (by simp [pk, pl, hh, lift_])
    · simp [roundSt, renEnv, putsL, refsOk, inKs, idx, ren, ren1, fpBx, F.fence_Liftr0, hg, pk]
      refine RndS.of [.keep []] ?_
      simp [getAll, refsOkB, refsOk, inFp]
      exact set_step hi (by simp [pk, pl, hh, lift_])
    · simp [roundSt, renEnv, putsL, refsOk, inKs, idx, ren, ren1, fpBx, F.fence_Liftr0, hg, pk]
      refine RndS.of [.keep []] ?_
      simp [getAll, refsOkB, refsOk, inFp]
      exact set_step hi (by simp [pk, pl, hh, lift_])
  · simp [putAll, renB, ren, ren2, F.fence_Liftc1]
    refine RetS.plain [.keep [2], .dr 6, .dr 1, .fz 5] ?_
    simp [refsEnv, refsBx, refsOk, refsOkB]
    rw [encD_all, List.map_map]

set_option maxRecDepth 10000 in
set_option maxHeartbeats 4000000 in
theorem fence_Reserve {d : Dmn} (h : Nice d) {n : Int} (hn : U64 n) : ARet Pg I.fence_Reserve [encD d, .int .u64 n] (.tup [encD (all_ (low n d.rules.rejm) d), encD (all_ (rise n d.rules.rejm) d)]) := by
  refine ACalls.intro T.fence_Reserve (by simp [F.fence_Reserve]) ?_
  simp [F.fence_Reserve, argEnv, fpBx]
  refine DrS.run [6, 7, 11, 13] rfl ?_
  simp
  refine callS.gen [] [11] [] (own_Daemon h.toSml) (by simp [getAll]) (by simp) (by simp) (by simp [refsOkL, refsOk, inKs, idx]) (by simp [refsOkB, refsOk, inKs, idx]) (by simp [renL, ren, ren1, idx]) (by simp [renB, ren, ren1, idx]) (by simp [refsOkB, refsOkL, refsOk, inFp]) ?_
  simp [putAll, renB, ren, renL, ren2]
  refine callS.gen [] [13] [] (own_Daemon h.toSml) (by simp [getAll]) (by simp) (by simp) (by simp [refsOkL, refsOk, inKs, idx]) (by simp [refsOkB, refsOk, inKs, idx]) (by simp [renL, ren, ren1, idx]) (by simp [renB, ren, ren1, idx]) (by simp [refsOkB, refsOkL, refsOk, inFp]) ?_
  simp [putAll, renB, ren, renL, ren2]
  refine callS.gen [6, 11] [14] [.box (encDo d (.rs 11 [] 0 d.peers.length d.peers.length 464 .tip)), .arr 464 (d.peers.map encPe)] (fence_sessions (d := d) (l := d.peers) _ rfl) (by simp [getAll]) (by simp) (by simp) (by simp [refsOkL, refsOk, inKs, idx]) (by simp [refsOkB, refsOk, inKs, idx]) (by simp [renL, ren, ren1, idx]) (by simp [renB, ren, ren1, idx]) (by simp [refsOkB, refsOkL, refsOk, inFp]) ?_
  simp [putAll, renB, ren, renL, ren2]
  refine RgS.of [14, 6, 11, 2, 3] [.box (.pt 6 [] 0), .box (encDo d (.rs 11 [] 0 d.peers.length d.peers.length 464 .tip)), .arr 464 (d.peers.map encPe), .box (encD d), .box (.int .u64 n)] (by simp [getAll]) (by simp) (by simp [refsOkL, refsOk, inKs, idx]) (by simp [refsOkB, refsOk, inKs, idx]) (by simp [renL, ren, ren1, idx]) (by simp [renB, ren, ren1, idx]) (fence_sessions_1 (low n d.rules.rejm) (d := d) h.peers (encD d) (.int .u64 n) (by simp) (by simp)) ?_ (by simp [refsOkB, refsOkL, refsOk, inFp]) ?_
  · rintro args fp R1 ⟨i, hi, k, q, hq, hh, rfl, rfl, rfl⟩
    have hg := fun m => lik_get (φ := low n d.rules.rejm) (k := m) hi
    have hrg := h.ring _ (List.getElem_mem hi)
    rcases hq with ⟨rfl, rfl⟩ | ⟨rfl, rfl⟩ | ⟨rfl, rfl⟩
    · simp [roundSt, renEnv, putsL, refsOk, inKs, idx, ren, ren1, fpBx, F.fence_Reserver0, hg, pk]
      refine callT.ret (fence_Edge (r := d.rules) hrg.1 hn) (by simp) (by simp) (by simp) ?_
      simp [hg, pk]
      refine RndS.of [.keep []] ?_
      simp [getAll, refsOkB, refsOk, inFp]
      exact set_step hi (by simp [pk, pl, hh, low])
    · simp [roundSt, renEnv, putsL, refsOk, inKs, idx, ren, ren1, fpBx, F.fence_Reserver0, hg, pk]
      refine callT.ret (fence_Edge (r := d.rules) hrg.2.1 hn) (by simp) (by simp) (by simp) ?_
      simp [hg, pk]
      refine RndS.of [.keep []] ?_
      simp [getAll, refsOkB, refsOk, inFp]
      exact set_step hi (by simp [pk, pl, hh, low])
    · simp [roundSt, renEnv, putsL, refsOk, inKs, idx, ren, ren1, fpBx, F.fence_Reserver0, hg, pk]
      refine callT.ret (fence_Edge (r := d.rules) hrg.2.2 hn) (by simp) (by simp) (by simp) ?_
      simp [hg, pk]
      refine RndS.of [.keep []] ?_
      simp [getAll, refsOkB, refsOk, inFp]
      exact set_step hi (by simp [pk, pl, hh, low])
  · simp [putAll, renB, ren, ren2, F.fence_Reservec3]
    refine callS.gen [7, 13] [26] [.box (encDo d (.rs 13 [] 0 d.peers.length d.peers.length 464 .tip)), .arr 464 (d.peers.map encPe)] (fence_sessions (d := d) (l := d.peers) _ rfl) (by simp [getAll]) (by simp) (by simp) (by simp [refsOkL, refsOk, inKs, idx]) (by simp [refsOkB, refsOk, inKs, idx]) (by simp [renL, ren, ren1, idx]) (by simp [renB, ren, ren1, idx]) (by simp [refsOkB, refsOkL, refsOk, inFp]) ?_
    simp [putAll, renB, ren, renL, ren2]
    refine RgS.of [26, 7, 13, 2, 3] [.box (.pt 7 [] 0), .box (encDo d (.rs 13 [] 0 d.peers.length d.peers.length 464 .tip)), .arr 464 (d.peers.map encPe), .box (encD d), .box (.int .u64 n)] (by simp [getAll]) (by simp) (by simp [refsOkL, refsOk, inKs, idx]) (by simp [refsOkB, refsOk, inKs, idx]) (by simp [renL, ren, ren1, idx]) (by simp [renB, ren, ren1, idx]) (fence_sessions_1 (rise n d.rules.rejm) (d := d) h.peers (encD d) (.int .u64 n) (by simp) (by simp)) ?_ (by simp [refsOkB, refsOkL, refsOk, inFp]) ?_
    · rintro args fp R1 ⟨i, hi, k, q, hq, hh, rfl, rfl, rfl⟩
      have hg := fun m => lik_get (φ := rise n d.rules.rejm) (k := m) hi
      have hsx : ∀ k X, (((lik (rise n d.rules.rejm) d.peers i k).map encPe).set i X)[i]? = some X := by intro k X; simp [hi]
      have hrg := h.ring _ (List.getElem_mem hi)
      rcases hq with ⟨rfl, rfl⟩ | ⟨rfl, rfl⟩ | ⟨rfl, rfl⟩
      · simp [roundSt, renEnv, putsL, refsOk, inKs, idx, ren, ren1, fpBx, F.fence_Reserver1, hg, pk]
        refine DrS.run [KB + 2] rfl ?_
        simp [hg, pk, hsx]
        refine callT.ret (fence_Edge (r := d.rules) hrg.1 hn) (by simp) (by simp) (by simp) ?_
        simp [hg, pk, hsx]
        refine RndS.of [.keep []] ?_
        simp [getAll, refsOkB, refsOk, inFp]
        exact set_step hi (by simp [pk, pl, hh, rise])
      · simp [roundSt, renEnv, putsL, refsOk, inKs, idx, ren, ren1, fpBx, F.fence_Reserver1, hg, pk]
        refine DrS.run [KB + 2] rfl ?_
        simp [hg, pk, hsx]
        refine callT.ret (fence_Edge (r := d.rules) hrg.2.1 hn) (by simp) (by simp) (by simp) ?_
        simp [hg, pk, hsx]
        refine RndS.of [.keep []] ?_
        simp [getAll, refsOkB, refsOk, inFp]
        exact set_step hi (by simp [pk, pl, hh, rise])
      · simp [roundSt, renEnv, putsL, refsOk, inKs, idx, ren, ren1, fpBx, F.fence_Reserver1, hg, pk]
        refine DrS.run [KB + 2] rfl ?_
        simp [hg, pk, hsx]
        refine callT.ret (fence_Edge (r := d.rules) hrg.2.2 hn) (by simp) (by simp) (by simp) ?_
        simp [hg, pk, hsx]
        refine RndS.of [.keep []] ?_
        simp [getAll, refsOkB, refsOk, inFp]
        exact set_step hi (by simp [pk, pl, hh, rise])
    · simp [putAll, renB, ren, ren2, F.fence_Reservec2]
      refine DrS.run [4, 5] rfl ?_
      simp
      refine RetS.plain [.keep [4, 5], .dr 26, .dr 14, .dr 6, .dr 7, .dr 2, .dr 3, .fz 11, .fz 13] ?_
      simp [refsEnv, refsBx, refsOk, refsOkB]
      rw [encD_all, encD_all, List.map_map, List.map_map]
      exact ⟨rfl, rfl⟩
end Go.Ab
