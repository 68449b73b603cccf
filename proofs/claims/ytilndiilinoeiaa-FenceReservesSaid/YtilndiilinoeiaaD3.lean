/- The sessions of a daemon, one after the other: fence.sessions. Conditions: lengths up to 2^20. -/
import Derived.Test.YtilndiilinoeiaaD2
import Derived.Test.YtilndiilinoeiaaA5
set_option linter.all false
namespace Go.Ab
open Go.Ab

def pl (φ : Ses → Ses) (q : Plc) : Plc := if q.has = true then ⟨true, φ q.ses⟩ else q
/-- the first k places turned -/
def pk (φ : Ses → Ses) (k : Nat) (p : Per) : Per := { p with ring := ⟨if 0 < k then pl φ p.ring.p else p.ring.p, if 1 < k then pl φ p.ring.c else p.ring.c, if 2 < k then pl φ p.ring.n else p.ring.n⟩ }
/-- the peers ahead of i turned, of peer i the first k places -/
def lik (φ : Ses → Ses) (l : List Per) (i k : Nat) : List Per := l.mapIdx fun j p => if j < i then pk φ 3 p else if j = i then pk φ k p else p

@[simp] theorem lik_length (φ : Ses → Ses) (l : List Per) (i k : Nat) : (lik φ l i k).length = l.length := by simp [lik]
theorem lik_get {φ : Ses → Ses} {l : List Per} {i k : Nat} (h : i < l.length) : (lik φ l i k)[i]? = some (pk φ k l[i]) := by
  simp [lik, List.getElem?_mapIdx, h]
theorem lik_set {φ : Ses → Ses} {l : List Per} {i k m : Nat} (h : i < l.length) : (lik φ l i k).set i (pk φ m l[i]) = lik φ l i m := by
  apply List.ext_getElem
  · simp
  · intro j h1 h2
    simp only [lik, List.getElem_set, List.getElem_mapIdx]
    by_cases e : i = j
    · subst e; simp
    · simp [e, Ne.symm e]
theorem lik_next {φ : Ses → Ses} {l : List Per} {i : Nat} : lik φ l i 3 = lik φ l (i + 1) 0 := by
  apply List.ext_getElem
  · simp
  · intro j h1 h2
    simp only [lik, List.getElem_mapIdx]
    by_cases e1 : j < i
    · rw [if_pos e1, if_pos (by omega)]
    · rw [if_neg e1]
      by_cases e2 : j = i
      · rw [if_pos e2, if_pos (by omega)]
      · rw [if_neg e2, if_neg (by omega)]
        split
        · simp [pk]
        · rfl
theorem lik_zero {φ : Ses → Ses} {l : List Per} : lik φ l 0 0 = l := by
  apply List.ext_getElem
  · simp
  · intro j h1 h2
    simp only [lik, List.getElem_mapIdx]
    rw [if_neg (by omega)]
    split
    · simp [pk]
    · rfl
theorem lik_end {φ : Ses → Ses} {l : List Per} : lik φ l l.length 0 = l.map (pk φ 3) := by
  apply List.ext_getElem
  · simp
  · intro j h1 h2
    simp only [lik, List.getElem_mapIdx, List.getElem_map]
    rw [if_pos (by simpa using h2)]

theorem lik_skip {φ : Ses → Ses} {l : List Per} {i k m : Nat} (h : i < l.length) (e : pk φ k l[i] = pk φ m l[i]) : lik φ l i k = lik φ l i m := by
  apply List.ext_getElem
  · simp
  · intro j h1 h2
    simp only [lik, List.getElem_mapIdx]
    split
    · rfl
    · split
      · subst_vars; exact e
      · rfl

theorem fence_sessions {d : Dmn} {l : List Per} (b : Blk) (hb : b = .box (encDo d (.rs (KB + 1) [] 0 l.length l.length 464 .tip))) : ACalls Pg I.fence_sessions [.pt KB [] 0] [b, .arr 464 (l.map encPe)]
    (fun r fp => r = .fn (.func I.fence_sessions_1) [] [.pt (KB + 2) [] 0] ∧ fp = [b, .arr 464 (l.map encPe), .box (.pt KB [] 0)]) := by
  subst hb
  refine ACalls.intro T.fence_sessions (by simp [F.fence_sessions]) ?_
  simp [F.fence_sessions, argEnv, fpBx]
  refine RetS.with [] [KB, KB + 1, 1] ?_
  simp [refsOk, refsOkL, ren, renL]

@[simp] theorem refsOkL_mPe (f : Nat → Bool) (l : List Per) : refsOkL f (l.map encPe) = true := (encPe_mP l).refs f
@[simp] theorem renL_mPe (ρ : Nat → Nat) (l : List Per) : renL ρ (l.map encPe) = l.map encPe := (encPe_mP l).ren ρ

/-- what it says to yield: a pointer to a session, the sessions ahead of it turned -/
def sesY5 (φ : Ses → Ses) (d : Dmn) (e1 e2 : PV) (l : List Per) : List PV → List Blk → (List Blk → Prop) → Prop := fun args fp R =>
  ∃ (i : Nat) (_ : i < l.length) (k : Nat) (q : Plc), (k = 0 ∧ q = l[i].ring.p ∨ k = 1 ∧ q = l[i].ring.c ∨ k = 2 ∧ q = l[i].ring.n) ∧ q.has = true ∧ args = [.pt (KB + 2) [.i i 464, .f 13 232, .f k (77 * k), .f 1 1] l.length] ∧
    fp = [.box (.pt (KB + 1) [] 0), .box (encDo d (.rs (KB + 2) [] 0 l.length l.length 464 .tip)), .arr 464 ((lik φ l i k).map encPe), .box e1, .box e2] ∧ R = fun fp' => fp' = [.box (.pt (KB + 1) [] 0), .box (encDo d (.rs (KB + 2) [] 0 l.length l.length 464 .tip)), .arr 464 ((lik φ l i (k + 1)).map encPe), .box e1, .box e2]

set_option maxRecDepth 10000 in
set_option maxHeartbeats 4000000 in
theorem fence_sessions_1 (φ : Ses → Ses) {d : Dmn} {l : List Per} (hl : l.length ≤ 1048576) (e1 e2 : PV) (h1 : Pure e1) (h2 : Pure e2) :
    AIter Pg I.fence_sessions_1 [.pt KB [] 0] [.box (.pt (KB + 1) [] 0), .box (encDo d (.rs (KB + 2) [] 0 l.length l.length 464 .tip)), .arr 464 (l.map encPe), .box e1, .box e2] (sesY5 φ d e1 e2 l) fun fp => fp = [.box (.pt (KB + 1) [] 0), .box (encDo d (.rs (KB + 2) [] 0 l.length l.length 464 .tip)), .arr 464 ((l.map (pk φ 3)).map encPe), .box e1, .box e2] := by
  refine AIter.introI T.fence_sessions_1 (by simp [F.fence_sessions_1]) fun y I hI => ?_
  have hI5 : I = ofY 5 y (sesY5 φ d e1 e2 l) := hI
  simp [F.fence_sessions_1, argEnv, fpBx]
  refine LpS.rng l.length (fun _ => True) [0, 1, 11, 12] (fun i => [(12, .int .i64 i)]) (fun i => [(KB + 2, .arr 464 ((lik φ l i 0).map encPe))]) [.keep [0, 1, 11, 12]] ?_
  simp [lik_zero]
  refine ⟨fun i hi K hK => ?_, fun K => ?_⟩
  · have hg := fun m => lik_get (φ := φ) (k := m) hi
    simp [F.fence_sessions_1l2, hi, show PV.np.width = 1 from rfl]
    refine LpS.rng 3 (fun _ => True) [0, 1, 11, 12, 31, 32, 33] (fun k => [(33, .int .i64 k)]) (fun k => [(KB + 2, .arr 464 ((lik φ l i k).map encPe))]) [] ?_
    simp
    refine ⟨fun k hk K2 hK2 => ?_, fun K2 => ?_⟩
    · rcases (by omega : k = 0 ∨ k = 1 ∨ k = 2) with rfl | rfl | rfl
      · by_cases hh : l[i].ring.p.has = true
        · simp (disch := omega) [F.fence_sessions_1l0, hi, hg, pk, hh]
          refine yS.eqI hI5 [.box (.pt (KB + 1) [] 0), .box (encDo d (.rs (KB + 2) [] 0 l.length l.length 464 .tip)), .arr 464 ((lik φ l i 0).map encPe), .box e1, .box e2] [.box (.pt (KB + 1) [] 0), .box (encDo d (.rs (KB + 2) [] 0 l.length l.length 464 .tip)), .arr 464 ((lik φ l i 1).map encPe), .box e1, .box e2] rfl ?_ ?_ ?_ ?_ ?_ ?_
          · simp [getAll]
          · simp [refsOkL, refsOk, inFp]
          · simp [refsOkB, refsOk, inFp, h1.refs, h2.refs]
          · exact ⟨i, hi, 0, l[i].ring.p, by simp, hh, by simp, rfl, rfl⟩
          · simp [refsOkB, refsOk, inFp, h1.refs, h2.refs]
          · simp [putAll, F.fence_sessions_1l0]
            refine ⟨[.keep [0, 1, 11, 12, 31, 32, 33]], ?_⟩
            simp
            exact hK2 _ (by simp)
        · simp (disch := omega) [F.fence_sessions_1l0, hi, hg, pk, hh]
          refine ⟨[.keep [0, 1, 11, 12, 31, 32, 33]], ?_⟩
          simp
          rw [lik_skip (k := 1) (m := 0) hi (by simp [pk, pl, hh])] at hK2
          exact hK2 _ (by simp)
      · by_cases hh : l[i].ring.c.has = true
        · simp (disch := omega) [F.fence_sessions_1l0, hi, hg, pk, hh]
          refine yS.eqI hI5 [.box (.pt (KB + 1) [] 0), .box (encDo d (.rs (KB + 2) [] 0 l.length l.length 464 .tip)), .arr 464 ((lik φ l i 1).map encPe), .box e1, .box e2] [.box (.pt (KB + 1) [] 0), .box (encDo d (.rs (KB + 2) [] 0 l.length l.length 464 .tip)), .arr 464 ((lik φ l i 2).map encPe), .box e1, .box e2] rfl ?_ ?_ ?_ ?_ ?_ ?_
          · simp [getAll]
          · simp [refsOkL, refsOk, inFp]
          · simp [refsOkB, refsOk, inFp, h1.refs, h2.refs]
          · exact ⟨i, hi, 1, l[i].ring.c, by simp, hh, by simp, rfl, rfl⟩
          · simp [refsOkB, refsOk, inFp, h1.refs, h2.refs]
          · simp [putAll, F.fence_sessions_1l0]
            refine ⟨[.keep [0, 1, 11, 12, 31, 32, 33]], ?_⟩
            simp
            exact hK2 _ (by simp)
        · simp (disch := omega) [F.fence_sessions_1l0, hi, hg, pk, hh]
          refine ⟨[.keep [0, 1, 11, 12, 31, 32, 33]], ?_⟩
          simp
          rw [lik_skip (k := 2) (m := 1) hi (by simp [pk, pl, hh])] at hK2
          exact hK2 _ (by simp)
      · by_cases hh : l[i].ring.n.has = true
        · simp (disch := omega) [F.fence_sessions_1l0, hi, hg, pk, hh]
          refine yS.eqI hI5 [.box (.pt (KB + 1) [] 0), .box (encDo d (.rs (KB + 2) [] 0 l.length l.length 464 .tip)), .arr 464 ((lik φ l i 2).map encPe), .box e1, .box e2] [.box (.pt (KB + 1) [] 0), .box (encDo d (.rs (KB + 2) [] 0 l.length l.length 464 .tip)), .arr 464 ((lik φ l i 3).map encPe), .box e1, .box e2] rfl ?_ ?_ ?_ ?_ ?_ ?_
          · simp [getAll]
          · simp [refsOkL, refsOk, inFp]
          · simp [refsOkB, refsOk, inFp, h1.refs, h2.refs]
          · exact ⟨i, hi, 2, l[i].ring.n, by simp, hh, by simp, rfl, rfl⟩
          · simp [refsOkB, refsOk, inFp, h1.refs, h2.refs]
          · simp [putAll, F.fence_sessions_1l0]
            refine ⟨[.keep [0, 1, 11, 12, 31, 32, 33]], ?_⟩
            simp
            exact hK2 _ (by simp)
        · simp (disch := omega) [F.fence_sessions_1l0, hi, hg, pk, hh]
          refine ⟨[.keep [0, 1, 11, 12, 31, 32, 33]], ?_⟩
          simp
          rw [lik_skip (k := 3) (m := 2) hi (by simp [pk, pl, hh])] at hK2
          exact hK2 _ (by simp)
    · simp (disch := omega) [F.fence_sessions_1l0, F.fence_sessions_1c1]
      refine ⟨[.keep [0, 1, 11, 12]], ?_⟩
      simp
      rw [← lik_next] at hK
      exact hK _ (by simp)
  · simp [F.fence_sessions_1l2, F.fence_sessions_1c1]
    refine RetS.with [] [KB, KB + 1, KB + 2, KB + 3, KB + 4] ?_
    simp [lik_end, tupOf, refsOk, refsOkL, h1.refs, h2.refs, h1.ren, h2.ren]

/-- what it says to yield: a pointer to a session, the sessions ahead of it turned -/
def sesY3 (φ : Ses → Ses) (d : Dmn)  (l : List Per) : List PV → List Blk → (List Blk → Prop) → Prop := fun args fp R =>
  ∃ (i : Nat) (_ : i < l.length) (k : Nat) (q : Plc), (k = 0 ∧ q = l[i].ring.p ∨ k = 1 ∧ q = l[i].ring.c ∨ k = 2 ∧ q = l[i].ring.n) ∧ q.has = true ∧ args = [.pt (KB + 2) [.i i 464, .f 13 232, .f k (77 * k), .f 1 1] l.length] ∧
    fp = [.box (.pt (KB + 1) [] 0), .box (encDo d (.rs (KB + 2) [] 0 l.length l.length 464 .tip)), .arr 464 ((lik φ l i k).map encPe)] ∧ R = fun fp' => fp' = [.box (.pt (KB + 1) [] 0), .box (encDo d (.rs (KB + 2) [] 0 l.length l.length 464 .tip)), .arr 464 ((lik φ l i (k + 1)).map encPe)]

set_option maxRecDepth 10000 in
set_option maxHeartbeats 4000000 in
theorem fence_sessions_1b (φ : Ses → Ses) {d : Dmn} {l : List Per} (hl : l.length ≤ 1048576)   :
    AIter Pg I.fence_sessions_1 [.pt KB [] 0] [.box (.pt (KB + 1) [] 0), .box (encDo d (.rs (KB + 2) [] 0 l.length l.length 464 .tip)), .arr 464 (l.map encPe)] (sesY3 φ d  l) fun fp => fp = [.box (.pt (KB + 1) [] 0), .box (encDo d (.rs (KB + 2) [] 0 l.length l.length 464 .tip)), .arr 464 ((l.map (pk φ 3)).map encPe)] := by
  refine AIter.introI T.fence_sessions_1 (by simp [F.fence_sessions_1]) fun y I hI => ?_
  have hI5 : I = ofY 3 y (sesY3 φ d  l) := hI
  simp [F.fence_sessions_1, argEnv, fpBx]
  refine LpS.rng l.length (fun _ => True) [0, 1, 11, 12] (fun i => [(12, .int .i64 i)]) (fun i => [(KB + 2, .arr 464 ((lik φ l i 0).map encPe))]) [.keep [0, 1, 11, 12]] ?_
  simp [lik_zero]
  refine ⟨fun i hi K hK => ?_, fun K => ?_⟩
  · have hg := fun m => lik_get (φ := φ) (k := m) hi
    simp [F.fence_sessions_1l2, hi, show PV.np.width = 1 from rfl]
    refine LpS.rng 3 (fun _ => True) [0, 1, 11, 12, 31, 32, 33] (fun k => [(33, .int .i64 k)]) (fun k => [(KB + 2, .arr 464 ((lik φ l i k).map encPe))]) [] ?_
    simp
    refine ⟨fun k hk K2 hK2 => ?_, fun K2 => ?_⟩
    · rcases (by omega : k = 0 ∨ k = 1 ∨ k = 2) with rfl | rfl | rfl
      · by_cases hh : l[i].ring.p.has = true
        · simp (disch := omega) [F.fence_sessions_1l0, hi, hg, pk, hh]
          refine yS.eqI hI5 [.box (.pt (KB + 1) [] 0), .box (encDo d (.rs (KB + 2) [] 0 l.length l.length 464 .tip)), .arr 464 ((lik φ l i 0).map encPe)] [.box (.pt (KB + 1) [] 0), .box (encDo d (.rs (KB + 2) [] 0 l.length l.length 464 .tip)), .arr 464 ((lik φ l i 1).map encPe)] rfl ?_ ?_ ?_ ?_ ?_ ?_
          · simp [getAll]
          · simp [refsOkL, refsOk, inFp]
          · simp [refsOkB, refsOk, inFp]
          · exact ⟨i, hi, 0, l[i].ring.p, by simp, hh, by simp, rfl, rfl⟩
          · simp [refsOkB, refsOk, inFp]
          · simp [putAll, F.fence_sessions_1l0]
            refine ⟨[.keep [0, 1, 11, 12, 31, 32, 33]], ?_⟩
            simp
            exact hK2 _ (by simp)
        · simp (disch := omega) [F.fence_sessions_1l0, hi, hg, pk, hh]
          refine ⟨[.keep [0, 1, 11, 12, 31, 32, 33]], ?_⟩
          simp
          rw [lik_skip (k := 1) (m := 0) hi (by simp [pk, pl, hh])] at hK2
          exact hK2 _ (by simp)
      · by_cases hh : l[i].ring.c.has = true
        · simp (disch := omega) [F.fence_sessions_1l0, hi, hg, pk, hh]
          refine yS.eqI hI5 [.box (.pt (KB + 1) [] 0), .box (encDo d (.rs (KB + 2) [] 0 l.length l.length 464 .tip)), .arr 464 ((lik φ l i 1).map encPe)] [.box (.pt (KB + 1) [] 0), .box (encDo d (.rs (KB + 2) [] 0 l.length l.length 464 .tip)), .arr 464 ((lik φ l i 2).map encPe)] rfl ?_ ?_ ?_ ?_ ?_ ?_
          · simp [getAll]
          · simp [refsOkL, refsOk, inFp]
          · simp [refsOkB, refsOk, inFp]
          · exact ⟨i, hi, 1, l[i].ring.c, by simp, hh, by simp, rfl, rfl⟩
          · simp [refsOkB, refsOk, inFp]
          · simp [putAll, F.fence_sessions_1l0]
            refine ⟨[.keep [0, 1, 11, 12, 31, 32, 33]], ?_⟩
            simp
            exact hK2 _ (by simp)
        · simp (disch := omega) [F.fence_sessions_1l0, hi, hg, pk, hh]
          refine ⟨[.keep [0, 1, 11, 12, 31, 32, 33]], ?_⟩
          simp
          rw [lik_skip (k := 2) (m := 1) hi (by simp [pk, pl, hh])] at hK2
          exact hK2 _ (by simp)
      · by_cases hh : l[i].ring.n.has = true
        · simp (disch := omega) [F.fence_sessions_1l0, hi, hg, pk, hh]
          refine yS.eqI hI5 [.box (.pt (KB + 1) [] 0), .box (encDo d (.rs (KB + 2) [] 0 l.length l.length 464 .tip)), .arr 464 ((lik φ l i 2).map encPe)] [.box (.pt (KB + 1) [] 0), .box (encDo d (.rs (KB + 2) [] 0 l.length l.length 464 .tip)), .arr 464 ((lik φ l i 3).map encPe)] rfl ?_ ?_ ?_ ?_ ?_ ?_
          · simp [getAll]
          · simp [refsOkL, refsOk, inFp]
          · simp [refsOkB, refsOk, inFp]
          · exact ⟨i, hi, 2, l[i].ring.n, by simp, hh, by simp, rfl, rfl⟩
          · simp [refsOkB, refsOk, inFp]
          · simp [putAll, F.fence_sessions_1l0]
            refine ⟨[.keep [0, 1, 11, 12, 31, 32, 33]], ?_⟩
            simp
            exact hK2 _ (by simp)
        · simp (disch := omega) [F.fence_sessions_1l0, hi, hg, pk, hh]
          refine ⟨[.keep [0, 1, 11, 12, 31, 32, 33]], ?_⟩
          simp
          rw [lik_skip (k := 3) (m := 2) hi (by simp [pk, pl, hh])] at hK2
          exact hK2 _ (by simp)
    · simp (disch := omega) [F.fence_sessions_1l0, F.fence_sessions_1c1]
      refine ⟨[.keep [0, 1, 11, 12]], ?_⟩
      simp
      rw [← lik_next] at hK
      exact hK _ (by simp)
  · simp [F.fence_sessions_1l2, F.fence_sessions_1c1]
    refine RetS.with [] [KB, KB + 1, KB + 2] ?_
    simp [lik_end, tupOf, refsOk, refsOkL]
end Go.Ab
