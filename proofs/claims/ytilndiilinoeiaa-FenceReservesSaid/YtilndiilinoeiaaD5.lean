/- Copies and changes of a daemon by the document: burrowref24.Copy, burrowref29. Conditions: lengths up to 2^20, counters of 64 bits. -/
import Derived.Test.YtilndiilinoeiaaD4
set_option linter.all false
namespace Go.Ab
open Go.Ab

theorem frzL_set (k sz : Nat) (l0 : List PV) : ∀ (l : List PV) (i : Nat) (x : PV), frzL k sz l0 (l.set i x) = (frzL k sz l0 l).set i (frz k sz l0 x)
  | [], i, x => by simp
  | p :: l, 0, x => by simp
  | p :: l, i + 1, x => by simp [frzL_set k sz l0 l i x]
theorem refsOkL_set (f : Nat → Bool) : ∀ (l : List PV) (i : Nat) (x : PV), refsOkL f l = true → refsOk f x = true → refsOkL f (l.set i x) = true
  | [], i, x, h, _ => by simpa using h
  | p :: l, 0, x, h, hx => by simp only [refsOkL, List.set_cons_zero, Bool.and_eq_true] at *; exact ⟨hx, h.2⟩
  | p :: l, i + 1, x, h, hx => by simp only [refsOkL, List.set_cons_succ, Bool.and_eq_true] at *; exact ⟨h.1, refsOkL_set f l i x h.2 hx⟩
@[simp] theorem frz_encPe_s14 (k sz : Nat) (l : List PV) (e : Per) (p : PV) : frz k sz l (encPe_s14 e p) = encPe_s14 e (frz k sz l p) := by
  simp [encPe_s14, frzL]
@[simp] theorem refsOk_encPe_s14 (f : Nat → Bool) (e : Per) (p : PV) : refsOk f (encPe_s14 e p) = refsOk f p := by
  have h1 : refsOk f (encK e.pub) = true := (pure_encK _).refs f
  have h2 : refsOk f e.shared.p = true := (FV.pure _).refs f
  have h3 : refsOk f (encE e.ep) = true := (pure_encE _).refs f
  have h4 : refsOk f e.great.p = true := (FV.pure _).refs f
  have h5 : refsOk f (encH e.hand) = true := (pure_encH _).refs f
  have h6 : refsOk f e.cook.p = true := (FV.pure _).refs f
  have h7 : refsOk f e.mac.p = true := (FV.pure _).refs f
  have h8 : refsOk f (encR e.ring) = true := (pure_encR _).refs f
  simp [encPe_s14, refsOk, refsOkL, h1, h2, h3, h4, h5, h6, h7, h8]

theorem map_set_self' {l : List Per} {i : Nat} (h : i < l.length) {p : PV} (hp : p = encPe l[i]) : (l.map encPe).set i p = l.map encPe := by
  rw [hp]; exact map_set_self encPe l i h
set_option maxRecDepth 10000 in
set_option maxHeartbeats 4000000 in
theorem burrowref24_Copy {d : Dmn} (h : Sml d) : ACalls Pg I.burrowref24_Copy [encD d] [] (fun r fp => r = encDo d (.rs KB [] 0 d.peers.length d.peers.length 464 .tip) ∧ fp = [.arr 464 (d.peers.map encPe)]) := by
  refine ACalls.intro T.burrowref24_Copy (by simp [F.burrowref24_Copy]) ?_
  have hp := h.peers
  simp (disch := omega) [F.burrowref24_Copy, argEnv, fpBx, encD, encDo, encPes]
  refine ⟨⟨by omega, by omega⟩, ?_⟩
  refine LpS.rng d.peers.length (fun _ => True) [1, 2, 13, 14] (fun i => [(14, .int .i64 i)]) (fun i => []) [.keep [1, 2, 13, 14]] ?_
  simp
  refine ⟨fun i hi K hK => ?_, fun K => ?_⟩
  · have hx : d.peers[i]? = some d.peers[i] := List.getElem?_eq_getElem hi
    have hs := h.staged _ (List.getElem_mem hi)
    obtain ⟨m, hm⟩ : ∃ m, d.peers[i].staged = m := ⟨_, rfl⟩
    rw [hm] at hs
    simp [F.burrowref24_Copyl3, hx, hi, hm, encBs]
    refine LpS.rng m.length (fun _ => True) [1, 2, 3, 4, 13, 14, 22, 23, 24] (fun j => [(4, .rs 4 [] 0 j j 1 .tip), (24, .int .i64 j)]) (fun j => [(4, .arr 1 ((m.take j).map encB))]) [.vt 4 4 1] ?_
    simp
    refine ⟨fun j hj K2 hK2 => ?_, fun K2 => ?_⟩
    · have hy : m[j]? = some m[j] := List.getElem?_eq_getElem hj
      have hb := hs.2 _ (List.getElem_mem hj)
      have hj' : min j m.length = j := by omega
      simp (disch := omega) [F.burrowref24_Copyl0, hy, hj, encB]
      refine ⟨⟨by omega, by omega⟩, ⟨by omega, by omega⟩, [.keep [1, 2, 3, 4, 13, 14, 22, 23, 24], .fz 31], ?_⟩
      simp
      exact hK2 _ (by simp [List.take_add_one, hy, encB])
    · simp (disch := omega) [F.burrowref24_Copyl0, F.burrowref24_Copyc1, hx, hi, F.burrowref24_Copyc2]
      refine ⟨[.keep [1, 2, 13, 14], .fz 4], ?_⟩
      simp
      refine hK _ ?_
      simp [frzL_set]
      exact map_set_self' hi (by rw [← hm]; rfl)
  · simp [F.burrowref24_Copyl3, F.burrowref24_Copyc4]
    have hr := h.routes
    have hsl := h.slots
    have ht := h.timers
    have hrc := h.recent
    have hb := h.buckets
    refine DrS.run [44, 47] rfl ?_
    simp (disch := omega) [encRts, encSls, encTs, encIs, encBks]
    refine ⟨⟨by omega, by omega⟩, ⟨by omega, by omega⟩, ?_⟩
    refine DrS.run [52, 55] rfl ?_
    simp (disch := omega)
    refine ⟨⟨by omega, by omega⟩, ⟨by omega, by omega⟩, ⟨by omega, by omega⟩, ?_⟩
    refine RetS.with [.keep [2], .dr 1, .fz 44, .fz 47, .fz 52, .fz 55, .fz 60] [9] ?_
    simp

def getR (r : Rng) (k : Nat) : Plc := if k = 1 then r.p else if k = 2 then r.c else r.n
def putR (r : Rng) (k : Nat) (s : Ses) : Rng := if k = 1 then { r with p := ⟨true, s⟩ } else if k = 2 then { r with c := ⟨true, s⟩ } else { r with n := ⟨true, s⟩ }

set_option maxRecDepth 10000 in
theorem burrowref22_Get (r : Rng) {k : Nat} (h : k = 1 ∨ k = 2 ∨ k = 3) : ARet Pg I.burrowref22_Get [encR r, .int .i64 k] (encP (getR r k)) := by
  refine ACalls.intro T.burrowref22_Get (by simp [F.burrowref22_Get]) ?_
  rcases h with rfl | rfl | rfl <;>
  · simp [F.burrowref22_Get, argEnv, fpBx]
    refine RetS.plain [] ?_
    simp [getR]
set_option maxRecDepth 10000 in
theorem burrowref22_Put (r : Rng) (s : Ses) {k : Nat} (h : k = 1 ∨ k = 2 ∨ k = 3) : ARet Pg I.burrowref22_Put [encR r, .int .i64 k, encS s] (encR (putR r k s)) := by
  refine ACalls.intro T.burrowref22_Put (by simp [F.burrowref22_Put]) ?_
  have e : PV.st 77 [.bl true, encS s] = encP ⟨true, s⟩ := rfl
  rcases h with rfl | rfl | rfl <;>
  · simp [F.burrowref22_Put, argEnv, fpBx, e]
    refine RetS.plain [] ?_
    simp [putR]
end Go.Ab
