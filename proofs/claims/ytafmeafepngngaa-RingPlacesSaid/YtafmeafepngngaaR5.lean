/- The places of a ring: method values, Find and Get. -/
import Derived.Test.YtafmeafepngngaaR2
set_option linter.all false
namespace Go.Ab
open Go.Ab
variable {P : Program} {s : St}

/-- a call to which one variable is lent -/
theorem callS.lend {d : Option Nat} {f : FuncId} {args args' : List PV} {v v' r r' : PV} {K : St → Prop} {t : Tg K} (k : Nat) (hb : get s.bx k = some (.box v)) (hA : ACalls P f args' [.box v] (fun x fp => x = r ∧ fp = [.box v']))
    (hargs : refsOkL (inKs [k]) args = true) (ha : renL (ren1 [k]) args = args') (hv : Pure v) (hv' : Pure v') (hr : refsOk (inFp 1) r = true) (hr' : ren (ren2 [k]) r = r')
    (h : K ({ s with bx := put s.bx k (.box v') }.put d r')) : callS P s d f args K t := by
  refine ⟨[k], [], [.box v], (fun x fp => x = r ∧ fp = [.box v']), by simp [getAll, hb], by simp, by simp, hargs, by simp [refsOkB, hv.refs], ?_, ?_⟩
  · rw [ha]; simp only [List.map_cons, List.map_nil, renB, hv.ren]; exact hA
  · rintro x fp ⟨rfl, rfl⟩
    refine ⟨⟨rfl, hr, by simp [refsOkB, hv'.refs]⟩, ?_⟩
    simpa [putAll, renB, hv'.ren, hr'] using h

theorem ring_ring_previous (r : Rng) : ACalls Pg I.ring_ring_previous [.pt KB [] 0] [.box (.st 231 [encR r])] (fun x fp => x = .pt KB [.f 0 0, .f 0 0] 0 ∧ fp = [.box (.st 231 [encR r])]) := by
  refine ACalls.intro T.ring_ring_previous (by simp [F.ring_ring_previous]) ?_
  simp [F.ring_ring_previous, argEnv, fpBx, encR]
  refine RetS.with [] [KB] ?_
  simp [fpKeys]
theorem ring_ring_current (r : Rng) : ACalls Pg I.ring_ring_current [.pt KB [] 0] [.box (.st 231 [encR r])] (fun x fp => x = .pt KB [.f 0 0, .f 1 77] 0 ∧ fp = [.box (.st 231 [encR r])]) := by
  refine ACalls.intro T.ring_ring_current (by simp [F.ring_ring_current]) ?_
  simp [F.ring_ring_current, argEnv, fpBx, encR]
  refine RetS.with [] [KB] ?_
  simp [fpKeys]
theorem ring_ring_next (r : Rng) : ACalls Pg I.ring_ring_next [.pt KB [] 0] [.box (.st 231 [encR r])] (fun x fp => x = .pt KB [.f 0 0, .f 2 154] 0 ∧ fp = [.box (.st 231 [encR r])]) := by
  refine ACalls.intro T.ring_ring_next (by simp [F.ring_ring_next]) ?_
  simp [F.ring_ring_next, argEnv, fpBx, encR]
  refine RetS.with [] [KB] ?_
  simp [fpKeys]

def plcs (k : Nat) : PV := .ar 1 3 [.fn (.func I.ring_ring_previous) [.pt k [] 0] [], .fn (.func I.ring_ring_current) [.pt k [] 0] [], .fn (.func I.ring_ring_next) [.pt k [] 0] []]
@[simp] theorem plcs_refs (k : Nat) (f : Nat → Bool) : refsOk f (plcs k) = f k := by simp [plcs, refsOk, refsOkL]
set_option maxRecDepth 10000 in
theorem ring_ring_places (r : Rng) : ACalls Pg I.ring_ring_places [.pt KB [] 0] [.box (.st 231 [encR r])] (fun x fp => x = plcs KB ∧ fp = [.box (.st 231 [encR r])]) := by
  refine ACalls.intro T.ring_ring_places (by simp [F.ring_ring_places]) ?_
  simp [F.ring_ring_places, argEnv, fpBx, zr, show ¬ KB = 2 by decide, show ∀ f a b, (PV.fn f a b).width = 1 from fun _ _ _ => rfl, show PV.nf.width = 1 from rfl]
  refine RetS.with [] [KB] ?_
  simp [fpKeys, plcs, show ¬ 2 = KB by decide, refsOk, refsOkL, refsOkB, ren, renL, renB]

def find (r : Rng) (x : Int) : Int :=
  if r.p.has = true ∧ r.p.ses.loc = x then 1 else if r.c.has = true ∧ r.c.ses.loc = x then 2 else if r.n.has = true ∧ r.n.ses.loc = x then 3 else 0
set_option maxRecDepth 10000 in
set_option maxHeartbeats 1000000 in
theorem ring_Find (r : Rng) (x : Int) : ARet Pg I.ring_Find [encR r, .int .u32 x] (.int .i64 (find r x)) := by
  refine ACalls.intro T.ring_Find (by simp [F.ring_Find]) ?_
  simp [F.ring_Find, argEnv, fpBx]
  refine callS.lend 11 (by simp) (ring_ring_places r) (by simp) (by simp) (by simp) (by simp) (by simp [plcs, refsOk, refsOkL, inFp]) (r' := plcs 11) (by simp [plcs, ren, renL, ren2]) ?_
  simp
  refine LpS.rng 3 (fun i => (1 ≤ i → ¬ (r.p.has = true ∧ r.p.ses.loc = x)) ∧ (2 ≤ i → ¬ (r.c.has = true ∧ r.c.ses.loc = x)) ∧ (3 ≤ i → ¬ (r.n.has = true ∧ r.n.ses.loc = x))) [1, 4, 13, 14] (fun i => [(14, .int .i64 i)]) (fun i => []) [.keep [1, 4, 13, 14], .dr 2] ?_
  simp
  refine ⟨fun i hi h1 h2 h3 K hK => ?_, fun h1 h2 h3 K => ?_⟩
  · rcases (by omega : i = 0 ∨ i = 1 ∨ i = 2) with rfl | rfl | rfl
    · simp [F.ring_Findl0, plcs]
      refine callS.lend 11 (by simp) (ring_ring_previous r) (by simp) (by simp) (by simp) (by simp) (by simp [refsOk, inFp]) (r' := .pt 11 [.f 0 0, .f 0 0] 0) (by simp [ren, ren2]) ?_
      by_cases hh : r.p.has = true
      · by_cases hx : r.p.ses.loc = x
        · simp [encR, encP, encS, hh, hx]
          refine RetS.plain [] ?_
          have hf : find r x = 1 := by simp only [find]; rw [if_pos ⟨hh, hx⟩]
          rw [hf]
          simp
        · simp [encR, encP, encS, hh, hx]
          refine ⟨[.keep [1, 4, 13, 14]], ?_⟩
          simp
          refine hK _ (by simp [plcs, encR, encP, encS, hh, hx]) ?_ ?_ ?_ <;> intros <;> first | omega | (simp_all; done) | (exact absurd ‹_› hx)
      · simp [encR, encP, encS, hh]
        refine ⟨[.keep [1, 4, 13, 14]], ?_⟩
        simp
        refine hK _ (by simp [plcs, encR, encP, encS, hh]) ?_ ?_ ?_ <;> intros <;> first | omega | (simp_all; done)
    · have g1 := h1 (by omega)
      simp [F.ring_Findl0, plcs]
      refine callS.lend 11 (by simp) (ring_ring_current r) (by simp) (by simp) (by simp) (by simp) (by simp [refsOk, inFp]) (r' := .pt 11 [.f 0 0, .f 1 77] 0) (by simp [ren, ren2]) ?_
      by_cases hh : r.c.has = true
      · by_cases hx : r.c.ses.loc = x
        · simp [encR, encP, encS, hh, hx]
          refine RetS.plain [] ?_
          have hf : find r x = 2 := by simp only [find]; rw [if_neg (fun h => g1 h.1 h.2), if_pos ⟨hh, hx⟩]
          rw [hf]
          simp
        · simp [encR, encP, encS, hh, hx]
          refine ⟨[.keep [1, 4, 13, 14]], ?_⟩
          simp
          refine hK _ (by simp [plcs, encR, encP, encS, hh, hx]) ?_ ?_ ?_ <;> intros <;> first | omega | (simp_all; done) | (exact absurd ‹_› hx)
      · simp [encR, encP, encS, hh]
        refine ⟨[.keep [1, 4, 13, 14]], ?_⟩
        simp
        refine hK _ (by simp [plcs, encR, encP, encS, hh]) ?_ ?_ ?_ <;> intros <;> first | omega | (simp_all; done)
    · have g1 := h1 (by omega)
      have g2 := h2 (by omega)
      simp [F.ring_Findl0, plcs]
      refine callS.lend 11 (by simp) (ring_ring_next r) (by simp) (by simp) (by simp) (by simp) (by simp [refsOk, inFp]) (r' := .pt 11 [.f 0 0, .f 2 154] 0) (by simp [ren, ren2]) ?_
      by_cases hh : r.n.has = true
      · by_cases hx : r.n.ses.loc = x
        · simp [encR, encP, encS, hh, hx]
          refine RetS.plain [] ?_
          have hf : find r x = 3 := by simp only [find]; rw [if_neg (fun h => g1 h.1 h.2), if_neg (fun h => g2 h.1 h.2), if_pos ⟨hh, hx⟩]
          rw [hf]
          simp
        · simp [encR, encP, encS, hh, hx]
          refine ⟨[.keep [1, 4, 13, 14]], ?_⟩
          simp
          refine hK _ (by simp [plcs, encR, encP, encS, hh, hx]) ?_ ?_ ?_ <;> intros <;> first | omega | (simp_all; done) | (exact absurd ‹_› hx)
      · simp [encR, encP, encS, hh]
        refine ⟨[.keep [1, 4, 13, 14]], ?_⟩
        simp
        refine hK _ (by simp [plcs, encR, encP, encS, hh]) ?_ ?_ ?_ <;> intros <;> first | omega | (simp_all; done)
  · simp [F.ring_Findl0, F.ring_Findc1]
    refine RetS.plain [] ?_
    simp [find]
    rw [if_neg (fun h => h1 h.1 h.2), if_neg (fun h => h2 h.1 h.2), if_neg (fun h => h3 h.1 h.2)]
end Go.Ab
