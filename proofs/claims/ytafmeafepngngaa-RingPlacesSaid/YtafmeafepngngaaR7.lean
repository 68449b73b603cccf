/- Where sessions stand: the law's body. -/
import Derived.Test.YtafmeafepngngaaR6
set_option linter.all false
namespace Go.Ab
open Go.Ab

abbrev shSe : Sh := .st [.i .u32, .i .u32, .ar 32 (.i .u8), .ar 32 (.i .u8), .i .u64, .i .u64, .st [.b, .i .u64, .ar 4 (.i .u64)], .i .i64, .b]
theorem fits_encS (s : Ses) : fits shSe (encS s) = true := by
  have h1 := s.send.ok
  have h2 := s.recv.ok
  have h3 := s.win.ok
  simp only [encS, fits, fitsL, Bool.and_eq_true, decide_eq_true_eq]
  refine ⟨rfl, ?_⟩
  simp [h1, h2, h3]
theorem beq_encS (s : Ses) : PV.beq (encS s) (encS s) = true := (fit_facts _ _ (fits_encS s)).beq

def at_ (s : Ses) (n : Int) : Ses := { s with loc := n }
def on (s : Ses) : Plc := ⟨true, s⟩
set_option maxRecDepth 20000 in
set_option maxHeartbeats 4000000 in
theorem burrowlaw23_RingPlaces (a b c : Ses) : ARet Pg I.burrowlaw23_RingPlaces [encS a, encS b, encS c] (.bl true) := by
  obtain ⟨a', ha⟩ : ∃ a', a' = at_ a 1 := ⟨_, rfl⟩
  obtain ⟨b', hb⟩ : ∃ b', b' = at_ b 2 := ⟨_, rfl⟩
  obtain ⟨c', hc⟩ : ∃ c', c' = at_ c 3 := ⟨_, rfl⟩
  have la : a'.loc = 1 := by rw [ha]; rfl
  have lb : b'.loc = 2 := by rw [hb]; rfl
  have lc : c'.loc = 3 := by rw [hc]; rfl
  obtain ⟨r, hr⟩ : ∃ r : Rng, r = ⟨P0, on a', P0⟩ := ⟨_, rfl⟩
  obtain ⟨s, hs⟩ : ∃ s : Rng, s = ⟨P0, on a', on b'⟩ := ⟨_, rfl⟩
  obtain ⟨t, ht⟩ : ∃ t : Rng, t = ⟨on a', on b', P0⟩ := ⟨_, rfl⟩
  obtain ⟨u, hu⟩ : ∃ u : Rng, u = ⟨on b', on c', P0⟩ := ⟨_, rfl⟩
  have x1 : ARet Pg I.ring_Begin [encR R0, encS a'] (.tup [encR r, encU []]) := by rw [hr]; exact ring_Begin R0 a'
  have x2 : ARet Pg I.ring_Answer [encR r, encS b'] (.tup [encR s, encU []]) := by rw [hr, hs]; exact ring_Answer _ b'
  have x3 : ARet Pg I.ring_Confirm [encR s, .int .u32 2] (.tup [encR t, .bl true, encU []]) := by
    have h := ring_Confirm s 2
    have e : cnf s 2 = (t, true, []) := by rw [hs, ht]; simp [cnf, on, lb, kept, locs, P0]
    rw [e] at h; exact h
  have x4 : ARet Pg I.ring_Begin [encR s, encS c'] (.tup [encR u, encU [1]]) := by
    have h := ring_Begin s c'
    have e : bgn s c' = (u, [1]) := by rw [hs, hu]; simp [bgn, on, la, locs, P0]
    rw [e] at h; exact h
  have x5 : ARet Pg I.ring_Confirm [encR t, .int .u32 2] (.tup [encR t, .bl false, encU []]) := by
    have h := ring_Confirm t 2
    have e : cnf t 2 = (t, false, []) := by rw [ht]; simp [cnf, P0]
    rw [e] at h; exact h
  have fnd : ∀ (q : Rng) (x n : Int), find q x = n → ARet Pg I.ring_Find [encR q, .int .u32 x] (.int .i64 n) := by
    rintro q x n rfl; exact ring_Find q x
  have f1 := fnd r 1 2 (by rw [hr]; simp [find, on, la, P0])
  have f2 := fnd s 1 2 (by rw [hs]; simp [find, on, la, P0])
  have f3 := fnd s 2 3 (by rw [hs]; simp [find, on, la, lb, P0])
  have f4 := fnd t 1 1 (by rw [ht]; simp [find, on, la, P0])
  have f5 := fnd t 2 2 (by rw [ht]; simp [find, on, la, lb, P0])
  have f6 := fnd t 3 0 (by rw [ht]; simp [find, on, la, lb, P0])
  have f7 := fnd u 3 2 (by rw [hu]; simp [find, on, lb, lc, P0])
  have f8 := fnd u 2 1 (by rw [hu]; simp [find, on, lb, lc, P0])
  have g1 : ARet Pg I.ring_Get [encR t, .int .i64 2] (encP (on b')) := by
    have h := ring_Get t 2
    have e : getR t 2 = on b' := by rw [ht]; simp [getR]
    rw [e] at h; exact h
  have m1 : ARet Pg I.burrowlaw23_same [encU [1], encU [1]] (.bl true) := burrowlaw23_same (a := [1]) (b := [1]) (by simp)
  refine ACalls.intro T.burrowlaw23_RingPlaces (by simp [F.burrowlaw23_RingPlaces]) ?_
  simp [F.burrowlaw23_RingPlaces, argEnv, fpBx, encS]
  refine callS.ret x1 (by simp [ha, at_, encR, encP, encS, R0, P0, S0]) (by simp) (by simp) ?_
  simp
  refine callS.ret x2 (by simp [hb, at_, encS]) (by simp) (by simp) ?_
  simp
  refine callS.ret x3 (by simp) (by simp) (by simp) ?_
  simp
  refine callS.ret x4 (by simp [hc, at_, encS]) (by simp) (by simp) ?_
  simp
  refine callS.ret x5 (by simp) (by simp) (by simp) ?_
  simp
  refine callT.ret f1 (by simp) (by simp) (by simp) ?_
  simp
  refine callT.ret f2 (by simp) (by simp) (by simp) ?_
  simp
  refine callT.ret f3 (by simp) (by simp) (by simp) ?_
  simp [encU]
  refine callT.ret f4 (by simp) (by simp) (by simp) ?_
  simp
  refine callT.ret f5 (by simp) (by simp) (by simp) ?_
  simp
  refine callT.ret f6 (by simp) (by simp) (by simp) ?_
  simp
  refine callT.ret f7 (by simp) (by simp) (by simp) ?_
  simp
  refine callT.ret f8 (by simp) (by simp) (by simp) ?_
  simp
  refine callT.ret m1 (by simp [encU]) (by simp) (by simp) ?_
  simp
  refine callT.ret g1 (by simp) (by simp) (by simp) ?_
  have hf := fits_encS b'
  have hq := beq_encS b'
  simp only [hb, encS, at_] at hf hq
  simp [encP, on, encS, hb, at_, hq]
  refine ⟨hf, ?_⟩
  refine callT.ret burrowlaw23_begun (by simp) (by simp) (by simp) ?_
  simp
  refine RetS.plain [.keep [6]] ?_
  simp
end Go.Ab
