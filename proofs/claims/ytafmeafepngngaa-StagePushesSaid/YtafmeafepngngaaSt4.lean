/- The laws of the stage: each call returns true. Lengths up to 2^20. -/
import Derived.Test.YtafmeafepngngaaSt3
set_option linter.all false
namespace Go.Ab
open Go.Ab

theorem encB20_map (l : List (List UInt8)) : l.map encB20 = (l.map (List.take 20)).map encB := by simp [encB20]

set_option maxRecDepth 10000 in
theorem burrowlaw18_StagePushes {raw : List (List UInt8)} {n : Int} {p : List UInt8} (h : raw.length ≤ 9223372036854775807) (hb : ∀ b ∈ raw, b.length ≤ 9223372036854775807) (hp : p.length ≤ 9223372036854775807) (hn : -9223372036854775808 ≤ n ∧ n ≤ 9223372036854775807) :
    ARet Pg I.burrowlaw18_StagePushes [encBs raw, .int .i64 n, encB p] (.bl true) := by
  refine ACalls.intro T.burrowlaw18_StagePushes (by simp [F.burrowlaw18_StagePushes]) ?_
  simp [F.burrowlaw18_StagePushes, argEnv, fpBx, encBs, encB]
  refine callS.ret ((burrowlaw18_cut h hb).frz (by simp)) (by simp [encBs]) (by simp) (by simp) ?_
  simp only [encB20_map]
  have hl2 : ((raw.take 12).map (List.take 20)).length ≤ 12 := by simp; omega
  have hb2 : ∀ b ∈ (raw.take 12).map (List.take 20), b.length ≤ 20 := by
    intro b hb; obtain ⟨x, _, rfl⟩ := List.mem_map.1 hb; simp; omega
  generalize (raw.take 12).map (List.take 20) = l2 at *
  simp
  refine callS.ret (burrowcase_Cut (n := 20) hp (by omega)) (by simp [encB]) (by simp) (by simp) ?_
  have hp2 : (p.take 20).length ≤ 20 := by simp; omega
  simp only [encB, Int.reduceToNat]
  generalize p.take 20 = p2 at *
  simp
  refine callS.ret (burrowcase_Mod (n := 14) hn (by omega)) (by simp) (by simp) (by simp) ?_
  have hm1 := Int.emod_nonneg n (show (14 : Int) ≠ 0 by omega)
  have hm2 := Int.emod_lt_of_pos n (show (0 : Int) < 14 by omega)
  simp (disch := omega)
  obtain ⟨xs, hxs⟩ : ∃ xs, xs = [PV.int .i64 n, .int .i64 (n % 14 - 1)] := ⟨_, rfl⟩
  have hxl : xs.length = 2 := by rw [hxs]; rfl
  have hxm : ∀ i, i < 2 → ∃ m : Int, xs[i]? = some (.int .i64 m) ∧ -9223372036854775808 ≤ m ∧ m ≤ 9223372036854775807 := by
    intro i hi
    rw [hxs]
    match i, hi with
    | 0, _ => exact ⟨_, rfl, hn.1, hn.2⟩
    | 1, _ => exact ⟨_, rfl, by omega, by omega⟩
  rw [← hxs]
  clear hxs
  refine LpS.rng 2 (fun _ => True) [6, 7, 8, 29, 30, 31] (fun i => [(31, .int .i64 i)]) (fun i => []) [] ?_
  simp
  have hb3 : ∀ b ∈ l2, b.length ≤ 1073741824 := fun b hb => by have := hb2 b hb; omega
  have hsum : (l2.map List.length).sum ≤ 240 := by
    have : ∀ l : List (List UInt8), (∀ b ∈ l, b.length ≤ 20) → (l.map List.length).sum ≤ 20 * l.length := by
      intro l
      induction l with
      | nil => simp
      | cons x l ih => intro h; have h1 := h x (by simp); have h2 := ih (fun b hb => h b (by simp [hb])); simp; omega
    have := this l2 hb2; omega
  refine ⟨fun i hi K hK => ?_, fun K => ?_⟩
  · obtain ⟨m, hx, hm⟩ := hxm i hi
    have hi2 : (i : Int) < 2 := by omega
    obtain ⟨hxi, hx2⟩ := List.getElem?_eq_some_iff.1 hx
    simp [F.burrowlaw18_StagePushesl0, hx2, hi, hi2, hxl]
    refine callS.ret (stage_Push (ll := l2) (n := m) (p := p2) (by omega) hb3 (by omega) hm) (by simp [encB, encBs]) (by simp) (by simp) ?_
    simp
    refine callS.ret (burrowref14_Push (ll := l2) (n := m) (p := p2) (by omega) hb3 (by omega) hm) (by simp [encB, encBs]) (by simp) (by simp) ?_
    simp
    generalize hr : (l2 ++ [p2]).drop (l2.length + 1 - m.toNat) = r
    have hrl : r.length ≤ 13 := by rw [← hr]; simp; omega
    simp [encBs]
    refine callS.ret (burrowlaw18_same (l := r) (m := r) (by omega) (by omega)) (by simp [encB, encBs]) (by simp) (by simp) ?_
    simp
    exact ⟨[], hK _ (by simp (disch := omega))⟩
  · simp [F.burrowlaw18_StagePushesl0, F.burrowlaw18_StagePushesc1]
    refine callS.ret (stage_Pop (ll := l2) (by omega) hb3) (by simp [encB, encBs]) (by simp) (by cases l2 <;> simp [popV]) ?_
    obtain ⟨b, r, v, hv, hpop, hrl⟩ : ∃ b r v, popV l2 = .tup [encB b, encBs r, .bl v] ∧ b.length ≤ 20 ∧ r.length ≤ 12 := by
      cases l2 with
      | nil => exact ⟨[], [], false, rfl, by simp, by simp⟩
      | cons b r => exact ⟨b, r, true, rfl, hb2 b (by simp), by simp at hl2; omega⟩
    simp [hv, encB, encBs]
    refine callS.ret (burrowref14_Pop (ll := l2) (by omega) hb3) (by simp [encB, encBs]) (by simp) (by cases l2 <;> simp [popV]) ?_
    simp [hv, encB, encBs]
    refine callS.ret (burrowlaw18_same (l := r) (m := r) (by omega) (by omega)) (by simp [encB, encBs]) (by simp) (by simp) ?_
    simp
    refine callS.ret (stage_Size (ll := l2) (by omega) (by omega)) (by simp [encB, encBs]) (by simp) (by simp) ?_
    simp
    refine callS.ret (burrowref14_Size (ll := l2) (by omega) (by omega)) (by simp [encB, encBs]) (by simp) (by simp) ?_
    simp
    refine callS.ret burrowlaw18_begun (by simp) (by simp) (by simp) ?_
    simp
    refine RetS.plain [.keep [6]] ?_
    simp
end Go.Ab
