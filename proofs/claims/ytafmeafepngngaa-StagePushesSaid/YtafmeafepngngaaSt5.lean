/- The law StageOrders: each call returns true. Lengths up to 2^30. -/
import Derived.Test.YtafmeafepngngaaSt4
set_option linter.all false
namespace Go.Ab
open Go.Ab

theorem orders_step (all : List (List UInt8)) (n i : Nat) (hi : i < all.length) :
    (((all.take i).drop (i - n)) ++ [all[i]]).drop (i - (i - n) + 1 - n) = (all.take (i + 1)).drop (i + 1 - n) := by
  rw [List.take_succ_eq_append_getElem hi, ← List.drop_append_of_le_length (by simp; omega), List.drop_drop]
  congr 1; omega

set_option maxHeartbeats 2000000 in
set_option maxRecDepth 10000 in
theorem burrowlaw18_StageOrders {raw : List (List UInt8)} {c : Int} (h : raw.length ≤ 9223372036854775807) (hb : ∀ b ∈ raw, b.length ≤ 9223372036854775807) (hc : 0 ≤ c ∧ c ≤ 255) :
    ARet Pg I.burrowlaw18_StageOrders [encBs raw, .int .u8 c] (.bl true) := by
  refine ACalls.intro T.burrowlaw18_StageOrders (by simp [F.burrowlaw18_StageOrders]) ?_
  simp [F.burrowlaw18_StageOrders, argEnv, fpBx, encBs, encB]
  refine callS.ret ((burrowlaw18_cut h hb).frz (by simp)) (by simp [encBs]) (by simp) (by simp) ?_
  simp only [encB20_map]
  have hl2 : ((raw.take 12).map (List.take 20)).length ≤ 12 := by simp; omega
  have hb2 : ∀ b ∈ (raw.take 12).map (List.take 20), b.length ≤ 20 := by
    intro b hb; obtain ⟨x, _, rfl⟩ := List.mem_map.1 hb; simp; omega
  generalize (raw.take 12).map (List.take 20) = all at *
  have ht : c.tmod 6 = c % 6 := Int.tmod_eq_emod_of_nonneg hc.1
  obtain ⟨n, hn⟩ : ∃ n : Nat, (n : Int) = 1 + c % 6 := ⟨(1 + c % 6).toNat, by omega⟩
  have hn6 : 1 ≤ n ∧ n ≤ 6 := by omega
  simp (disch := omega) [ht, ← hn]
  have hb3 : ∀ b ∈ all, b.length ≤ 1073741824 := fun b hb => by have := hb2 b hb; omega
  refine LpS.rng all.length (fun _ => True) [5, 6, 7, 8, 4, 27, 28, 29] (fun i => [(7, encBs ((all.take i).drop (i - n))), (8, .int .i64 (i - n : Nat)), (29, .int .i64 i)]) (fun i => []) [.wk 7] ?_
  simp
  refine ⟨rfl, fun i hi K hK => ?_, fun K => ?_⟩
  · have hx : all[i]? = some all[i] := List.getElem?_eq_getElem hi
    simp [F.burrowlaw18_StageOrdersl0, hx, hi, encB]
    have hll : ((all.take i).drop (i - n)).length = i - (i - n) := by simp; omega
    refine callS.ret (stage_Push (ll := (all.take i).drop (i - n)) (n := n) (p := all[i]) (by omega) (fun b hb => hb3 b (List.mem_of_mem_take (List.mem_of_mem_drop hb))) (hb3 _ (List.getElem_mem hi)) (by omega)) (by simp [encB]) (by simp) (by simp) ?_
    simp (disch := omega)
    rw [orders_step all n i hi]
    refine ⟨[], hK _ ?_⟩
    simp
    omega
  · have e0 : max 0 ((all.length : Int) - n) = (all.length - n : Nat) := by omega
    simp (disch := omega) [F.burrowlaw18_StageOrdersl0, F.burrowlaw18_StageOrdersc3, e0]
    have e1 : (all.map encB).drop (all.length - n) = (all.drop (all.length - n)).map encB := by simp
    have e2 : all.length - (all.length - n) = (all.drop (all.length - n)).length := by simp
    have hbw : ∀ b ∈ all.drop (all.length - n), b.length ≤ 1073741824 := fun b hb => hb3 b (List.mem_of_mem_drop hb)
    have hlw : (all.drop (all.length - n)).length ≤ 12 := by simp; omega
    rw [e1, e2]
    generalize all.drop (all.length - n) = ws at *
    clear e1 e2
    refine LpS.rng ws.length (fun _ => True) [4, 7, 54, 55, 56] (fun j => [(7, encBs (ws.drop j)), (56, .int .i64 j)]) (fun i => []) [] ?_
    simp
    refine ⟨fun j hj K hK => ?_, fun K => ?_⟩
    · have hd : ws.drop j = ws[j] :: ws.drop (j + 1) := (List.drop_eq_getElem_cons hj)
      have hx : ws[j]? = some ws[j] := List.getElem?_eq_getElem hj
      simp [F.burrowlaw18_StageOrdersl1, hx, hj, encB]
      refine callS.ret (stage_Pop (ll := ws.drop j) (by simp; omega) (fun b hb => hbw b (List.mem_of_mem_drop hb))) (by simp) (by simp) (by rw [hd]; simp [popV]) ?_
      rw [hd]
      simp (disch := omega) [popV, encB, encBs]
      refine ⟨fun hne => absurd (by omega) hne, fun _ => ⟨[], hK _ (by simp [encBs])⟩⟩
    · simp [F.burrowlaw18_StageOrdersl1, F.burrowlaw18_StageOrdersc2]
      refine callS.ret (stage_Pop (ll := []) (by simp) (by simp)) (by simp) (by simp) (by simp [popV]) ?_
      simp [popV]
      refine callS.ret burrowlaw18_begun (by simp) (by simp) (by simp) ?_
      simp
      refine RetS.plain [.keep [4]] ?_
      simp
end Go.Ab
