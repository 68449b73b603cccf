/- RingConserves: the walk. -/
import Derived.Test.YtafmeafepngngaaR3
set_option linter.all false
namespace Go.Ab
open Go.Ab

theorem take_min_i {α : Type} (l : List α) (n : Int) : l.take (min (l.length : Int) n).toNat = l.take n.toNat := by
  by_cases hn : n ≤ l.length
  · rw [show (min (l.length : Int) n).toNat = n.toNat by omega]
  · rw [show (min (l.length : Int) n).toNat = l.length by omega, List.take_of_length_le (by simp), List.take_of_length_le (by omega)]

set_option maxRecDepth 20000 in
set_option maxHeartbeats 4000000 in
theorem burrowlaw23_RingConserves {b : List UInt8} (hb : b.length ≤ 9223372036854775807) : ARet Pg I.burrowlaw23_RingConserves [.sl 1 (b.map u8) false] (.bl true) := by
  refine ACalls.intro T.burrowlaw23_RingConserves (by simp [F.burrowlaw23_RingConserves]) ?_
  have e := take_min_i b 30
  simp [F.burrowlaw23_RingConserves, argEnv, fpBx, ← List.map_take, e]
  refine ⟨by omega, ?_⟩
  have hl2 : (b.take 30).length ≤ 30 := by simp; omega
  have hm2 : min 30 b.length = (b.take 30).length := by simp
  rw [hm2]
  clear e hm2
  generalize b.take 30 = l at *
  refine LpS.rng l.length (fun _ => True) [2, 3, 17, 18, 19] (fun i => [(19, .int .i64 i)]) (fun i => [(3, .box (encR (sts l i)))]) [] ?_
  simp [show sts l 0 = R0 from rfl]
  refine ⟨by simp [encR, encP, encS, R0, P0, S0], fun i hi K hK => ?_, fun K => ?_⟩
  · have hx : l[i]? = some l[i] := List.getElem?_eq_getElem hi
    have hu := l[i].toNat_lt
    have hK : ∀ s2 : St, upd s2 [2, 3, 17, 18, 19] [] [] = _ → K s2 := hK
    simp only [sts, hx, Option.getD_some] at hK
    obtain ⟨x, hxx⟩ : ∃ x, l[i].toNat = x := ⟨_, rfl⟩
    rw [hxx] at hK hu
    generalize sts l i = r at *
    simp (disch := omega) [F.burrowlaw23_RingConservesl3, hx, hi, u8, hxx]
    refine callS.ret (ring_Locals r) (by simp) (by simp) (by simp) ?_
    have hbl := allL_len r
    have hcon := cons_one r i x
    have hdl := dr_len r i x
    obtain ⟨bef, hbe⟩ : ∃ bef, locs [r.p, r.c, r.n] = bef := ⟨_, rfl⟩
    rw [hbe]
    unfold allL at hbl
    have hm : ((x : Int).tmod 3) = ((x % 3 : Nat) : Int) := by rw [Int.tmod_eq_emod_of_nonneg (by omega)]; omega
    have hm3 : x % 3 < 3 := Nat.mod_lt _ (by omega)
    rcases (by omega : x % 3 = 0 ∨ x % 3 = 1 ∨ x % 3 = 2) with h3 | h3 | h3
    · have ho : one r i x = ((bgn r (ses i)).1, [100 + (i : Int)], (bgn r (ses i)).2) := by simp [one, h3]
      rw [ho] at hK hcon hdl
      simp (disch := omega) [encU, hm, h3]
      refine callS.ret (ring_Begin r (ses i)) (by simp [encS, ses, S0]) (by simp) (by simp) ?_
      obtain ⟨⟨r2, dr⟩, hb2⟩ : ∃ q, bgn r (ses i) = q := ⟨_, rfl⟩
      rw [hb2] at hK hcon hdl ⊢
      obtain ⟨ad, had⟩ : ∃ ad, [100 + (i : Int)] = ad := ⟨_, rfl⟩
      rw [had] at hcon hdl
      simp only [] at hK hcon hdl
      have hdr : True := trivial
      have h9 : PV.sl 1 [PV.int .u32 (100 + (i : Int))] true = .sl 1 (ad.map u32) true := by simp [← had]
      simp
      rw [h9]
      refine callS.ret (ring_Locals r2) (by simp) (by simp) (by simp) ?_
      have hnl := allL_len r2
      unfold allL at hnl hcon
      rw [hbe] at hcon
      obtain ⟨now, hnw⟩ : ∃ now, locs [r2.p, r2.c, r2.n] = now := ⟨_, rfl⟩
      rw [hnw] at hcon hnl ⊢
      rw [hbe] at hbl
      simp (disch := omega) [encU]
      repeat (refine ⟨by omega, ?_⟩)
      obtain ⟨all, hall⟩ : ∃ all, bef ++ (ad ++ now) = all := ⟨_, rfl⟩
      have hlen : bef.length + ad.length + now.length = all.length := by rw [← hall]; simp; omega
      have hlen2 : (bef.length : Int) + ad.length + now.length = (all.length : Nat) := by omega
      have hmap : List.map u32 bef ++ (List.map u32 ad ++ List.map u32 now) = all.map u32 := by rw [← hall]; simp
      rw [hlen, hlen2, hmap]
      refine LpS.rng all.length (fun _ => True) [2, 3, 7, 8, 9, 10, 17, 18, 19, 73, 74, 75] (fun j => [(75, .int .i64 j)]) (fun j => []) [.keep [2, 3, 6, 7, 8, 9, 10, 17, 18, 19, 73, 74, 75], .fz 69] ?_
      simp
      refine ⟨fun j hj K2 hK2 => ?_, fun K2 => ?_⟩
      · have hy : all[j]? = some all[j] := List.getElem?_eq_getElem hj
        obtain ⟨y, hyy⟩ : ∃ y, all[j] = y := ⟨_, rfl⟩
        rw [hyy] at hy
        simp (disch := omega) [F.burrowlaw23_RingConservesl0, hy, hj, hyy]
        refine callS.ret (burrowlaw23_count (x := y) (l := [bef, ad]) (by simp) (by intro a ha; simp at ha; rcases ha with rfl | rfl <;> omega)) (by simp [encU]) (by simp) (by simp) ?_
        simp
        refine callS.ret (burrowlaw23_count (x := y) (l := [now, dr]) (by simp) (by intro a ha; simp at ha; rcases ha with rfl | rfl <;> omega)) (by simp [encU, hdr]) (by simp) (by simp) ?_
        simp (disch := omega) [hcon]
        refine ⟨[.keep [2, 3, 7, 8, 9, 10, 17, 18, 19, 73, 74, 75]], ?_⟩
        simp
        exact hK2 _ (by simp)
      · have hn3 : ¬ (3 < (now.length : Int)) := by omega
        simp (disch := omega) [F.burrowlaw23_RingConservesl0, F.burrowlaw23_RingConservesc1, F.burrowlaw23_RingConservesc2, hn3]
        refine ⟨[.keep [2, 3, 17, 18, 19], .dr 6], ?_⟩
        simp
        exact hK _ (by simp)
    · have ho : one r i x = ((ans r (ses i)).1, [100 + (i : Int)], (ans r (ses i)).2) := by simp [one, h3]
      rw [ho] at hK hcon hdl
      simp (disch := omega) [encU, hm, h3]
      refine callS.ret (ring_Answer r (ses i)) (by simp [encS, ses, S0]) (by simp) (by simp) ?_
      obtain ⟨⟨r2, dr⟩, hb2⟩ : ∃ q, ans r (ses i) = q := ⟨_, rfl⟩
      rw [hb2] at hK hcon hdl ⊢
      obtain ⟨ad, had⟩ : ∃ ad, [100 + (i : Int)] = ad := ⟨_, rfl⟩
      rw [had] at hcon hdl
      simp only [] at hK hcon hdl
      have hdr : True := trivial
      have h9 : PV.sl 1 [PV.int .u32 (100 + (i : Int))] true = .sl 1 (ad.map u32) true := by simp [← had]
      simp
      rw [h9]
      refine callS.ret (ring_Locals r2) (by simp) (by simp) (by simp) ?_
      have hnl := allL_len r2
      unfold allL at hnl hcon
      rw [hbe] at hcon
      obtain ⟨now, hnw⟩ : ∃ now, locs [r2.p, r2.c, r2.n] = now := ⟨_, rfl⟩
      rw [hnw] at hcon hnl ⊢
      rw [hbe] at hbl
      simp (disch := omega) [encU]
      repeat (refine ⟨by omega, ?_⟩)
      obtain ⟨all, hall⟩ : ∃ all, bef ++ (ad ++ now) = all := ⟨_, rfl⟩
      have hlen : bef.length + ad.length + now.length = all.length := by rw [← hall]; simp; omega
      have hlen2 : (bef.length : Int) + ad.length + now.length = (all.length : Nat) := by omega
      have hmap : List.map u32 bef ++ (List.map u32 ad ++ List.map u32 now) = all.map u32 := by rw [← hall]; simp
      rw [hlen, hlen2, hmap]
      refine LpS.rng all.length (fun _ => True) [2, 3, 7, 8, 9, 10, 17, 18, 19, 73, 74, 75] (fun j => [(75, .int .i64 j)]) (fun j => []) [.keep [2, 3, 6, 7, 8, 9, 10, 17, 18, 19, 73, 74, 75], .fz 69] ?_
      simp
      refine ⟨fun j hj K2 hK2 => ?_, fun K2 => ?_⟩
      · have hy : all[j]? = some all[j] := List.getElem?_eq_getElem hj
        obtain ⟨y, hyy⟩ : ∃ y, all[j] = y := ⟨_, rfl⟩
        rw [hyy] at hy
        simp (disch := omega) [F.burrowlaw23_RingConservesl0, hy, hj, hyy]
        refine callS.ret (burrowlaw23_count (x := y) (l := [bef, ad]) (by simp) (by intro a ha; simp at ha; rcases ha with rfl | rfl <;> omega)) (by simp [encU]) (by simp) (by simp) ?_
        simp
        refine callS.ret (burrowlaw23_count (x := y) (l := [now, dr]) (by simp) (by intro a ha; simp at ha; rcases ha with rfl | rfl <;> omega)) (by simp [encU, hdr]) (by simp) (by simp) ?_
        simp (disch := omega) [hcon]
        refine ⟨[.keep [2, 3, 7, 8, 9, 10, 17, 18, 19, 73, 74, 75]], ?_⟩
        simp
        exact hK2 _ (by simp)
      · have hn3 : ¬ (3 < (now.length : Int)) := by omega
        simp (disch := omega) [F.burrowlaw23_RingConservesl0, F.burrowlaw23_RingConservesc1, F.burrowlaw23_RingConservesc2, hn3]
        refine ⟨[.keep [2, 3, 17, 18, 19], .dr 6], ?_⟩
        simp
        exact hK _ (by simp)
    · obtain ⟨ad, had⟩ : ∃ ad : List Int, [] = ad := ⟨_, rfl⟩
      have h9 : PV.sl 1 [] true = .sl 1 (ad.map u32) true := by simp [← had]
      cases hgl : bef.getLast? with
      | none =>
        have hb0 : bef = [] := List.getLast?_eq_none_iff.1 hgl
        have ho : one r i x = (r, [], []) := by simp [one, h3, allL, hbe, hgl]
        rw [ho] at hK
        clear hcon hdl
        obtain ⟨dr, hdr⟩ : ∃ dr : List Int, dr = ad := ⟨_, rfl⟩
        obtain ⟨r2, hr2⟩ : ∃ r2, r2 = r := ⟨_, rfl⟩
        have hcon : ∀ y : Int, cnt y [allL r, ad] = cnt y [allL r2, dr] := by intro y; rw [hr2, hdr]
        have hdl : dr.length ≤ 3 ∧ ad.length ≤ 1 := by rw [hdr, ← had]; simp
        have h7 : PV.sl 1 [] false = .sl 1 (bef.map u32) false := by simp [hb0]
        simp (disch := omega) [encU, hm, h3, hb0]
        rw [h7, h9, ← hr2]
        rw [← hr2] at hK
        simp only [] at hK
        refine callS.ret (ring_Locals r2) (by simp) (by simp) (by simp) ?_
        have hnl := allL_len r2
        unfold allL at hnl hcon
        rw [hbe] at hcon
        obtain ⟨now, hnw⟩ : ∃ now, locs [r2.p, r2.c, r2.n] = now := ⟨_, rfl⟩
        rw [hnw] at hcon hnl ⊢
        rw [hbe] at hbl
        simp (disch := omega) [encU]
        repeat (refine ⟨by omega, ?_⟩)
        obtain ⟨all, hall⟩ : ∃ all, bef ++ (ad ++ now) = all := ⟨_, rfl⟩
        have hlen : bef.length + ad.length + now.length = all.length := by rw [← hall]; simp; omega
        have hlen2 : (bef.length : Int) + ad.length + now.length = (all.length : Nat) := by omega
        have hmap : List.map u32 bef ++ (List.map u32 ad ++ List.map u32 now) = all.map u32 := by rw [← hall]; simp
        rw [hlen, hlen2, hmap]
        refine LpS.rng all.length (fun _ => True) [2, 3, 7, 8, 9, 10, 17, 18, 19, 73, 74, 75] (fun j => [(75, .int .i64 j)]) (fun j => []) [.keep [2, 3, 6, 7, 8, 9, 10, 17, 18, 19, 73, 74, 75], .fz 69] ?_
        simp
        refine ⟨fun j hj K2 hK2 => ?_, fun K2 => ?_⟩
        · have hy : all[j]? = some all[j] := List.getElem?_eq_getElem hj
          obtain ⟨y, hyy⟩ : ∃ y, all[j] = y := ⟨_, rfl⟩
          rw [hyy] at hy
          simp (disch := omega) [F.burrowlaw23_RingConservesl0, hy, hj, hyy]
          refine callS.ret (burrowlaw23_count (x := y) (l := [bef, ad]) (by simp) (by intro a ha; simp at ha; rcases ha with rfl | rfl <;> omega)) (by simp [encU]) (by simp) (by simp) ?_
          simp
          refine callS.ret (burrowlaw23_count (x := y) (l := [now, dr]) (by simp) (by intro a ha; simp at ha; rcases ha with rfl | rfl <;> omega)) (by simp [encU, hdr]) (by simp) (by simp) ?_
          simp (disch := omega) [hcon]
          refine ⟨[.keep [2, 3, 7, 8, 9, 10, 17, 18, 19, 73, 74, 75]], ?_⟩
          simp
          exact hK2 _ (by simp)
        · have hn3 : ¬ (3 < (now.length : Int)) := by omega
          simp (disch := omega) [F.burrowlaw23_RingConservesl0, F.burrowlaw23_RingConservesc1, F.burrowlaw23_RingConservesc2, hn3]
          refine ⟨[.keep [2, 3, 17, 18, 19], .dr 6], ?_⟩
          simp
          exact hK _ (by simp)
      | some y =>
        have hpos : 0 < bef.length := by
          cases bef with
          | nil => simp at hgl
          | cons _ _ => simp
        have hlast : bef[bef.length - 1]? = some y := by rw [← List.getLast?_eq_getElem?]; exact hgl
        have ho : one r i x = ((cnf r y).1, [], (cnf r y).2.2) := by simp [one, h3, allL, hbe, hgl]
        rw [ho] at hK hcon hdl
        have hw : IntKind.i64.wrap ((bef.length : Int) - 1) = ((bef.length - 1 : Nat) : Int) := by
          rw [hbe] at hbl
          simp (disch := omega)
          omega
        have hw2 : ((bef.length - 1 : Nat) : Int) < bef.length := by omega
        simp (disch := omega) [encU, hm, h3, hpos, hw, hlast, hw2]
        obtain ⟨_, hl3⟩ := List.getElem?_eq_some_iff.1 hlast
        refine callT.ret (ring_Confirm r y) (by simp [hl3]) (by simp) (by simp) ?_
        obtain ⟨⟨r2, bo, dr⟩, hb2⟩ : ∃ q, cnf r y = q := ⟨_, rfl⟩
        rw [hb2] at hK hcon hdl ⊢
        rw [had] at hcon hdl
        simp only [] at hK hcon hdl
        have hdr : True := trivial
        simp
        rw [h9]
        refine callS.ret (ring_Locals r2) (by simp) (by simp) (by simp) ?_
        have hnl := allL_len r2
        unfold allL at hnl hcon
        rw [hbe] at hcon
        obtain ⟨now, hnw⟩ : ∃ now, locs [r2.p, r2.c, r2.n] = now := ⟨_, rfl⟩
        rw [hnw] at hcon hnl ⊢
        rw [hbe] at hbl
        simp (disch := omega) [encU]
        repeat (refine ⟨by omega, ?_⟩)
        obtain ⟨all, hall⟩ : ∃ all, bef ++ (ad ++ now) = all := ⟨_, rfl⟩
        have hlen : bef.length + ad.length + now.length = all.length := by rw [← hall]; simp; omega
        have hlen2 : (bef.length : Int) + ad.length + now.length = (all.length : Nat) := by omega
        have hmap : List.map u32 bef ++ (List.map u32 ad ++ List.map u32 now) = all.map u32 := by rw [← hall]; simp
        rw [hlen, hlen2, hmap]
        refine LpS.rng all.length (fun _ => True) [2, 3, 7, 8, 9, 10, 17, 18, 19, 73, 74, 75] (fun j => [(75, .int .i64 j)]) (fun j => []) [.keep [2, 3, 6, 7, 8, 9, 10, 17, 18, 19, 73, 74, 75], .fz 69] ?_
        simp
        refine ⟨fun j hj K2 hK2 => ?_, fun K2 => ?_⟩
        · have hy : all[j]? = some all[j] := List.getElem?_eq_getElem hj
          obtain ⟨y, hyy⟩ : ∃ y, all[j] = y := ⟨_, rfl⟩
          rw [hyy] at hy
          simp (disch := omega) [F.burrowlaw23_RingConservesl0, hy, hj, hyy]
          refine callS.ret (burrowlaw23_count (x := y) (l := [bef, ad]) (by simp) (by intro a ha; simp at ha; rcases ha with rfl | rfl <;> omega)) (by simp [encU]) (by simp) (by simp) ?_
          simp
          refine callS.ret (burrowlaw23_count (x := y) (l := [now, dr]) (by simp) (by intro a ha; simp at ha; rcases ha with rfl | rfl <;> omega)) (by simp [encU, hdr]) (by simp) (by simp) ?_
          simp (disch := omega) [hcon]
          refine ⟨[.keep [2, 3, 7, 8, 9, 10, 17, 18, 19, 73, 74, 75]], ?_⟩
          simp
          exact hK2 _ (by simp)
        · have hn3 : ¬ (3 < (now.length : Int)) := by omega
          simp (disch := omega) [F.burrowlaw23_RingConservesl0, F.burrowlaw23_RingConservesc1, F.burrowlaw23_RingConservesc2, hn3]
          refine ⟨[.keep [2, 3, 17, 18, 19], .dr 6], ?_⟩
          simp
          exact hK _ (by simp)
  · simp [F.burrowlaw23_RingConservesl3, F.burrowlaw23_RingConservesc4]
    refine callS.ret burrowlaw23_begun (by simp) (by simp) (by simp) ?_
    simp
    refine RetS.plain [.keep [2]] ?_
    simp
end Go.Ab
