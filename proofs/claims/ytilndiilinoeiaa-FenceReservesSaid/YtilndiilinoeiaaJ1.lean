/- The law FenceReserves: what it computes. -/
import Derived.Test.YtilndiilinoeiaaH3
import Derived.Test.YtilndiilinoeiaaD7
set_option linter.all false
namespace Go.Ab
open Go.Ab
set_option maxRecDepth 10000 in
theorem burrowcase_New {l : List UInt8} (hl : l.length ≤ 9223372036854775807) {n : Nat} (hn : n ≤ 1000000) : ACalls Pg I.burrowcase_New [encB l, .int .i64 n] [] (fun r fp => r = .pt KB [] 0 ∧ fp = [.box (encC ⟨l.take n, 0⟩)]) := by
  refine ACalls.intro T.burrowcase_New (by simp [F.burrowcase_New]) ?_
  simp [F.burrowcase_New, argEnv, fpBx]
  have hmin : (min (l.length : Int) (n : Int)) = ((min l.length n : Nat) : Int) := by omega
  have ht : (List.map u8 l).take (min l.length n) = (l.take n).map u8 := by
    rw [← List.map_take]; congr 1
    rcases Nat.le_total l.length n with h | h
    · rw [Nat.min_eq_left h, List.take_length, List.take_of_length_le h]
    · rw [Nat.min_eq_right h]
  simp (disch := omega) [encB, hmin, ht]
  refine ⟨by omega, ?_⟩
  refine RetS.with [] [12] ?_
  simp [refsOkB, refsOk, refsOkL, renB, ren, renL]
  simp [encC, encB]
set_option maxRecDepth 10000 in
theorem burrowlaw29_begun : ARet Pg I.burrowlaw29_begun [] (.bl true) := by
  refine ACalls.intro T.burrowlaw29_begun (by simp [F.burrowlaw29_begun]) ?_
  simp [F.burrowlaw29_begun, argEnv, fpBx]
  refine callS.ret (fence_Edge (s := { zSes with next := 10 }) (r := ⟨0, 50, 0, 0, 0, 0, 0, 0, 0, 0⟩) (n := 100) ⟨by decide, by decide⟩ ⟨by decide, by decide⟩) (by simp; exact ⟨rfl, rfl⟩) (by simp) (by simp) ?_
  simp [edge]
  refine RetS.plain [] ?_
  simp [zSes]
  decide
theorem Nice_vm {d : Dmn} {m : Nat} (h : VM d m) : Nice d := by
  refine ⟨h.vd.sml, fun p hp => ?_⟩
  have hpo := h.vd.per p hp
  have key : ∀ q : Plc, PlcOk d q → U64 q.ses.next := by
    rintro q (⟨_, hq⟩ | ⟨_, rfl⟩)
    · obtain ⟨_, _, _, a, b, _⟩ := hq; exact ⟨a, by omega⟩
    · exact ⟨by decide, by decide⟩
  exact ⟨key _ hpo.rp, key _ hpo.rc, key _ hpo.rn⟩
theorem all_nice {d : Dmn} (h : Nice d) {φ : Ses → Ses} (hφ : ∀ s, U64 s.next → U64 (φ s).next) : Nice (all_ φ d) := by
  obtain ⟨⟨a1, a2, a3, a4, a5, a6, a7⟩, h2⟩ := h
  refine ⟨⟨by show (d.peers.map (pk φ 3)).length ≤ _; rw [List.length_map]; exact a1, a2, a3, a4, a5, a6, fun p hp => ?_⟩, fun p hp => ?_⟩
  · obtain ⟨q, hq, rfl⟩ := List.mem_map.1 (show p ∈ d.peers.map (pk φ 3) from hp)
    exact a7 q hq
  · obtain ⟨q, hq, rfl⟩ := List.mem_map.1 (show p ∈ d.peers.map (pk φ 3) from hp)
    obtain ⟨b1, b2, b3⟩ := h2 q hq
    have key : ∀ x : Plc, U64 x.ses.next → U64 (pl φ x).ses.next := by
      intro x hx
      unfold pl; split
      · exact hφ _ hx
      · exact hx
    exact ⟨key _ b1, key _ b2, key _ b3⟩
theorem U64_edge {a b c : Int} (ha : U64 a) (hb : U64 b) (hc : 0 ≤ c) : U64 (edge a b c) := by
  obtain ⟨h1, h2⟩ := ha
  obtain ⟨h3, h4⟩ := hb
  unfold edge U64
  split <;> omega
theorem U64_mod {n : Int} (h : U64 n) : U64 (n.tmod 100) := by
  obtain ⟨h1, h2⟩ := h
  rw [Int.tmod_eq_emod_of_nonneg h1]
  exact ⟨by omega, by omega⟩
set_option maxRecDepth 10000 in
set_option maxHeartbeats 4000000 in
theorem burrowlaw29_FenceReserves {l : List UInt8} (hl : l.length ≤ 9223372036854775807) {n : Int} (hn : U64 n) {s : Ses} (hs : U64 s.next) (r : Rul) :
    ARet Pg I.burrowlaw29_FenceReserves [encB l, .int .u64 n, encS s, encRu r] (.bl true) := by
  refine ACalls.intro T.burrowlaw29_FenceReserves (by simp [F.burrowlaw29_FenceReserves]) ?_
  simp [F.burrowlaw29_FenceReserves, argEnv, fpBx]
  refine callS.gen [] [20] [] (burrowcase_New hl (n := 160) (by omega)) (by simp [getAll]) (by simp) (by simp) (by simp [refsOkL]) (by simp) (by simp [renL]) (by simp) (by simp [refsOkB, refsOk, inFp, (pure_encC _).refs]) ?_
  simp [putAll, renB, ren, ren2, (pure_encC _).ren]
  have hC : CdsOk ⟨l.take 160, 0⟩ := ⟨by simp; omega, by simp⟩
  refine callS.cdsE 20 (burrowmake_Daemon hC) (by simp) (by simp [refsOkL, refsOk, inKs, idx]) (by simp [renL, ren, ren1, idx]) (by simp) ?_
  rintro ⟨d, c⟩ ⟨hV, hp2, _⟩
  dsimp only at hV hp2
  simp
  obtain ⟨p0, p1, ps, hps⟩ : ∃ p0 p1 ps, d.peers = p0 :: p1 :: ps := by
    match h : d.peers, hp2 with
    | p0 :: p1 :: ps, _ => exact ⟨p0, p1, ps, rfl⟩
  have hL3 := hV.vd.pks.1
  have hNd := Nice_vm hV
  have hl2 : ps.length ≤ 1 := by have := hps ▸ hL3; simp at this; omega
  have e1 : PV.st 77 [.bl true, encS s] = encP ⟨true, s⟩ := rfl
  obtain ⟨q0, hq0⟩ : ∃ q : Per, q = { p0 with ring := { p0.ring with c := ⟨true, s⟩ } } := ⟨_, rfl⟩
  obtain ⟨q1, hq1⟩ : ∃ q : Per, q = { p1 with ring := { p1.ring with n := { p1.ring.n with ses := s } } } := ⟨_, rfl⟩
  obtain ⟨x, hx⟩ : ∃ x : Dmn, x = { d with peers := q0 :: q1 :: ps } := ⟨_, rfl⟩
  have hq : ∀ p ∈ (p0 :: p1 :: ps), (p.staged.length ≤ 1048576 ∧ ∀ b ∈ p.staged, b.length ≤ 1048576) ∧ RngOk p.ring := fun p hp => ⟨hNd.staged p (hps ▸ hp), hNd.ring p (hps ▸ hp)⟩
  have hNx : Nice x := by
    have b0 := hq p0 (by simp)
    have b1 := hq p1 (by simp)
    have hall : ∀ p ∈ q0 :: q1 :: ps, (p.staged.length ≤ 1048576 ∧ ∀ b ∈ p.staged, b.length ≤ 1048576) ∧ RngOk p.ring := by
      intro p hp
      simp only [List.mem_cons] at hp
      rcases hp with rfl | rfl | hp
      · rw [hq0]; exact ⟨b0.1, b0.2.1, hs, b0.2.2.2⟩
      · rw [hq1]; exact ⟨b1.1, b1.2.1, b1.2.2.1, hs⟩
      · exact hq p (by simp [hp])
    rw [hx]
    exact ⟨⟨by show (q0 :: q1 :: ps).length ≤ _; simp; omega, hNd.routes, hNd.slots, hNd.timers, hNd.recent, hNd.buckets, fun p hp => (hall p hp).1⟩, fun p hp => (hall p hp).2⟩
  simp [hps, e1]
  rw [← hq0, ← hq1]
  refine ⟨⟨by omega, by omega⟩, by omega, ?_⟩
  obtain ⟨ds, hds⟩ : ∃ ds : List Dmn, ds = [d, x] := ⟨_, rfl⟩
  have hdsl : ds.length = 2 := by rw [hds]; rfl
  have hNds : ∀ y ∈ ds, Nice y := by rw [hds]; intro y hy; simp at hy; rcases hy with rfl | rfl <;> assumption
  have hrj : ∀ y ∈ ds, 0 ≤ y.rules.rejm := by
    have : 0 ≤ d.rules.rejm := by obtain ⟨q1, q2, _⟩ := hV.vd.ru; omega
    rw [hds]; intro y hy; simp at hy
    rcases hy with rfl | rfl
    · exact this
    · rw [hx]; exact this
  refine LpS.rng 2 (fun _ => True) [1, 6, 7, 43, 44, 45] (fun i => [(45, .int .i64 i), (43, .sl 148 (ds.map encD) true)]) (fun _ => []) [.keep [1, 6, 7, 43, 44, 45], .fz 25] ?_
  simp [refsOkL]
  refine ⟨by rw [hds, hx]; rfl, ?_, ?_⟩
  · intro i hi K hK
    have hxi : ds[i]? = some ds[i] := List.getElem?_eq_getElem (by omega)
    have hN := hNds ds[i] (List.getElem_mem _)
    obtain ⟨y, hy⟩ : ∃ y, y = ds[i] := ⟨_, rfl⟩
    have hrj : 0 ≤ y.rules.rejm := hrj ds[i] (List.getElem_mem _) |> (hy ▸ ·)
    rw [← hy] at hxi hN
    have wi : IntKind.i64.wrap ((i : Int) + 1) = (i : Int) + 1 := wrap_i64 (by omega)
    have hi2 : (i : Int) < 2 := by omega
    simp [F.burrowlaw29_FenceReservesl2, hdsl, hi, hi2, hxi, ← hy]
    obtain ⟨ns, hns⟩ : ∃ ns : List Int, ns = [n, n.tmod 100, 0] := ⟨_, rfl⟩
    have hnsl : ns.length = 3 := by rw [hns]; rfl
    have hU : ∀ k ∈ ns, U64 k := by
      rw [hns]; intro k hk; simp at hk
      rcases hk with rfl | rfl | rfl
      · exact hn
      · exact U64_mod hn
      · exact ⟨by decide, by decide⟩
    refine LpS.rng 3 (fun _ => True) [1, 6, 7, 12, 43, 44, 45, 52, 53, 54] (fun j => [(54, .int .i64 j), (52, .sl 1 (ns.map (PV.int .u64)) true)]) (fun _ => []) [.keep [1, 6, 7, 12, 43, 44, 45, 52, 53, 54]] ?_
    simp
    refine ⟨by rw [hns]; rfl, ?_, ?_⟩
    · intro j hj K2 hK2
      have hxj : ns[j]? = some ns[j] := List.getElem?_eq_getElem (by omega)
      have hm := hU ns[j] (List.getElem_mem _)
      obtain ⟨m, hme⟩ : ∃ m, m = ns[j] := ⟨_, rfl⟩
      rw [← hme] at hxj hm
      have wj : IntKind.i64.wrap ((j : Int) + 1) = (j : Int) + 1 := wrap_i64 (by omega)
      have hj2 : (j : Int) < 3 := by omega
      have hNl : Nice (all_ (low m y.rules.rejm) y) := all_nice hN (fun s h => h)
      have hNr : Nice (all_ (rise m y.rules.rejm) y) := all_nice hN (fun s h => U64_edge h hm hrj)
      have hNf : Nice (all_ (lift_ (all_ (low m y.rules.rejm) y).rules.rejm) (all_ (low m y.rules.rejm) y)) := all_nice hNl (fun s h => h)
      simp [F.burrowlaw29_FenceReservesl0, hnsl, hj, hj2, hxj, ← hme]
      refine callS.ret (fence_Reserve hN hm) (by simp) (by simp) (by simp) ?_
      simp
      refine callS.ret (burrowref29_Reserve hN hm) (by simp) (by simp) (by simp) ?_
      simp
      refine callT.ret (burrowref25_Same hNl.toSml) (by simp) (by simp) (by simp) ?_
      simp
      refine callT.ret (burrowref25_Same hNr.toSml) (by simp) (by simp) (by simp) ?_
      simp
      refine callT.ret (fence_Lift hNl) (by simp) (by simp) (by simp) ?_
      simp
      refine callT.ret (burrowref29_Lift hNl) (by simp) (by simp) (by simp) ?_
      simp
      refine callT.ret (burrowref25_Same hNf.toSml) (by simp) (by simp) (by simp) ?_
      simp [wj]
      refine ⟨[.keep [1, 6, 7, 12, 43, 44, 45, 52, 53, 54], .dr 15, .dr 16, .dr 17, .dr 18], ?_⟩
      simp [refsEnv, refsBx, refsOk, refsOkB, refsOkL]
      exact hK2 _ (by simp)
    · intro K2
      simp [F.burrowlaw29_FenceReservesl0, F.burrowlaw29_FenceReservesc1, wi]
      refine ⟨[.keep [1, 6, 7, 43, 44, 45], .dr 12], ?_⟩
      simp [refsEnv, refsBx, refsOk, refsOkB, refsOkL]
      exact hK _ (by simp)
  · intro K
    simp [F.burrowlaw29_FenceReservesl2, F.burrowlaw29_FenceReservesc3]
    refine callT.ret (fence_Edge (r := r) hs hn) (by simp) (by simp) (by simp) ?_
    simp
    refine callT.ret (burrowref29_Edge (r := r) hs hn) (by simp) (by simp) (by simp) ?_
    simp
    refine callT.ret (fence_Edge (r := r) hs (U64_mod hn)) (by simp) (by simp) (by simp) ?_
    simp
    refine callT.ret (burrowref29_Edge (r := r) hs (U64_mod hn)) (by simp) (by simp) (by simp) ?_
    simp
    refine callT.ret burrowlaw29_begun (by simp) (by simp) (by simp) ?_
    simp
    refine RetS.plain [] ?_
    simp
end Go.Ab
