/- burrowmake.Daemon. -/
import Derived.Test.YtilndiilinoeiaaH3a
set_option linter.all false
namespace Go.Ab
open Go.Ab
def zRng : Rng := ⟨zPlc, zPlc, zPlc⟩
def pz (i : Nat) (e : Bool) (k : Int) : Per := ⟨kOf i, zKy, e, if e = true then atOf i else zEpn, k, zSm, false, 0, zHnd, false, zTg, 0, zTg, zRng, []⟩
theorem pz_ok {d : Dmn} {i : Nat} (hi : i < 3) {e : Bool} {k : Int} (hk : k = 0 ∨ 1000 ≤ k ∧ k ≤ 1073741824) : PerOk d (pz i e k) := by
  refine ⟨?_, hk, rfl, rfl, rfl, rfl, rfl, rfl, rfl, .z d, .z d, .z d⟩
  cases e
  · exact Or.inr ⟨rfl, rfl⟩
  · exact Or.inl ⟨rfl, i, hi, rfl⟩
set_option maxRecDepth 10000 in
set_option maxHeartbeats 4000000 in
theorem burrowmake_Daemon {c : Cds} (h : CdsOk c) :
    ACalls Pg I.burrowmake_Daemon [.pt KB [] 0] [.box (encC c)] (fun r fp => ∃ w : Dmn × Cds, (VM w.1 40 ∧ w.1.peers.length ≥ 2 ∧ CdsOk w.2) ∧ r = encD w.1 ∧ fp = [.box (encC w.2)]) := by
  refine ACalls.intro T.burrowmake_Daemon (by simp [F.burrowmake_Daemon]) ?_
  simp [F.burrowmake_Daemon, argEnv, fpBx]
  refine callS.cdsE KB (Codes_Rules h) (by simp) (by simp [refsOkL, refsOk, inKs, idx]) (by simp [renL, ren, ren1, idx]) (by simp) ?_
  rintro ⟨ru, c1⟩ ⟨hru, o1⟩
  simp
  refine callS.cdsE KB (Codes_Key o1) (by simp) (by simp [refsOkL, refsOk, inKs, idx]) (by simp [renL, ren, ren1, idx]) (by simp) ?_
  rintro ⟨k1, c2⟩ o2
  simp
  refine callS.cdsE KB (Codes_Key o2) (by simp) (by simp [refsOkL, refsOk, inKs, idx]) (by simp [renL, ren, ren1, idx]) (by simp) ?_
  rintro ⟨k2, c3⟩ o3
  simp
  refine callS.cdsE KB ((Codes_Big o3 65536 (by omega) (by omega)).mono (R' := fun r fp => ∃ w : Nat × Cds, (CdsOk w.2 ∧ w.1 < 65536) ∧ r = .int .i64 w.1 ∧ fp = [.box (encC w.2)]) ?_) (by simp) (by simp [refsOkL, refsOk, inKs, idx]) (by simp [renL, ren, ren1, idx]) (by simp) ?_
  · rintro r fp ⟨m, c', a, b, e, f⟩; exact ⟨⟨m, c'⟩, ⟨a, b⟩, e, f⟩
  rintro ⟨po, c4⟩ ⟨o4, hpo⟩
  simp
  refine callS.cdsE KB (Codes_Key o4) (by simp) (by simp [refsOkL, refsOk, inKs, idx]) (by simp [renL, ren, ren1, idx]) (by simp) ?_
  rintro ⟨k3, c5⟩ o5
  simp
  refine callS.cdsE KB ((Codes_Big o5 16777216 (by omega) (by omega)).mono (R' := fun r fp => ∃ w : Nat × Cds, (CdsOk w.2 ∧ w.1 < 16777216) ∧ r = .int .i64 w.1 ∧ fp = [.box (encC w.2)]) ?_) (by simp) (by simp [refsOkL, refsOk, inKs, idx]) (by simp [renL, ren, ren1, idx]) (by simp) ?_
  · rintro r fp ⟨m, c', a, b, e, f⟩; exact ⟨⟨m, c'⟩, ⟨a, b⟩, e, f⟩
  rintro ⟨nw, c6⟩ ⟨o6, hnw⟩
  dsimp only at hpo hnw o1 o2 o3 o4 o5 o6 hru
  have w1 : IntKind.i64.wrap (nw : Int) = (nw : Int) := wrap_i64 (by omega)
  simp [w1]
  refine DrS.run [KB] rfl ?_
  simp
  refine callS.cdsE KB (Codes_Key o6) (by simp) (by simp [refsOkL, refsOk, inKs, idx]) (by simp [renL, ren, ren1, idx]) (by simp) ?_
  rintro ⟨k4, c7⟩ o7
  simp
  refine callS.cds KB (Codes_Next o7 2 (by omega)) (by simp) (by simp [refsOkL, refsOk, inKs, idx]) (by simp [renL, ren, ren1, idx]) (by simp) ?_
  have l8 := nxt_lt c7 (n := 2) (by omega)
  have o8 := nxt_ok o7 2
  generalize nxt c7 2 = x8 at *
  simp
  refine callS.cds KB (Codes_Next o8 2 (by omega)) (by simp) (by simp [refsOkL, refsOk, inKs, idx]) (by simp [renL, ren, ren1, idx]) (by simp) ?_
  have l9 := nxt_lt x8.2 (n := 2) (by omega)
  have o9 := nxt_ok o8 2
  generalize nxt x8.2 2 = x9 at *
  have w2 : IntKind.i64.wrap ((x8.1 : Int) * min (nw : Int) 20000) = (x8.1 : Int) * min (nw : Int) 20000 := by
    rcases (by omega : x8.1 = 0 ∨ x8.1 = 1) with e | e <;> rw [e] <;> exact wrap_i64 (by omega)
  have h3 : 0 ≤ (nw : Int) - (x8.1 : Int) * min (nw : Int) 20000 ∧ (nw : Int) - (x8.1 : Int) * min (nw : Int) 20000 ≤ nw := by
    rcases (by omega : x8.1 = 0 ∨ x8.1 = 1) with e | e <;> rw [e] <;> omega
  have w3 : IntKind.i64.wrap ((nw : Int) - (x8.1 : Int) * min (nw : Int) 20000) = (nw : Int) - (x8.1 : Int) * min (nw : Int) 20000 := wrap_i64 (by omega)
  have w4 : IntKind.i64.wrap (2 + (x9.1 : Int)) = ((2 + x9.1 : Nat) : Int) := by rw [wrap_i64 (by omega)]; omega
  obtain ⟨n, hn⟩ : ∃ n, n = 2 + x9.1 := ⟨_, rfl⟩
  obtain ⟨sa, hsa⟩ : ∃ sa, sa = (nw : Int) - (x8.1 : Int) * min (nw : Int) 20000 := ⟨_, rfl⟩
  rw [← hsa] at h3 w3
  simp only [w2, w3, ← hsa]
  simp
  simp only [w4, ← hn]
  obtain ⟨d0, hd0⟩ : ∃ d : Dmn, d = ⟨ru, k1.fv, k2.fv, po, k3.fv, nw, [], [], [], [], k4.fv, sa, [], [], 0⟩ := ⟨_, rfl⟩
  refine LpS.rngA n (d0, x9.2) (fun i y => VP y.1 i ∧ CdsOk y.2) [0, 2, 3, 4, 5] (fun i _ => [(5, .int .i64 i)]) (fun i y => [(3, .box (encDo y.1 (.rs 80 [] 0 i i 464 .tip))), (80, .arr 464 (y.1.peers.map encPe)), (KB, .box (encC y.2))]) [.vb 3 [.f 6 108] 80 464, .wb 3, .keep [0, 2, 3, 4, 5]] ?_
  simp
  refine ⟨by rw [hd0]; exact ⟨rfl, rfl⟩, ⟨?_, o9⟩, ?_, ?_⟩
  · rw [hd0]
    refine ⟨⟨?_, ⟨.nil, by simp, .nil, by simp⟩⟩, rfl, rfl, by simp⟩
    exact ⟨hru, by show (0 : Int) ≤ nw; omega, by show (nw : Int) ≤ 16777216; omega, by show (0 : Int) ≤ po; omega, by show (po : Int) ≤ 65535; omega, rfl, ⟨by simp, by simp⟩, by simp, ⟨by simp, by simp⟩, rfl, ⟨⟨by simp, by simp⟩, by simp⟩, ⟨by simp, by simp, by simp, by simp⟩, h3.1, h3.2, rfl, rfl⟩
  · intro i d cc hi hV hC K hK
    have hi64 : IntKind.i64.wrap ((i : Int) + 1) = ((i + 1 : Nat) : Int) := by rw [wrap_i64 (by omega)]; omega
    have hu8 : ((UInt8.ofNat (i + 1)).toNat : Int) = ((i + 1 : Nat) : Int) := by simp [UInt8.toNat_ofNat]; omega
    have hH := burrowcase_Host (UInt8.ofNat (i + 1)) 0
    obtain ⟨u, hu⟩ : ∃ u, u = UInt8.ofNat (i + 1) := ⟨_, rfl⟩
    have hrt : rt i = ⟨pfxA u, kOf i⟩ := by rw [hu]; rfl
    rw [hu8, show (((0 : UInt8).toNat : Nat) : Int) = 0 from rfl] at hH
    have hVv := hV.vm.vd
    have hn0 := hVv.n0
    have hn1 := hVv.n1
    have hrl : d.routes.length = i := by rw [hVv.rtl, hV.len]
    have htl := hVv.tis.len
    have hro : ∀ r ∈ d.routes, ∃ m, m < UInt8.ofNat (i + 1) ∧ r.pfx = pfxA m := by
      intro r hr
      obtain ⟨j, hj, rfl⟩ := List.mem_iff_getElem.1 hr
      refine ⟨UInt8.ofNat (j + 1), ?_, by rw [hVv.rts.2 j hj]; rfl⟩
      rw [UInt8.lt_iff_toNat_lt]
      simp [UInt8.toNat_ofNat]
      omega
    rw [← hu] at hH hro
    simp [F.burrowmake_Daemonl0, hi]
    refine callS.ret (burrowmake_Peer (i := i) (by omega)) (by simp) (by simp) (by simp) ?_
    simp
    refine callS.cds KB (Codes_Next hC 8 (by omega)) (by simp) (by simp [refsOkL, refsOk, inKs, idx]) (by simp [renL, ren, ren1, idx]) (by simp) ?_
    have m1 := nxt_lt cc (n := 8) (by omega)
    have p1 := nxt_ok hC 8
    generalize nxt cc 8 = y1 at *
    by_cases hb : 0 < y1.1
    · simp [hb]
      refine callS.ret (burrowmake_At (i := i) (by omega)) (by simp) (by simp) (by simp) ?_
      simp
      refine callS.cds KB (Codes_Next p1 4 (by omega)) (by simp) (by simp [refsOkL, refsOk, inKs, idx]) (by simp [renL, ren, ren1, idx]) (by simp) ?_
      have m2 := nxt_lt y1.2 (n := 4) (by omega)
      have p2 := nxt_ok p1 4
      generalize nxt y1.2 4 = y2 at *
      by_cases hc : (y2.1 : Int) = 1
      · simp [hc]
        refine callS.cds KB (Codes_Next p2 30 (by omega)) (by simp) (by simp [refsOkL, refsOk, inKs, idx]) (by simp [renL, ren, ren1, idx]) (by simp) ?_
        have m3 := nxt_lt y2.2 (n := 30) (by omega)
        have p3 := nxt_ok p2 30
        generalize nxt y2.2 30 = y3 at *
        have v1 : IntKind.i64.wrap (1 + (y3.1 : Int)) = 1 + (y3.1 : Int) := wrap_i64 (by omega)
        have v2 : IntKind.i64.wrap (1000 * (1 + (y3.1 : Int))) = 1000 * (1 + (y3.1 : Int)) := wrap_i64 (by omega)
        simp [v1, v2]
        refine DrS.run [KB] rfl ?_
        simp
        refine callS.cds KB (Codes_Next p3 200 (by omega)) (by simp) (by simp [refsOkL, refsOk, inKs, idx]) (by simp [renL, ren, ren1, idx]) (by simp) ?_
        have m4 := nxt_lt y3.2 (n := 200) (by omega)
        have p4 := nxt_ok p3 200
        generalize nxt y3.2 200 = y4 at *
        have v3 : IntKind.i64.wrap (d.now + 1) = d.now + 1 := wrap_i64 (by omega)
        have v4 : IntKind.i64.wrap ((y4.1 : Int) * 10) = (y4.1 : Int) * 10 := wrap_i64 (by omega)
        have v5 : IntKind.i64.wrap (d.now + 1 + (y4.1 : Int) * 10) = d.now + 1 + (y4.1 : Int) * 10 := wrap_i64 (by omega)
        simp [v3, v4, v5]
        obtain ⟨A, hA⟩ : ∃ A, A = d.now + 1 + (y4.1 : Int) * 10 := ⟨_, rfl⟩
        rw [← hA]
        refine callT.ret (burrowref14_Set (l := d.timers) (by omega) ⟨A, kOf i, 4⟩) (by simp; rfl) (by simp) (by simp) ?_
        obtain ⟨T, hT⟩ : ∃ T, T = setT d.timers ⟨A, kOf i, 4⟩ := ⟨_, rfl⟩
        rw [← hT]
        simp [hi64, hV.len]
        refine ⟨⟨by omega, by omega⟩, ?_⟩
        refine callT.ret hH (by simp) (by simp) (by simp) ?_
        simp
        refine callT.ret (burrowcase_Masked (a := hostA u 0) (hostA_z _)) (by simp) (by simp) (by simp) ?_
        simp
        refine callT.ret (burrowref14_InsertRoute (l := d.routes) (n := u) hro (by omega) (kOf i)) (by simp; rfl) (by simp) (by simp) ?_
        simp [hi64]
        refine ⟨[.keep [0, 2, 3, 4, 5], .dr 6], ?_⟩
        simp [refsEnv, refsBx, refsOk, refsOkB]
        refine hK (addP d (pz i true (1000 * (1 + (y3.1 : Int)))) i T) y4.2 _ ?_ (hV.add (by omega) (pz_ok (by omega) ?_) rfl rfl ?_) ?_
        · simp [addP, hrt]
          exact ⟨rfl, rfl⟩
        · exact Or.inr (by omega)
        · exact Or.inr ⟨A, by omega, by omega, by show (1000 * (1 + (y3.1 : Int))) ≠ 0; omega, hT⟩
        · assumption
      · simp [hc]
        simp [hi64, hV.len]
        refine ⟨⟨by omega, by omega⟩, ?_⟩
        refine callT.ret hH (by simp) (by simp) (by simp) ?_
        simp
        refine callT.ret (burrowcase_Masked (a := hostA u 0) (hostA_z _)) (by simp) (by simp) (by simp) ?_
        simp
        refine callT.ret (burrowref14_InsertRoute (l := d.routes) (n := u) hro (by omega) (kOf i)) (by simp; rfl) (by simp) (by simp) ?_
        simp [hi64]
        refine ⟨[.keep [0, 2, 3, 4, 5], .dr 6], ?_⟩
        simp [refsEnv, refsBx, refsOk, refsOkB]
        refine hK (addP d (pz i true 0) i d.timers) y2.2 _ ?_ (hV.add (by omega) (pz_ok (by omega) ?_) rfl rfl ?_) ?_
        · simp [addP, hrt]
          exact ⟨rfl, rfl⟩
        · exact Or.inl rfl
        · exact Or.inl rfl
        · assumption
    · simp [hb]
      refine callS.cds KB (Codes_Next p1 4 (by omega)) (by simp) (by simp [refsOkL, refsOk, inKs, idx]) (by simp [renL, ren, ren1, idx]) (by simp) ?_
      have m2 := nxt_lt y1.2 (n := 4) (by omega)
      have p2 := nxt_ok p1 4
      generalize nxt y1.2 4 = y2 at *
      by_cases hc : (y2.1 : Int) = 1
      · simp [hc]
        refine callS.cds KB (Codes_Next p2 30 (by omega)) (by simp) (by simp [refsOkL, refsOk, inKs, idx]) (by simp [renL, ren, ren1, idx]) (by simp) ?_
        have m3 := nxt_lt y2.2 (n := 30) (by omega)
        have p3 := nxt_ok p2 30
        generalize nxt y2.2 30 = y3 at *
        have v1 : IntKind.i64.wrap (1 + (y3.1 : Int)) = 1 + (y3.1 : Int) := wrap_i64 (by omega)
        have v2 : IntKind.i64.wrap (1000 * (1 + (y3.1 : Int))) = 1000 * (1 + (y3.1 : Int)) := wrap_i64 (by omega)
        simp [v1, v2]
        refine DrS.run [KB] rfl ?_
        simp
        refine callS.cds KB (Codes_Next p3 200 (by omega)) (by simp) (by simp [refsOkL, refsOk, inKs, idx]) (by simp [renL, ren, ren1, idx]) (by simp) ?_
        have m4 := nxt_lt y3.2 (n := 200) (by omega)
        have p4 := nxt_ok p3 200
        generalize nxt y3.2 200 = y4 at *
        have v3 : IntKind.i64.wrap (d.now + 1) = d.now + 1 := wrap_i64 (by omega)
        have v4 : IntKind.i64.wrap ((y4.1 : Int) * 10) = (y4.1 : Int) * 10 := wrap_i64 (by omega)
        have v5 : IntKind.i64.wrap (d.now + 1 + (y4.1 : Int) * 10) = d.now + 1 + (y4.1 : Int) * 10 := wrap_i64 (by omega)
        simp [v3, v4, v5]
        obtain ⟨A, hA⟩ : ∃ A, A = d.now + 1 + (y4.1 : Int) * 10 := ⟨_, rfl⟩
        rw [← hA]
        refine callT.ret (burrowref14_Set (l := d.timers) (by omega) ⟨A, kOf i, 4⟩) (by simp; rfl) (by simp) (by simp) ?_
        obtain ⟨T, hT⟩ : ∃ T, T = setT d.timers ⟨A, kOf i, 4⟩ := ⟨_, rfl⟩
        rw [← hT]
        simp [hi64, hV.len]
        refine ⟨⟨by omega, by omega⟩, ?_⟩
        refine callT.ret hH (by simp) (by simp) (by simp) ?_
        simp
        refine callT.ret (burrowcase_Masked (a := hostA u 0) (hostA_z _)) (by simp) (by simp) (by simp) ?_
        simp
        refine callT.ret (burrowref14_InsertRoute (l := d.routes) (n := u) hro (by omega) (kOf i)) (by simp; rfl) (by simp) (by simp) ?_
        simp [hi64]
        refine ⟨[.keep [0, 2, 3, 4, 5], .dr 6], ?_⟩
        simp [refsEnv, refsBx, refsOk, refsOkB]
        refine hK (addP d (pz i false (1000 * (1 + (y3.1 : Int)))) i T) y4.2 _ ?_ (hV.add (by omega) (pz_ok (by omega) ?_) rfl rfl ?_) ?_
        · simp [addP, hrt]
          exact ⟨rfl, rfl⟩
        · exact Or.inr (by omega)
        · exact Or.inr ⟨A, by omega, by omega, by show (1000 * (1 + (y3.1 : Int))) ≠ 0; omega, hT⟩
        · assumption
      · simp [hc]
        simp [hi64, hV.len]
        refine ⟨⟨by omega, by omega⟩, ?_⟩
        refine callT.ret hH (by simp) (by simp) (by simp) ?_
        simp
        refine callT.ret (burrowcase_Masked (a := hostA u 0) (hostA_z _)) (by simp) (by simp) (by simp) ?_
        simp
        refine callT.ret (burrowref14_InsertRoute (l := d.routes) (n := u) hro (by omega) (kOf i)) (by simp; rfl) (by simp) (by simp) ?_
        simp [hi64]
        refine ⟨[.keep [0, 2, 3, 4, 5], .dr 6], ?_⟩
        simp [refsEnv, refsBx, refsOk, refsOkB]
        refine hK (addP d (pz i false 0) i d.timers) y2.2 _ ?_ (hV.add (by omega) (pz_ok (by omega) ?_) rfl rfl ?_) ?_
        · simp [addP, hrt]
          exact ⟨rfl, rfl⟩
        · exact Or.inl rfl
        · exact Or.inl rfl
        · assumption
  · intro d cc hV hC K
    simp [F.burrowmake_Daemonl0]
    exact Daemon_c5 hV (by omega) hC
end Go.Ab
