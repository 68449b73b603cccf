/- What burrowmake.Daemon makes. No condition. -/
import Derived.Test.YtdfkcobijmbidaaGreatB6
set_option linter.all false
noncomputable section H3as
namespace Go.Ab
open Go.Ab
def zD : PV := PV.st 148 [PV.st 10 [.int .u64 0, .int .u64 0, .int .i64 0, .int .i64 0, .int .i64 0, .int .i64 0, .int .i64 0, .int .i64 0, .int .i64 0, .int .i64 0],
  .ar 1 32 (zr 32 (.int .u8 0)), .ar 1 32 (zr 32 (.int .u8 0)), .int .i64 0, .ar 1 32 (zr 32 (.int .u8 0)), .int .i64 0, .sl 464 [] true, .sl 50 [] true, .sl 34 [] true, .sl 34 [] true,
  .ar 1 32 (zr 32 (.int .u8 0)), .int .i64 0, .sl 1 [] true, .sl 19 [] true, .int .i64 0]
@[simp] theorem zD_width : zD.width = 148 := rfl
@[simp] theorem zD_frz (k sz : Nat) (l : List PV) : frz k sz l zD = zD := by simp [zD]
theorem TisOk'.mono {d : Dmn} {l : List Tmr} {m k : Nat} (h : TisOk' d l m) (hk : m ≤ k) : TisOk' d l k := ⟨h.so, h.rg, h.un, Nat.le_trans h.len hk⟩
def SlLt (d : Dmn) (m : Int) : Prop := ∀ x ∈ d.slots, 0 ≤ x.index ∧ x.index < m
def Bd (d : Dmn) : Prop := ∀ x ∈ d.slots, 0 ≤ x.index ∧ x.index ≤ 1000
theorem mem_instD {d : Dmn} {i : Nat} {hi : i < d.peers.length} {s : Ses} {own : Bool} {x : Slt} (h : x ∈ (instD d i hi s own).slots) : x.index = s.loc ∨ x ∈ d.slots := by
  rcases List.mem_cons.1 ((putS_perm _ _).mem_iff.1 h) with h | h
  · left; rw [h]
  · right; exact mem_dropAll h
theorem instD_len {d : Dmn} {i : Nat} {hi : i < d.peers.length} {s : Ses} {own : Bool} : (instD d i hi s own).peers.length = d.peers.length := List.length_set
set_option maxRecDepth 10000 in
set_option maxHeartbeats 4000000 in
theorem Daemon_c5 {d : Dmn} {c : Cds} {n : Nat} (hV : VP d n) (hn : n = 2 ∨ n = 3) (hC : CdsOk c) :
    aw Pg F.burrowmake_Daemonc5 (ends 1 [AK.load true 148 (AX.t 2)] fun r fp => ∃ a b, (VM a 40 ∧ 2 ≤ a.peers.length ∧ CdsOk b ∧ Bd a) ∧ r = encD a ∧ fp = [Blk.box (encC b)])
      { env := [(0, .pt KB [] 0), (2, .pt 2 [] 0), (3, .pt 3 [] 0), (4, .int .i64 n), (5, .int .i64 n), (38, .int .i64 n), (39, .int .i64 n), (40, .bl false)],
        bx := [(2, .box zD), (3, .box (encDo d (.rs 80 [] 0 n n 464 .tip))), (80, .arr 464 (d.peers.map encPe)), (KB, .box (encC c))] } := by
  simp [F.burrowmake_Daemonc5]
  refine LpS.rngA n (d, c) (fun i y => (VM y.1 (3 + 3 * i) ∧ y.1.peers.length = n ∧ SlLt y.1 (10 * i)) ∧ CdsOk y.2) [0, 2, 3, 4, 7] (fun i _ => [(7, .int .i64 i)]) (fun i y => [(3, .box (encD y.1)), (KB, .box (encC y.2))]) [.keep [0, 2, 3, 4, 7], .fz 80] ?_
  simp [refsOkL]
  have hL := hV.len
  have ht : List.take n (List.map encPe d.peers) = List.map encPe d.peers := List.take_of_length_le (by simp [hL])
  refine ⟨by rw [if_pos ⟨hL.symm, Nat.le_of_eq hL.symm⟩, ht]; rfl, ⟨⟨⟨hV.vm.vd, hV.vm.ti.mono (by omega)⟩, hL, ?_⟩, hC⟩, ?_, ?_⟩
  · intro x hx; rw [hV.sl] at hx; simp at hx
  · intro i d c hi hV hL hS hC K hK
    have hi64 : IntKind.i64.wrap ((i : Int) + 1) = (i : Int) + 1 := wrap_i64 (by omega)
    simp [F.burrowmake_Daemonl3, hi]
    refine callS.cds KB (Codes_Next hC 4 (by omega)) (by simp) (by simp [refsOkL, refsOk, inKs, idx]) (by simp [renL, ren, ren1, idx]) (by simp) ?_
    have m1 := nxt_lt c (n := 4) (by omega)
    have p1 := nxt_ok hC 4
    generalize nxt c 4 = y1 at *
    simp
    refine LpS.rngA y1.1 (d, y1.2) (fun j y => (VM y.1 (3 + 3 * i + j) ∧ y.1.peers.length = n ∧ (∀ x ∈ y.1.slots, 0 ≤ x.index ∧ (x.index < 10 * i ∨ 10 * (i : Int) + y1.1 - j < x.index ∧ x.index ≤ 10 * i + 3))) ∧ CdsOk y.2) [0, 2, 3, 4, 7, 8] (fun j _ => [(8, .int .i64 ((y1.1 : Int) - j))]) (fun j y => [(3, .box (encD y.1)), (KB, .box (encC y.2))]) [.keep [0, 2, 3, 4, 7, 8]] ?_
    simp
    refine ⟨⟨⟨hV, hL, fun x hx => ⟨(hS x hx).1, Or.inl (hS x hx).2⟩⟩, p1⟩, ?_, ?_⟩
    · intro j d c hj hV hL hS hC K2 hK2
      have hgt : (0 : Int) < (y1.1 : Int) - j := by omega
      have v1 : IntKind.i64.wrap (10 * (i : Int)) = 10 * (i : Int) := wrap_i64 (by omega)
      have v2 : IntKind.i64.wrap (10 * (i : Int) + ((y1.1 : Int) - j)) = 10 * (i : Int) + ((y1.1 : Int) - j) := wrap_i64 (by omega)
      obtain ⟨m, hm⟩ : ∃ m : Nat, m = 10 * i + (y1.1 - j) := ⟨_, rfl⟩
      have v3 : IntKind.u32.wrap (10 * (i : Int) + ((y1.1 : Int) - j)) = (m : Int) := by rw [wrap_u32 (by omega)]; omega
      have v4 : IntKind.i64.wrap ((y1.1 : Int) - j - 1) = (y1.1 : Int) - (j + 1) := by rw [wrap_i64 (by omega)]; omega
      simp [F.burrowmake_Daemonl1, hj]
      refine DrS.run [KB] rfl ?_
      simp
      refine callT.ret (burrowmake_Peer (i := i) (by omega)) (by simp) (by simp) (by simp) ?_
      simp [v1, v2, v3]
      refine callS.cdsE KB (burrowmake_Session hC hV.vd.n0 hV.vd.n1 hV.vd.ru (n := m) (by omega) (by omega)) (by simp) (by simp [refsOkL, refsOk, inKs, idx, (pure_encD d).refs]) (by simp [renL, ren, ren1, idx, (pure_encD d).ren]) (by simp) ?_
      rintro ⟨s, c1⟩ ⟨hs, hsl, o1⟩
      simp at hs hsl o1
      simp
      refine callS.cds KB (Codes_Bool o1) (by simp) (by simp [refsOkL, refsOk, inKs, idx]) (by simp [renL, ren, ren1, idx]) (by simp) ?_
      have o2 : CdsOk (bool c1).2 := nxt_ok o1 2
      generalize bool c1 = x2 at *
      simp
      have hip : i < d.peers.length := by omega
      have hfr : ∀ x ∈ d.slots, x.index ≠ s.loc := by
        intro x hx he
        rcases (hS x hx).2 with h | h <;> omega
      refine callT.ret (Install_t hV.vd hip hs (by omega) hfr x2.1) (by simp) (by simp) (by simp) ?_
      simp [v4]
      refine ⟨[.keep [0, 2, 3, 4, 7, 8]], ?_⟩
      simp
      refine hK2 (instD d i hip s x2.1) x2.2 _ (by simp) (hV.inst (by omega) hip hs (by omega) hfr x2.1) (instD_len.trans hL) ?_ o2
      intro x hx
      rcases mem_instD hx with h | h
      · exact ⟨by omega, by right; omega⟩
      · have g := hS x h
        exact ⟨g.1, by rcases g.2 with h | h <;> omega⟩
    · intro d c hV hL hS hC K2
      simp [F.burrowmake_Daemonl1, F.burrowmake_Daemonc2, hi64]
      refine ⟨[.keep [0, 2, 3, 4, 7]], ?_⟩
      simp
      refine hK d c _ (by simp) ⟨hV.vd, hV.ti.mono (by omega)⟩ hL ?_ hC
      intro x hx
      have g := hS x hx
      exact ⟨g.1, by rcases g.2 with h | h <;> omega⟩
  · intro d c hV hL hS hC K
    simp [F.burrowmake_Daemonl3, F.burrowmake_Daemonc4]
    refine RetS.with [] [KB] ?_
    simp [refsOkB, (pure_encC _).refs, renB, (pure_encC _).ren, (pure_encD _).refs, (pure_encD _).ren]
    exact ⟨d, c, ⟨⟨hV.vd, hV.ti.mono (by omega)⟩, by omega, hC, fun x hx => ⟨(hS x hx).1, by have := (hS x hx).2; omega⟩⟩, rfl, rfl⟩
end Go.Ab
end H3as
noncomputable section H3s
namespace Go.Ab
open Go.Ab
def zRng : Rng := ⟨zPlc, zPlc, zPlc⟩
def pz (i : Nat) (e : Bool) (k : Int) : Per := ⟨kOf i, zKy, e, if e = true then atOf i else zEpn, k, zSm, false, 0, zHnd, false, zTg, 0, zTg, zRng, []⟩
theorem encE_z : encE zEpn = .st 18 [.st 17 [.bl false, .ar 1 16 (zr 16 (.int .u8 0))], .int .i64 0] := by rw [zr_eq]; rfl
theorem pz_e (i : Nat) (k : Int) : encPe (pz i false k) = .st 464 [encK (kOf i), zKy.p, .bl false, .st 18 [.st 17 [.bl false, .ar 1 16 (zr 16 (.int .u8 0))], .int .i64 0], .int .i64 k, zSm.p, .bl false, .int .i64 0, encH zHnd, .bl false, zTg.p, .int .i64 0, zTg.p, encR zRng, encBs []] := by
  show PV.st 464 [encK (kOf i), zKy.p, .bl false, encE zEpn, .int .i64 k, zSm.p, .bl false, .int .i64 0, encH zHnd, .bl false, zTg.p, .int .i64 0, zTg.p, encR zRng, encBs []] = _
  rw [encE_z]
theorem pz_ok {d : Dmn} {i : Nat} (hi : i < 3) {e : Bool} {k : Int} (hk : k = 0 ∨ 1000 ≤ k ∧ k ≤ 1073741824) : PerOk d (pz i e k) := by
  refine ⟨?_, hk, rfl, rfl, rfl, rfl, rfl, rfl, rfl, .z d, .z d, .z d⟩
  cases e
  · exact Or.inr ⟨rfl, rfl⟩
  · exact Or.inl ⟨rfl, i, hi, rfl⟩
set_option maxRecDepth 10000 in
set_option maxHeartbeats 4000000 in
theorem burrowmake_Daemon {c : Cds} (h : CdsOk c) :
    ACalls Pg I.burrowmake_Daemon [.pt KB [] 0] [.box (encC c)] (fun r fp => ∃ w : Dmn × Cds, (VM w.1 40 ∧ w.1.peers.length ≥ 2 ∧ CdsOk w.2 ∧ Bd w.1) ∧ r = encD w.1 ∧ fp = [.box (encC w.2)]) := by
  refine ACalls.intro T.burrowmake_Daemon (by simp [F.burrowmake_Daemon]) ?_
  simp [F.burrowmake_Daemon, argEnv, fpBx]
  refine callS.cdsE KB (Codes_Rules h) (by simp) (by simp [refsOkL, refsOk, inKs, idx]) (by simp [renL, ren, ren1, idx]) (by simp) ?_
  rintro ⟨ru, c1⟩ ⟨hru, o1⟩
  simp
  refine callS.cdsE KB (Codes_Key o1) (by simp) (by simp [refsOkL, refsOk, inKs, idx]) (by simp [renL, ren, ren1, idx]) (by simp) ?_
  rintro ⟨k1, c2⟩ o2
  simp
  refine callS.cdsE KB (Codes_Key o2) (by simp) (by simp [refsOkL, refsOk, inKs, idx]) (by simp [renL, ren, ren1, idx]) (by simp) ?_
  rintro ⟨k2, c3⟩ o3
  simp
  refine callS.cdsE KB ((Codes_Big o3 65536 (by omega) (by omega)).mono (R' := fun r fp => ∃ w : Nat × Cds, (CdsOk w.2 ∧ w.1 < 65536) ∧ r = .int .i64 w.1 ∧ fp = [.box (encC w.2)]) ?_) (by simp) (by simp [refsOkL, refsOk, inKs, idx]) (by simp [renL, ren, ren1, idx]) (by simp) ?_
  · rintro r fp ⟨m, c', a, b, e, f⟩; exact ⟨⟨m, c'⟩, ⟨a, b⟩, e, f⟩
  rintro ⟨po, c4⟩ ⟨o4, hpo⟩
  simp
  refine callS.cdsE KB (Codes_Key o4) (by simp) (by simp [refsOkL, refsOk, inKs, idx]) (by simp [renL, ren, ren1, idx]) (by simp) ?_
  rintro ⟨k3, c5⟩ o5
  simp
  refine callS.cdsE KB ((Codes_Big o5 16777216 (by omega) (by omega)).mono (R' := fun r fp => ∃ w : Nat × Cds, (CdsOk w.2 ∧ w.1 < 16777216) ∧ r = .int .i64 w.1 ∧ fp = [.box (encC w.2)]) ?_) (by simp) (by simp [refsOkL, refsOk, inKs, idx]) (by simp [renL, ren, ren1, idx]) (by simp) ?_
  · rintro r fp ⟨m, c', a, b, e, f⟩; exact ⟨⟨m, c'⟩, ⟨a, b⟩, e, f⟩
  rintro ⟨nw, c6⟩ ⟨o6, hnw⟩
  dsimp only at hpo hnw o1 o2 o3 o4 o5 o6 hru
  have w1 : IntKind.i64.wrap (nw : Int) = (nw : Int) := wrap_i64 (by omega)
  simp [w1]
  refine DrS.run [KB] rfl ?_
  simp
  refine callS.cdsE KB (Codes_Key o6) (by simp) (by simp [refsOkL, refsOk, inKs, idx]) (by simp [renL, ren, ren1, idx]) (by simp) ?_
  rintro ⟨k4, c7⟩ o7
  simp
  refine callS.cds KB (Codes_Next o7 2 (by omega)) (by simp) (by simp [refsOkL, refsOk, inKs, idx]) (by simp [renL, ren, ren1, idx]) (by simp) ?_
  have l8 := nxt_lt c7 (n := 2) (by omega)
  have o8 := nxt_ok o7 2
  generalize nxt c7 2 = x8 at *
  simp
  refine callS.cds KB (Codes_Next o8 2 (by omega)) (by simp) (by simp [refsOkL, refsOk, inKs, idx]) (by simp [renL, ren, ren1, idx]) (by simp) ?_
  have l9 := nxt_lt x8.2 (n := 2) (by omega)
  have o9 := nxt_ok o8 2
  generalize nxt x8.2 2 = x9 at *
  have w2 : IntKind.i64.wrap ((x8.1 : Int) * min (nw : Int) 20000) = (x8.1 : Int) * min (nw : Int) 20000 := by
    rcases (by omega : x8.1 = 0 ∨ x8.1 = 1) with e | e <;> rw [e] <;> exact wrap_i64 (by omega)
  have h3 : 0 ≤ (nw : Int) - (x8.1 : Int) * min (nw : Int) 20000 ∧ (nw : Int) - (x8.1 : Int) * min (nw : Int) 20000 ≤ nw := by
    rcases (by omega : x8.1 = 0 ∨ x8.1 = 1) with e | e <;> rw [e] <;> omega
  have w3 : IntKind.i64.wrap ((nw : Int) - (x8.1 : Int) * min (nw : Int) 20000) = (nw : Int) - (x8.1 : Int) * min (nw : Int) 20000 := wrap_i64 (by omega)
  have w4 : IntKind.i64.wrap (2 + (x9.1 : Int)) = ((2 + x9.1 : Nat) : Int) := by rw [wrap_i64 (by omega)]; omega
  obtain ⟨n, hn⟩ : ∃ n, n = 2 + x9.1 := ⟨_, rfl⟩
  obtain ⟨sa, hsa⟩ : ∃ sa, sa = (nw : Int) - (x8.1 : Int) * min (nw : Int) 20000 := ⟨_, rfl⟩
  rw [← hsa] at h3 w3
  simp only [w2, w3, ← hsa]
  simp
  simp only [w4, ← hn]
  obtain ⟨d0, hd0⟩ : ∃ d : Dmn, d = ⟨ru, k1.fv, k2.fv, po, k3.fv, nw, [], [], [], [], k4.fv, sa, [], [], 0⟩ := ⟨_, rfl⟩
  refine LpS.rngA n (d0, x9.2) (fun i y => VP y.1 i ∧ CdsOk y.2) [0, 2, 3, 4, 5] (fun i _ => [(5, .int .i64 i)]) (fun i y => [(3, .box (encDo y.1 (.rs 80 [] 0 i i 464 .tip))), (80, .arr 464 (y.1.peers.map encPe)), (KB, .box (encC y.2))]) [.vb 3 [.f 6 108] 80 464, .wb 3, .keep [0, 2, 3, 4, 5]] ?_
  simp
  refine ⟨by rw [hd0]; exact ⟨rfl, rfl⟩, ⟨?_, o9⟩, ?_, ?_⟩
  · rw [hd0]
    refine ⟨⟨?_, ⟨.nil, by simp, .nil, by simp⟩⟩, rfl, rfl, by simp⟩
    exact ⟨hru, by show (0 : Int) ≤ nw; omega, by show (nw : Int) ≤ 16777216; omega, by show (0 : Int) ≤ po; omega, by show (po : Int) ≤ 65535; omega, rfl, ⟨by simp, by simp⟩, by simp, ⟨by simp, by simp⟩, rfl, ⟨⟨by simp, by simp⟩, by simp⟩, ⟨by simp, by simp, by simp, by simp⟩, h3.1, h3.2, rfl, rfl⟩
  · intro i d cc hi hV hC K hK
    have hi64 : IntKind.i64.wrap ((i : Int) + 1) = ((i + 1 : Nat) : Int) := by rw [wrap_i64 (by omega)]; omega
    have hu8 : ((UInt8.ofNat (i + 1)).toNat : Int) = ((i + 1 : Nat) : Int) := by simp [UInt8.toNat_ofNat]; omega
    have hH := burrowcase_Host (UInt8.ofNat (i + 1)) 0
    obtain ⟨u, hu⟩ : ∃ u, u = UInt8.ofNat (i + 1) := ⟨_, rfl⟩
    have hrt : rt i = ⟨pfxA u, kOf i⟩ := by rw [hu]; rfl
    rw [hu8, show (((0 : UInt8).toNat : Nat) : Int) = 0 from rfl] at hH
    have hVv := hV.vm.vd
    have hn0 := hVv.n0
    have hn1 := hVv.n1
    have hrl : d.routes.length = i := by rw [hVv.rtl, hV.len]
    have htl := hVv.tis.len
    have hro : ∀ r ∈ d.routes, ∃ m, m < UInt8.ofNat (i + 1) ∧ r.pfx = pfxA m := by
      intro r hr
      obtain ⟨j, hj, rfl⟩ := List.mem_iff_getElem.1 hr
      refine ⟨UInt8.ofNat (j + 1), ?_, by rw [hVv.rts.2 j hj]; rfl⟩
      rw [UInt8.lt_iff_toNat_lt]
      simp [UInt8.toNat_ofNat]
      omega
    rw [← hu] at hH hro
    simp [F.burrowmake_Daemonl0, hi]
    refine callS.ret (burrowmake_Peer (i := i) (by omega)) (by simp) (by simp) (by simp) ?_
    simp
    refine callS.cds KB (Codes_Next hC 8 (by omega)) (by simp) (by simp [refsOkL, refsOk, inKs, idx]) (by simp [renL, ren, ren1, idx]) (by simp) ?_
    have m1 := nxt_lt cc (n := 8) (by omega)
    have p1 := nxt_ok hC 8
    generalize nxt cc 8 = y1 at *
    by_cases hb : 0 < y1.1
    · simp [hb]
      refine callS.ret (burrowmake_At (i := i) (by omega)) (by simp) (by simp) (by simp) ?_
      simp
      refine callS.cds KB (Codes_Next p1 4 (by omega)) (by simp) (by simp [refsOkL, refsOk, inKs, idx]) (by simp [renL, ren, ren1, idx]) (by simp) ?_
      have m2 := nxt_lt y1.2 (n := 4) (by omega)
      have p2 := nxt_ok p1 4
      generalize nxt y1.2 4 = y2 at *
      by_cases hc : (y2.1 : Int) = 1
      · simp [hc]
        refine callS.cds KB (Codes_Next p2 30 (by omega)) (by simp) (by simp [refsOkL, refsOk, inKs, idx]) (by simp [renL, ren, ren1, idx]) (by simp) ?_
        have m3 := nxt_lt y2.2 (n := 30) (by omega)
        have p3 := nxt_ok p2 30
        generalize nxt y2.2 30 = y3 at *
        have v1 : IntKind.i64.wrap (1 + (y3.1 : Int)) = 1 + (y3.1 : Int) := wrap_i64 (by omega)
        have v2 : IntKind.i64.wrap (1000 * (1 + (y3.1 : Int))) = 1000 * (1 + (y3.1 : Int)) := wrap_i64 (by omega)
        simp [v1, v2]
        refine DrS.run [KB] rfl ?_
        simp
        refine callS.cds KB (Codes_Next p3 200 (by omega)) (by simp) (by simp [refsOkL, refsOk, inKs, idx]) (by simp [renL, ren, ren1, idx]) (by simp) ?_
        have m4 := nxt_lt y3.2 (n := 200) (by omega)
        have p4 := nxt_ok p3 200
        generalize nxt y3.2 200 = y4 at *
        have v3 : IntKind.i64.wrap (d.now + 1) = d.now + 1 := wrap_i64 (by omega)
        have v4 : IntKind.i64.wrap ((y4.1 : Int) * 10) = (y4.1 : Int) * 10 := wrap_i64 (by omega)
        have v5 : IntKind.i64.wrap (d.now + 1 + (y4.1 : Int) * 10) = d.now + 1 + (y4.1 : Int) * 10 := wrap_i64 (by omega)
        simp [v3, v4, v5]
        obtain ⟨A, hA⟩ : ∃ A, A = d.now + 1 + (y4.1 : Int) * 10 := ⟨_, rfl⟩
        rw [← hA]
        refine callT.ret (burrowref14_Set (l := d.timers) (by omega) ⟨A, kOf i, 4⟩) (by simp; rfl) (by simp) (by simp) ?_
        obtain ⟨T, hT⟩ : ∃ T, T = setT d.timers ⟨A, kOf i, 4⟩ := ⟨_, rfl⟩
        rw [← hT]
        simp [hi64, hV.len]
        refine ⟨⟨by omega, by omega⟩, ?_⟩
        refine callT.ret hH (by simp) (by simp) (by simp) ?_
        simp
        refine callT.ret (burrowcase_Masked (a := hostA u 0) (hostA_z _)) (by simp) (by simp) (by simp) ?_
        simp
        refine callT.ret (burrowref14_InsertRoute (l := d.routes) (n := u) hro (by omega) (kOf i)) (by simp; rfl) (by simp) (by simp) ?_
        simp [hi64]
        refine ⟨[.keep [0, 2, 3, 4, 5], .dr 6], ?_⟩
        simp [refsEnv, refsBx, refsOk, refsOkB]
        refine hK (addP d (pz i true (1000 * (1 + (y3.1 : Int)))) i T) y4.2 _ ?_ (hV.add (by omega) (pz_ok (by omega) ?_) rfl rfl ?_) ?_
        · simp [addP, hrt]
          exact ⟨rfl, rfl⟩
        · exact Or.inr (by omega)
        · exact Or.inr ⟨A, by omega, by omega, by show (1000 * (1 + (y3.1 : Int))) ≠ 0; omega, hT⟩
        · assumption
      · simp [hc]
        simp [hi64, hV.len]
        refine ⟨⟨by omega, by omega⟩, ?_⟩
        refine callT.ret hH (by simp) (by simp) (by simp) ?_
        simp
        refine callT.ret (burrowcase_Masked (a := hostA u 0) (hostA_z _)) (by simp) (by simp) (by simp) ?_
        simp
        refine callT.ret (burrowref14_InsertRoute (l := d.routes) (n := u) hro (by omega) (kOf i)) (by simp; rfl) (by simp) (by simp) ?_
        simp [hi64]
        refine ⟨[.keep [0, 2, 3, 4, 5], .dr 6], ?_⟩
        simp [refsEnv, refsBx, refsOk, refsOkB]
        refine hK (addP d (pz i true 0) i d.timers) y2.2 _ ?_ (hV.add (by omega) (pz_ok (by omega) ?_) rfl rfl ?_) ?_
        · simp [addP, hrt]
          exact ⟨rfl, rfl⟩
        · exact Or.inl rfl
        · exact Or.inl rfl
        · assumption
    · simp [hb]
      refine callS.cds KB (Codes_Next p1 4 (by omega)) (by simp) (by simp [refsOkL, refsOk, inKs, idx]) (by simp [renL, ren, ren1, idx]) (by simp) ?_
      have m2 := nxt_lt y1.2 (n := 4) (by omega)
      have p2 := nxt_ok p1 4
      generalize nxt y1.2 4 = y2 at *
      by_cases hc : (y2.1 : Int) = 1
      · simp [hc]
        refine callS.cds KB (Codes_Next p2 30 (by omega)) (by simp) (by simp [refsOkL, refsOk, inKs, idx]) (by simp [renL, ren, ren1, idx]) (by simp) ?_
        have m3 := nxt_lt y2.2 (n := 30) (by omega)
        have p3 := nxt_ok p2 30
        generalize nxt y2.2 30 = y3 at *
        have v1 : IntKind.i64.wrap (1 + (y3.1 : Int)) = 1 + (y3.1 : Int) := wrap_i64 (by omega)
        have v2 : IntKind.i64.wrap (1000 * (1 + (y3.1 : Int))) = 1000 * (1 + (y3.1 : Int)) := wrap_i64 (by omega)
        simp [v1, v2]
        refine DrS.run [KB] rfl ?_
        simp
        refine callS.cds KB (Codes_Next p3 200 (by omega)) (by simp) (by simp [refsOkL, refsOk, inKs, idx]) (by simp [renL, ren, ren1, idx]) (by simp) ?_
        have m4 := nxt_lt y3.2 (n := 200) (by omega)
        have p4 := nxt_ok p3 200
        generalize nxt y3.2 200 = y4 at *
        have v3 : IntKind.i64.wrap (d.now + 1) = d.now + 1 := wrap_i64 (by omega)
        have v4 : IntKind.i64.wrap ((y4.1 : Int) * 10) = (y4.1 : Int) * 10 := wrap_i64 (by omega)
        have v5 : IntKind.i64.wrap (d.now + 1 + (y4.1 : Int) * 10) = d.now + 1 + (y4.1 : Int) * 10 := wrap_i64 (by omega)
        simp [v3, v4, v5]
        obtain ⟨A, hA⟩ : ∃ A, A = d.now + 1 + (y4.1 : Int) * 10 := ⟨_, rfl⟩
        rw [← hA]
        refine callT.ret (burrowref14_Set (l := d.timers) (by omega) ⟨A, kOf i, 4⟩) (by simp; rfl) (by simp) (by simp) ?_
        obtain ⟨T, hT⟩ : ∃ T, T = setT d.timers ⟨A, kOf i, 4⟩ := ⟨_, rfl⟩
        rw [← hT]
        simp [hi64, hV.len]
        refine ⟨⟨by omega, by omega⟩, ?_⟩
        refine callT.ret hH (by simp) (by simp) (by simp) ?_
        simp
        refine callT.ret (burrowcase_Masked (a := hostA u 0) (hostA_z _)) (by simp) (by simp) (by simp) ?_
        simp
        refine callT.ret (burrowref14_InsertRoute (l := d.routes) (n := u) hro (by omega) (kOf i)) (by simp; rfl) (by simp) (by simp) ?_
        simp [hi64]
        refine ⟨[.keep [0, 2, 3, 4, 5], .dr 6], ?_⟩
        simp [refsEnv, refsBx, refsOk, refsOkB]
        refine hK (addP d (pz i false (1000 * (1 + (y3.1 : Int)))) i T) y4.2 _ ?_ (hV.add (by omega) (pz_ok (by omega) ?_) rfl rfl ?_) ?_
        · simp [addP, hrt]
          exact ⟨by first | rfl | (rw [zr_eq]; rfl), (pz_e i _).symm⟩
        · exact Or.inr (by omega)
        · exact Or.inr ⟨A, by omega, by omega, by show (1000 * (1 + (y3.1 : Int))) ≠ 0; omega, hT⟩
        · assumption
      · simp [hc]
        simp [hi64, hV.len]
        refine ⟨⟨by omega, by omega⟩, ?_⟩
        refine callT.ret hH (by simp) (by simp) (by simp) ?_
        simp
        refine callT.ret (burrowcase_Masked (a := hostA u 0) (hostA_z _)) (by simp) (by simp) (by simp) ?_
        simp
        refine callT.ret (burrowref14_InsertRoute (l := d.routes) (n := u) hro (by omega) (kOf i)) (by simp; rfl) (by simp) (by simp) ?_
        simp [hi64]
        refine ⟨[.keep [0, 2, 3, 4, 5], .dr 6], ?_⟩
        simp [refsEnv, refsBx, refsOk, refsOkB]
        refine hK (addP d (pz i false 0) i d.timers) y2.2 _ ?_ (hV.add (by omega) (pz_ok (by omega) ?_) rfl rfl ?_) ?_
        · simp [addP, hrt]
          exact ⟨by first | rfl | (rw [zr_eq]; rfl), (pz_e i _).symm⟩
        · exact Or.inl rfl
        · exact Or.inl rfl
        · assumption
  · intro d cc hV hC K
    simp [F.burrowmake_Daemonl0]
    exact Daemon_c5 hV (by omega) hC
end Go.Ab
end H3s
