/- Made sessions, and made peers. No condition. -/
import Derived.Test.YtdfkcobijmbidaaGreatB5
set_option linter.all false
noncomputable section H1s
namespace Go.Ab
open Go.Ab
def Key.put (k : Key) (j : Nat) (b : UInt8) : Key := ⟨k.l.set j b, by rw [List.length_set]; exact k.h⟩
theorem encK_put (k : Key) {j : Nat} (hj : j < 32) {n : Int} (h0 : 0 ≤ n) (h1 : n < 256) : setP (encK k) [.i j 1] (.int .u8 n) = some (encK (k.put j (UInt8.ofNat n.toNat))) := by
  have hn : (UInt8.ofNat n.toNat).toNat = n.toNat := by simp [UInt8.toNat_ofNat]; omega
  have hx : (k.l.map u8)[j]? = some (u8 (k.l[j]'(by rw [k.h]; exact hj))) := by
    rw [List.getElem?_map, List.getElem?_eq_getElem (by rw [k.h]; exact hj)]; rfl
  have hu : PV.int .u8 n = u8 (UInt8.ofNat n.toNat) := by simp only [u8, hn]; congr 1; omega
  have h2 : setP (.ar 1 32 (k.l.map u8)) [.i j 1] (.int .u8 n) = some (.ar 1 32 ((k.l.map u8).set j (.int .u8 n))) := by simp [hx, u8]
  have h3 : encK (k.put j (UInt8.ofNat n.toNat)) = .ar 1 32 ((k.l.map u8).set j (.int .u8 n)) := by
    show PV.ar 1 32 ((k.l.set j (UInt8.ofNat n.toNat)).map u8) = _
    rw [List.map_set, hu]
  rw [h3]; exact h2
theorem fv_p (k : Key) : k.fv.p = encK k := rfl
theorem encS_s2_k (s : Ses) (k : Key) : encS_s2 s (encK k) = encS { s with send := k.fv } := rfl
theorem encS_s3_k (s : Ses) (k : Key) : encS_s3 s (encK k) = encS { s with recv := k.fv } := rfl
@[simp] theorem pure_wP (w : Win) : Pure (wP w) := by simp [wP]
@[simp] theorem wk_wP (w : Win) : wk (wP w) = wP w := by simp [wP]
@[simp ↓] theorem vgk_wP (g : Bool) (w : Win) (K : PV → Prop) : vgk g (wP w) K = K (wP w) := _root_.id rfl
@[simp] theorem wP_width (w : Win) : (wP w).width = 6 := _root_.id rfl
@[simp] theorem wP_cell (w : Win) : (wP w).cellular = true := _root_.id rfl
def zW : Win := ⟨false, 0, 0, 0, 0, 0⟩
theorem encW_z : encW zW = zWn := by
  unfold encW zWn; congr 1; rw [zr_eq]; rfl
theorem encS_s6_w (s : Ses) (w : Win) : encS_s6 s (wP w) = encS { s with win := encW w } := rfl
theorem encW_p (w : Win) : (encW w).p = wP w := rfl
def WI (w : Win) : Prop := 0 ≤ w.top ∧ w.top < 8 ∧ (w.used = true ∨ w = zW)
theorem WI.z : WI zW := ⟨by decide, by decide, Or.inr rfl⟩
theorem WI.acc {w : Win} (h : WI w) {c : Int} (c0 : 0 ≤ c) (c8 : c < 8) : SmW w c ∧ WI (accW w c).1 := by
  have hs : SmW w c := ⟨h.1, h.2.1, c0, c8⟩
  refine ⟨hs, (accW_top hs).1, (accW_top hs).2, ?_⟩
  rcases accW_ok hs with ⟨_, h2⟩ | h2
  · rw [h2]; exact h.2.2
  · exact Or.inl h2
theorem WI.ok {w : Win} (h : WI w) : WinOk (encW w) := by
  rcases h.2.2 with h | h
  · exact Or.inr ⟨w, h, rfl⟩
  · rw [h]; exact Or.inl encW_z
def wst (c : Cds) : Nat → Win × Cds
  | 0 => (zW, c)
  | i + 1 => ((accW (wst c i).1 ((nxt (wst c i).2 8).1 : Int)).1, (nxt (wst c i).2 8).2)
theorem wst_ok {c : Cds} (h : CdsOk c) : ∀ i, WI (wst c i).1 ∧ CdsOk (wst c i).2
  | 0 => ⟨.z, h⟩
  | i + 1 => by
    obtain ⟨h1, h2⟩ := wst_ok h i
    have hl := nxt_lt (wst c i).2 (n := 8) (by omega)
    exact ⟨(h1.acc (by omega) (by omega)).2, nxt_ok h2 8⟩
def sW (s : Ses) (w : Win) : Ses := { s with win := encW w }
theorem sW_z {s : Ses} (h : s.win = zWn) : sW s zW = s := by unfold sW; rw [encW_z, ← h]
set_option maxRecDepth 10000 in
set_option maxHeartbeats 4000000 in
theorem burrowmake_Session {c : Cds} (h : CdsOk c) {d : Dmn} (h0 : 0 ≤ d.now) (h1 : d.now ≤ 16777216) (hr : RulOk d.rules) {n : Nat} (hn1 : 1 ≤ n) (hn2 : n ≤ 100) :
    ACalls Pg I.burrowmake_Session [.pt KB [] 0, encD d, .int .u32 n] [.box (encC c)] (fun r fp => ∃ w : Ses × Cds, (SesOk d w.1 ∧ w.1.loc = n ∧ CdsOk w.2) ∧ r = encS w.1 ∧ fp = [.box (encC w.2)]) := by
  refine ACalls.intro T.burrowmake_Session (by simp [F.burrowmake_Session]) ?_
  simp [F.burrowmake_Session, argEnv, fpBx]
  refine DrS.run [KB] rfl ?_
  simp
  refine callS.cds KB (Codes_Next h 12 (by omega)) (by simp) (by simp [refsOkL, refsOk, inKs, idx]) (by simp [renL, ren, ren1, idx]) (by simp) ?_
  have l0 := nxt_lt c (n := 12) (by omega)
  have o0 := nxt_ok h 12
  generalize nxt c 12 = x0 at *
  have w1 : IntKind.i64.wrap ((x0.1 : Int) * 5000) = (x0.1 : Int) * 5000 := wrap_i64 (by omega)
  have w2 : IntKind.i64.wrap (d.now - min d.now ((x0.1 : Int) * 5000)) = d.now - min d.now ((x0.1 : Int) * 5000) := wrap_i64 (by omega)
  simp [w1, w2]
  obtain ⟨b, hb⟩ : ∃ b, b = d.now - min d.now ((x0.1 : Int) * 5000) := ⟨_, rfl⟩
  rw [← hb]
  refine DrS.run [KB, 8] rfl ?_
  have w3 : IntKind.u32.wrap (7000 + (n : Int)) = 7000 + (n : Int) := by simp [IntKind.wrap, IntKind.bits, IntKind.signed]; omega
  simp [w3]
  refine callS.cdsE KB (Codes_Key o0) (by simp) (by simp [refsOkL, refsOk, inKs, idx]) (by simp [renL, ren, ren1, idx]) (by simp) ?_
  rintro ⟨k1, c1⟩ o1
  simp
  refine callS.cdsE KB (Codes_Key o1) (by simp) (by simp [refsOkL, refsOk, inKs, idx]) (by simp [renL, ren, ren1, idx]) (by simp) ?_
  rintro ⟨k2, c2⟩ o2
  simp
  refine callS.cds KB (Codes_Bool o2) (by simp) (by simp [refsOkL, refsOk, inKs, idx]) (by simp [renL, ren, ren1, idx]) (by simp) ?_
  have o3 : CdsOk (bool c2).2 := nxt_ok o2 2
  generalize bool c2 = x3 at *
  simp
  refine callT.ret (burrowref22_New n (7000 + n) k1.fv k2.fv b x3.1 d.rules.rejm) (by simp [Key.fv]) (by simp) (by simp) ?_
  have w5 : IntKind.u8.wrap (n : Int) = (n : Int) := wrap_u8 (by omega)
  have e1 : ∀ k : Key, setP (encK k) [.i 0 1] (.int .u8 (n : Int)) = some (encK (k.put 0 (UInt8.ofNat n))) := fun k => by
    have := encK_put k (j := 0) (by omega) (n := (n : Int)) (by omega) (by omega)
    simpa using this
  have e2 : ∀ k : Key, setP (encK k) [.i 1 1] (.int .u8 1) = some (encK (k.put 1 1)) := fun k => by
    have := encK_put k (j := 1) (by omega) (n := 1) (by omega) (by omega)
    simpa using this
  have e3 : ∀ k : Key, setP (encK k) [.i 1 1] (.int .u8 2) = some (encK (k.put 1 2)) := fun k => by
    have := encK_put k (j := 1) (by omega) (n := 2) (by omega) (by omega)
    simpa using this
  simp [w5, fv_p, e1, e2, e3, encS_s2_k, encS_s3_k]
  refine callS.cds KB (Codes_Next o3 4 (by omega)) (by simp) (by simp [refsOkL, refsOk, inKs, idx]) (by simp [renL, ren, ren1, idx]) (by simp) ?_
  have l4 := nxt_lt x3.2 (n := 4) (by omega)
  have o4 := nxt_ok o3 4
  generalize nxt x3.2 4 = x4 at *
  obtain ⟨s0, hs0⟩ : ∃ s0 : Ses, s0 = ⟨n, 7000 + n, ((k1.put 0 (UInt8.ofNat n)).put 1 1).fv, ((k2.put 0 (UInt8.ofNat n)).put 1 2).fv, 0, d.rules.rejm, zWn, b, x3.1⟩ := ⟨_, rfl⟩
  rw [← hs0]
  simp
  have hwin : s0.win = zWn := by rw [hs0]
  refine ⟨fun hx => ?_, fun hx => ⟨fun hx2 => ?_, fun hx2 => ?_⟩⟩
  · refine callS.cds KB (Codes_Next o4 40 (by omega)) (by simp) (by simp [refsOkL, refsOk, inKs, idx]) (by simp [renL, ren, ren1, idx]) (by simp) ?_
    have l5 := nxt_lt x4.2 (n := 40) (by omega)
    have o5 := nxt_ok o4 40
    generalize nxt x4.2 40 = x5 at *
    have w8 : IntKind.u64.wrap (x5.1 : Int) = (x5.1 : Int) := by simp [IntKind.wrap, IntKind.bits, IntKind.signed]; omega
    simp [w8]
    obtain ⟨s1, hs1⟩ : ∃ s1 : Ses, s1 = { s0 with next := (x5.1 : Int) } := ⟨_, rfl⟩
    rw [← hs1]
    have hwin1 : s1.win = zWn := by rw [hs1]; exact hwin
    have hnx : 0 ≤ s1.next ∧ s1.next ≤ 18446744073709543423 := by rw [hs1]; show 0 ≤ (x5.1 : Int) ∧ (x5.1 : Int) ≤ 18446744073709543423; omega
    have hfx : s1.fence = s0.fence ∧ s1.born = s0.born ∧ s1.loc = s0.loc := by rw [hs1]; exact ⟨rfl, rfl, rfl⟩
    refine callS.cds KB (Codes_Next o5 4 (by omega)) (by simp) (by simp [refsOkL, refsOk, inKs, idx]) (by simp [renL, ren, ren1, idx]) (by simp) ?_
    have l6 := nxt_lt x5.2 (n := 4) (by omega)
    have o6 := nxt_ok o5 4
    generalize nxt x5.2 4 = x6 at *
    simp
    refine LpS.rng x6.1 (fun _ => True) [0, 6, 8, 9] (fun i => [(9, .int .i64 ((x6.1 : Int) - i))]) (fun i => [(8, .box (encS (sW s1 (wst x6.2 i).1))), (KB, .box (encC (wst x6.2 i).2))]) [.keep [0, 6, 8, 9]] ?_
    simp [show (wst x6.2 0) = (zW, x6.2) from rfl, sW_z hwin1]
    refine ⟨fun i hi K hK => ?_, fun K => ?_⟩
    · obtain ⟨g1, g2⟩ := wst_ok o6 i
      have gl := nxt_lt (wst x6.2 i).2 (n := 8) (by omega)
      have hst : wst x6.2 (i + 1) = ((accW (wst x6.2 i).1 ((nxt (wst x6.2 i).2 8).1 : Int)).1, (nxt (wst x6.2 i).2 8).2) := rfl
      rw [hst] at hK
      generalize wst x6.2 i = y at *
      have hgt : (0 : Int) < (x6.1 : Int) - i := by omega
      have hw9 : IntKind.i64.wrap ((x6.1 : Int) - i - 1) = (x6.1 : Int) - (i + 1) := by rw [wrap_i64 (by omega)]; omega
      simp [↓aw_lk, hgt, hi]
      refine DrS.run [KB] rfl ?_
      simp [sW]
      refine callS.cds KB (Codes_Next g2 8 (by omega)) (by simp) (by simp [refsOkL, refsOk, inKs, idx]) (by simp [renL, ren, ren1, idx]) (by simp) ?_
      generalize nxt y.2 8 = z at *
      have hw8 : IntKind.u64.wrap (z.1 : Int) = (z.1 : Int) := by simp [IntKind.wrap, IntKind.bits, IntKind.signed]; omega
      simp [hw8, encW_p]
      refine callT.ret (burrowref14_AcceptWindow (g1.acc (c := (z.1 : Int)) (by omega) (by omega)).1) (by simp) (by simp) (by simp) ?_
      simp [encS_s6_w, hw9]
      refine ⟨[.keep [0, 6, 8, 9]], ?_⟩
      simp
      exact hK _ (by simp [sW])
    · obtain ⟨g1, g2⟩ := wst_ok o6 x6.1
      generalize wst x6.2 x6.1 = y at *
      simp [↓aw_lk, ↓aw_lk]
      refine RetS.with [] [KB] ?_
      simp [refsOkB, (pure_encC _).refs, renB, (pure_encC _).ren, refsOk, refsOkL]
      refine ⟨sW s1 y.1, y.2, ⟨⟨?_, ?_, ?_, ?_, ?_, ?_⟩, ?_, g2⟩, rfl, rfl⟩
      · show 0 ≤ s1.born; rw [hfx.2.1, hs0]; dsimp only; omega
      · show s1.born ≤ d.now; rw [hfx.2.1, hs0]; dsimp only; omega
      · show s1.fence = d.rules.rejm; rw [hfx.1, hs0]
      · show 0 ≤ s1.next; have := hnx; omega
      · show s1.next ≤ _; have := hnx; omega
      · exact g1.ok
      · show s1.loc = n; rw [hfx.2.2, hs0]
  · obtain ⟨q1, q2, q3, _⟩ := hr
    have hfe : s0.fence = d.rules.rejm := by rw [hs0]
    refine DrS.run [KB] rfl ?_
    simp
    refine callS.cds KB (Codes_Next o4 4 (by omega)) (by simp) (by simp [refsOkL, refsOk, inKs, idx]) (by simp [renL, ren, ren1, idx]) (by simp) ?_
    have l5 := nxt_lt x4.2 (n := 4) (by omega)
    have o5 := nxt_ok o4 4
    generalize nxt x4.2 4 = x5 at *
    have w8 : IntKind.u64.wrap (x5.1 : Int) = (x5.1 : Int) := by simp [IntKind.wrap, IntKind.bits, IntKind.signed]; omega
    have w9 : IntKind.u64.wrap (s0.fence - min s0.fence (x5.1 : Int)) = s0.fence - min s0.fence (x5.1 : Int) := by rw [hfe]; simp [IntKind.wrap, IntKind.bits, IntKind.signed]; omega
    simp [w8, w9]
    obtain ⟨s1, hs1⟩ : ∃ s1 : Ses, s1 = { s0 with next := s0.fence - min s0.fence (x5.1 : Int) } := ⟨_, rfl⟩
    rw [← hs1]
    have hwin1 : s1.win = zWn := by rw [hs1]; exact hwin
    have hnx : 0 ≤ s1.next ∧ s1.next ≤ 18446744073709543423 := by rw [hs1]; show 0 ≤ s0.fence - min s0.fence (x5.1 : Int) ∧ s0.fence - min s0.fence (x5.1 : Int) ≤ 18446744073709543423; rw [hfe]; omega
    have hfx : s1.fence = s0.fence ∧ s1.born = s0.born ∧ s1.loc = s0.loc := by rw [hs1]; exact ⟨rfl, rfl, rfl⟩
    refine callS.cds KB (Codes_Next o5 4 (by omega)) (by simp) (by simp [refsOkL, refsOk, inKs, idx]) (by simp [renL, ren, ren1, idx]) (by simp) ?_
    have l6 := nxt_lt x5.2 (n := 4) (by omega)
    have o6 := nxt_ok o5 4
    generalize nxt x5.2 4 = x6 at *
    simp
    refine LpS.rng x6.1 (fun _ => True) [0, 6, 8, 9] (fun i => [(9, .int .i64 ((x6.1 : Int) - i))]) (fun i => [(8, .box (encS (sW s1 (wst x6.2 i).1))), (KB, .box (encC (wst x6.2 i).2))]) [.keep [0, 6, 8, 9]] ?_
    simp [show (wst x6.2 0) = (zW, x6.2) from rfl, sW_z hwin1]
    refine ⟨fun i hi K hK => ?_, fun K => ?_⟩
    · obtain ⟨g1, g2⟩ := wst_ok o6 i
      have gl := nxt_lt (wst x6.2 i).2 (n := 8) (by omega)
      have hst : wst x6.2 (i + 1) = ((accW (wst x6.2 i).1 ((nxt (wst x6.2 i).2 8).1 : Int)).1, (nxt (wst x6.2 i).2 8).2) := rfl
      rw [hst] at hK
      generalize wst x6.2 i = y at *
      have hgt : (0 : Int) < (x6.1 : Int) - i := by omega
      have hw9 : IntKind.i64.wrap ((x6.1 : Int) - i - 1) = (x6.1 : Int) - (i + 1) := by rw [wrap_i64 (by omega)]; omega
      simp [↓aw_lk, hgt, hi]
      refine DrS.run [KB] rfl ?_
      simp [sW]
      refine callS.cds KB (Codes_Next g2 8 (by omega)) (by simp) (by simp [refsOkL, refsOk, inKs, idx]) (by simp [renL, ren, ren1, idx]) (by simp) ?_
      generalize nxt y.2 8 = z at *
      have hw8 : IntKind.u64.wrap (z.1 : Int) = (z.1 : Int) := by simp [IntKind.wrap, IntKind.bits, IntKind.signed]; omega
      simp [hw8, encW_p]
      refine callT.ret (burrowref14_AcceptWindow (g1.acc (c := (z.1 : Int)) (by omega) (by omega)).1) (by simp) (by simp) (by simp) ?_
      simp [encS_s6_w, hw9]
      refine ⟨[.keep [0, 6, 8, 9]], ?_⟩
      simp
      exact hK _ (by simp [sW])
    · obtain ⟨g1, g2⟩ := wst_ok o6 x6.1
      generalize wst x6.2 x6.1 = y at *
      simp [↓aw_lk, ↓aw_lk]
      refine RetS.with [] [KB] ?_
      simp [refsOkB, (pure_encC _).refs, renB, (pure_encC _).ren, refsOk, refsOkL]
      refine ⟨sW s1 y.1, y.2, ⟨⟨?_, ?_, ?_, ?_, ?_, ?_⟩, ?_, g2⟩, rfl, rfl⟩
      · show 0 ≤ s1.born; rw [hfx.2.1, hs0]; dsimp only; omega
      · show s1.born ≤ d.now; rw [hfx.2.1, hs0]; dsimp only; omega
      · show s1.fence = d.rules.rejm; rw [hfx.1, hs0]
      · show 0 ≤ s1.next; have := hnx; omega
      · show s1.next ≤ _; have := hnx; omega
      · exact g1.ok
      · show s1.loc = n; rw [hfx.2.2, hs0]
  · refine callS.cds KB (Codes_Next o4 4 (by omega)) (by simp) (by simp [refsOkL, refsOk, inKs, idx]) (by simp [renL, ren, ren1, idx]) (by simp) ?_
    have l6 := nxt_lt x4.2 (n := 4) (by omega)
    have o6 := nxt_ok o4 4
    generalize nxt x4.2 4 = x6 at *
    simp
    refine LpS.rng x6.1 (fun _ => True) [0, 6, 8, 9] (fun i => [(9, .int .i64 ((x6.1 : Int) - i))]) (fun i => [(8, .box (encS (sW s0 (wst x6.2 i).1))), (KB, .box (encC (wst x6.2 i).2))]) [.keep [0, 6, 8, 9]] ?_
    simp [show (wst x6.2 0) = (zW, x6.2) from rfl, sW_z hwin]
    refine ⟨fun i hi K hK => ?_, fun K => ?_⟩
    · obtain ⟨g1, g2⟩ := wst_ok o6 i
      have gl := nxt_lt (wst x6.2 i).2 (n := 8) (by omega)
      have hst : wst x6.2 (i + 1) = ((accW (wst x6.2 i).1 ((nxt (wst x6.2 i).2 8).1 : Int)).1, (nxt (wst x6.2 i).2 8).2) := rfl
      rw [hst] at hK
      generalize wst x6.2 i = y at *
      have hgt : (0 : Int) < (x6.1 : Int) - i := by omega
      have hw9 : IntKind.i64.wrap ((x6.1 : Int) - i - 1) = (x6.1 : Int) - (i + 1) := by rw [wrap_i64 (by omega)]; omega
      simp [↓aw_lk, hgt, hi]
      refine DrS.run [KB] rfl ?_
      simp [sW]
      refine callS.cds KB (Codes_Next g2 8 (by omega)) (by simp) (by simp [refsOkL, refsOk, inKs, idx]) (by simp [renL, ren, ren1, idx]) (by simp) ?_
      generalize nxt y.2 8 = z at *
      have hw8 : IntKind.u64.wrap (z.1 : Int) = (z.1 : Int) := by simp [IntKind.wrap, IntKind.bits, IntKind.signed]; omega
      simp [hw8, encW_p]
      refine callT.ret (burrowref14_AcceptWindow (g1.acc (c := (z.1 : Int)) (by omega) (by omega)).1) (by simp) (by simp) (by simp) ?_
      simp [encS_s6_w, hw9]
      refine ⟨[.keep [0, 6, 8, 9]], ?_⟩
      simp
      exact hK _ (by simp [sW])
    · obtain ⟨g1, g2⟩ := wst_ok o6 x6.1
      generalize wst x6.2 x6.1 = y at *
      simp [↓aw_lk, ↓aw_lk]
      refine RetS.with [] [KB] ?_
      simp [refsOkB, (pure_encC _).refs, renB, (pure_encC _).ren, refsOk, refsOkL]
      refine ⟨sW s0 y.1, y.2, ⟨⟨?_, ?_, ?_, ?_, ?_, ?_⟩, ?_, g2⟩, rfl, rfl⟩
      · show 0 ≤ s0.born; rw [hs0]; dsimp only; omega
      · show s0.born ≤ d.now; rw [hs0]; dsimp only; omega
      · show s0.fence = d.rules.rejm; rw [hs0]
      · show 0 ≤ s0.next; rw [hs0]; dsimp only; omega
      · show s0.next ≤ _; rw [hs0]; dsimp only; omega
      · exact g1.ok
      · show s0.loc = n; rw [hs0]
end Go.Ab
end H1s
noncomputable section H2s
namespace Go.Ab
open Go.Ab
structure VP (d : Dmn) (i : Nat) : Prop where
  vm : VM d i
  sl : d.slots = []
  len : d.peers.length = i
  rg : ∀ p ∈ d.peers, slOf p = []
def addP (d : Dmn) (p : Per) (i : Nat) (T : List Tmr) : Dmn := { d with peers := d.peers ++ [p], routes := d.routes ++ [rt i], timers := T }
theorem VP.add {d : Dmn} {i : Nat} (h : VP d i) (hi : i < 3) {p : Per} (hp : PerOk d p) (hk : p.pub = kOf i) (hr : slOf p = []) {T : List Tmr}
    (hT : T = d.timers ∨ ∃ a, d.now < a ∧ a ≤ 4398046511104 ∧ p.kal ≠ 0 ∧ T = setT d.timers ⟨a, kOf i, 4⟩) : VP (addP d p i T) (i + 1) := by
  obtain ⟨⟨v, t⟩, hsl, hlen, hrg⟩ := h
  have hlen' : (addP d p i T).peers.length = i + 1 := by show (d.peers ++ [p]).length = i + 1; simp [hlen]
  have hget : ∀ (j : Nat) (hj : j < d.peers.length) (hj' : j < (addP d p i T).peers.length), (addP d p i T).peers[j] = d.peers[j] := by
    intro j hj hj'
    show (d.peers ++ [p])[j] = d.peers[j]
    exact List.getElem_append_left hj
  have hlast : ∀ (hj' : i < (addP d p i T).peers.length), (addP d p i T).peers[i] = p := by
    intro hj'
    have : (d.peers ++ [p])[d.peers.length]'(by simp) = p := by simp
    show (d.peers ++ [p])[i]'(by simpa [hlen] using hj') = p
    simp only [← hlen, List.getElem_concat_length]
  have t0 : TisOk' (addP d p i T) d.timers i := by
    obtain ⟨a, b, c, e⟩ := t
    refine ⟨a, fun x hx => ?_, c, e⟩
    obtain ⟨r1, r2, r3, r4, j, hj, r5, r6⟩ := b x hx
    exact ⟨r1, r2, r3, r4, j, by rw [hlen']; omega, r5, fun hk => by rw [hget j hj]; exact r6 hk⟩
  have t1 : TisOk' (addP d p i T) (addP d p i T).timers (i + 1) := by
    show TisOk' (addP d p i T) T (i + 1)
    rcases hT with rfl | ⟨a, a1, a2, a3, e⟩
    · obtain ⟨a, b, c, e⟩ := t0
      exact ⟨a, b, c, by omega⟩
    · have := t0.set (by rw [hlen']; omega) (t := ⟨a, kOf i, 4⟩) (by show (2 : Int) ≤ 4; omega) (by show (4 : Int) ≤ 5; omega) a1 a2 (i := i) (by rw [hlen']; omega) rfl (fun _ => by rw [hlast]; exact a3)
      rw [← e] at this
      exact this
  have hrg' : ∀ q ∈ (addP d p i T).peers, slOf q = [] := by
    intro q hq
    rcases List.mem_append.1 (show q ∈ d.peers ++ [p] from hq) with hq | hq
    · exact hrg q hq
    · rw [List.mem_singleton.1 hq]; exact hr
  refine ⟨⟨?_, t1⟩, hsl, hlen', hrg'⟩
  constructor
  · exact v.ru
  · exact v.n0
  · exact v.n1
  · exact v.p0
  · exact v.p1
  · exact v.bad
  · refine ⟨by rw [hlen']; omega, fun j hj => ?_⟩
    rw [hlen'] at hj
    by_cases e : j < d.peers.length
    · rw [hget j e]; exact v.pks.2 j e
    · have : j = i := by omega
      subst this
      rw [hlast]; exact hk
  · intro q hq
    refine PerOk.of (d := d) (e := addP d p i T) rfl rfl ?_
    rcases List.mem_append.1 (show q ∈ d.peers ++ [p] from hq) with hq | hq
    · exact v.per q hq
    · rw [List.mem_singleton.1 hq]; exact hp
  · have hrl := v.rtl
    refine ⟨?_, fun j hj => ?_⟩
    · show (d.routes ++ [rt i]).length ≤ 3; simp; omega
    · have hj2 : j < (d.routes ++ [rt i]).length := hj
      show (d.routes ++ [rt i])[j] = rt j
      by_cases e : j < d.routes.length
      · rw [List.getElem_append_left e]; exact v.rts.2 j e
      · have : j = d.routes.length := by simp at hj2; omega
        have h2 : j = i := by omega
        rw [List.getElem_append_right (by omega)]
        simp [h2]
  · show (d.routes ++ [rt i]).length = (d.peers ++ [p]).length
    have hrl := v.rtl
    simp; omega
  · constructor
    · show SortS d.slots; exact v.sls.so
    · show d.slots.Perm ((d.peers ++ [p]).flatMap slOf)
      rw [hsl]
      have : (d.peers ++ [p]).flatMap slOf = [] := by
        rw [List.flatMap_eq_nil_iff]
        exact hrg'
      rw [this]
  · exact t1.toT (by omega)
  · exact v.s0
  · exact v.s1
  · exact v.rcn
  · exact v.buc
end Go.Ab
end H2s
