/- The checks of the reference hold of a made daemon. No condition. -/
import Derived.Test.YtdfkcobijmbidaaGreatB3
set_option linter.all false
noncomputable section G1s
namespace Go.Ab
open Go.Ab
def zAdr : Adr := ⟨false, List.replicate 16 0, rfl⟩
def zEpn : Epn := ⟨zAdr, 0⟩
def zTg : FV shTg := ⟨.ar 1 16 (zr 16 (.int .u8 0)), by rw [zr_eq]; rfl⟩
def zSm : FV shSm := ⟨.ar 1 12 (zr 12 (.int .u8 0)), by rw [zr_eq]; rfl⟩
def zNo : FV shNo := ⟨.st 64 [.ar 1 32 (zr 32 (.int .u8 0)), .ar 1 32 (zr 32 (.int .u8 0))], by rw [zr_eq]; rfl⟩
def zHnd : Hnd := ⟨false, 0, zKy, zNo, 0, 0⟩
theorem zEpn_e : encE zEpn = (.st 18 [(.st 17 [(.bl false), (.ar 1 16 (zr 16 (.int .u8 0)))]), (.int .i64 0)]) := by first | rfl | (rw [zr_eq]; rfl)
theorem beqzE : PV.beq (.st 18 [(.st 17 [(.bl false), (.ar 1 16 (zr 16 (.int .u8 0)))]), (.int .i64 0)]) (.st 18 [(.st 17 [(.bl false), (.ar 1 16 (zr 16 (.int .u8 0)))]), (.int .i64 0)]) = true := by
  have h := beq_encE zEpn; rw [zEpn_e] at h; exact h
theorem fitzE : fits (Sh.st [Sh.st [Sh.b, Sh.ar 16 (Sh.i IntKind.u8)], Sh.i IntKind.i64]) (.st 18 [(.st 17 [(.bl false), (.ar 1 16 (zr 16 (.int .u8 0)))]), (.int .i64 0)]) = true := by
  have h := fits_encE zEpn; rw [zEpn_e] at h; exact h
theorem zTg_e : zTg.p = (.ar 1 16 (zr 16 (.int .u8 0))) := by first | rfl | (rw [zr_eq]; rfl)
def PlcOk (d : Dmn) (p : Plc) : Prop := (p.has = true ∧ SesOk d p.ses) ∨ (p.has = false ∧ p = zPlc)
structure PerOk (d : Dmn) (p : Per) : Prop where
  ep : (p.hasEp = true ∧ ∃ i, i < 3 ∧ p.ep = atOf i) ∨ (p.hasEp = false ∧ p.ep = zEpn)
  kal : p.kal = 0 ∨ 1000 ≤ p.kal ∧ p.kal ≤ 1073741824
  inAt : p.inAt = 0
  hin : p.hasIn = false
  hco : p.hasCo = false
  coAt : p.coAt = 0
  cook : p.cook = zTg
  staged : p.staged = []
  hand : p.hand = zHnd
  rp : PlcOk d p.ring.p
  rc : PlcOk d p.ring.c
  rn : PlcOk d p.ring.n
set_option maxRecDepth 10000 in
theorem fields_t {d : Dmn} {p : Per} (h : PerOk d p) (hn : 0 ≤ d.now) (hs : 0 ≤ d.rules.stage) : ARet Pg I.burrowref24_fields [encD d, encPe p] (.bl true) := by
  refine ACalls.intro T.burrowref24_fields (by simp [F.burrowref24_fields]) ?_
  have h2 := h.inAt
  have h3 := h.coAt
  have h4 := h.cook
  have h5 := h.staged
  have h6 := h.hin
  have h7 := h.hco
  have hf : fits (Sh.ar 16 (Sh.i IntKind.u8)) (PV.ar 1 16 (zr 16 (PV.int IntKind.u8 0))) = true := by rw [zr_eq]; rfl
  have hs' : ¬ d.rules.stage < 0 := by omega
  have hp0 : ARet Pg I.burrowref24_past [encD d, .int .i64 0] (.bl true) := past_t (by omega) hn
  have hb : PV.beq zTg.p zTg.p = true := FV.beq zTg
  rw [zTg_e] at hb
  rcases h.ep with ⟨he, i, hi, e⟩ | ⟨he, e⟩
  · simp [F.burrowref24_fields, argEnv, fpBx, he, e]
    refine callS.ret (FormatEndpoint hi) (by simp) (by simp) (by simp) ?_
    simp [fmtE_pos, he]
    refine callS.ret (Timed_t h.kal) (by simp) (by simp) (by simp) ?_
    simp [h2]
    refine callS.ret hp0 (by simp) (by simp) (by simp) ?_
    simp [h2, h3, h6]
    refine callS.ret hp0 (by simp) (by simp) (by simp) ?_
    simp [h3, h4, h5, zTg_e, hs', h7, hb, hf]
    refine LpS.rng 0 (fun _ => True) [4, 82, 83, 84] (fun i => []) (fun i => []) [.keep [4, 82, 83, 84]] ?_
    simp
    intro K
    simp [↓aw_lk, ↓aw_lk]
    refine RetS.plain [] ?_
    simp
  · simp [F.burrowref24_fields, argEnv, fpBx, he, e, zEpn_e, beqzE, fitzE]
    refine callS.ret (Timed_t h.kal) (by simp) (by simp) (by simp) ?_
    simp [h2]
    refine callS.ret hp0 (by simp) (by simp) (by simp) ?_
    simp [h2, h3, h6]
    refine callS.ret hp0 (by simp) (by simp) (by simp) ?_
    simp [h3, h4, h5, zTg_e, hs', h7, hb, hf]
    refine LpS.rng 0 (fun _ => True) [4, 82, 83, 84] (fun i => []) (fun i => []) [.keep [4, 82, 83, 84]] ?_
    simp
    intro K
    simp [↓aw_lk, ↓aw_lk]
    refine RetS.plain [] ?_
    simp
theorem hand_t {d : Dmn} {p : Per} (h : PerOk d p) : ARet Pg I.burrowref24_hand [encD d, encPe p] (.bl true) := by
  refine ACalls.intro T.burrowref24_hand (by simp [F.burrowref24_hand]) ?_
  have h1 := h.hand
  have h2 : zHnd.has = false := rfl
  have hb := beq_encH zHnd
  have hf := fits_encH zHnd
  have e : encH zHnd = (.st 100 [.bl false, .int .u32 0, .ar 1 32 (zr 32 (.int .u8 0)), .st 64 [.ar 1 32 (zr 32 (.int .u8 0)), .ar 1 32 (zr 32 (.int .u8 0))], .int .i64 0, .int .i64 0]) := rfl
  rw [e] at hb hf
  simp [F.burrowref24_hand, argEnv, fpBx, h1, e, widths]
  refine ⟨hf, ?_⟩
  refine RetS.plain [] ?_
  simp [hb]
set_option maxRecDepth 10000 in
theorem ring_t {d : Dmn} {p : Per} (h : PerOk d p) : ARet Pg I.burrowref24_ring [encD d, encPe p] (.bl true) := by
  refine ACalls.intro T.burrowref24_ring (by simp [F.burrowref24_ring]) ?_
  have hg : ∀ i, i < 3 → PlcOk d (getR p.ring (i + 1)) := by
    intro i hi
    rcases (by omega : i = 0 ∨ i = 1 ∨ i = 2) with rfl | rfl | rfl
    · exact h.rp
    · exact h.rc
    · exact h.rn
  have hb := beq_encP zPlc
  have hf := fits_encP zPlc
  simp [F.burrowref24_ring, argEnv, fpBx]
  refine LpS.rng 3 (fun _ => True) [2, 3, 4, 5] (fun i => [(5, .int .i64 ((i : Int) + 1))]) (fun i => []) [.keep [2, 3, 4, 5]] ?_
  simp
  refine ⟨fun i hi K hK => ?_, fun K => ?_⟩
  · have hi3 : (i : Int) + 1 ≤ 3 := by omega
    have hw : IntKind.i64.wrap ((i : Int) + 1 + 1) = (i : Int) + 1 + 1 := wrap_i64 (by omega)
    have hget := burrowref22_Get p.ring (k := i + 1) (by omega)
    rw [show ((i + 1 : Nat) : Int) = (i : Int) + 1 by omega] at hget
    have hp := hg i hi
    generalize getR p.ring (i + 1) = q at *
    simp [↓aw_lk, hi, hi3]
    refine callS.ret hget (by simp) (by simp) (by simp) ?_
    rcases hp with ⟨h1, h2⟩ | ⟨h1, h2⟩
    · simp [h1]
      refine callS.ret (sound_t h2) (by simp) (by simp) (by simp) ?_
      simp [h1, hw]
      refine ⟨[.keep [2, 3, 4, 5], .dr 6], ?_⟩
      simp
      exact hK _ (by simp)
    · have h0 : zPlc.has = false := rfl
      have hb2 : PV.beq (encP zPlc) (.st 77 [(.bl false), (.st 76 [(.int .u32 0), (.int .u32 0), (.ar 1 32 (zr 32 (.int .u8 0))), (.ar 1 32 (zr 32 (.int .u8 0))), (.int .u64 0), (.int .u64 0), (.st 6 [(.bl false), (.int .u64 0), (.ar 1 4 (zr 4 (.int .u64 0)))]), (.int .i64 0), (.bl false)])]) = true := beq_encP zPlc
      simp [h2, h0, hw, hb2]
      refine ⟨hf, [.keep [2, 3, 4, 5], .dr 6], ?_⟩
      simp
      exact hK _ (by simp)
  · simp [↓aw_lk, ↓aw_lk]
    refine RetS.plain [] ?_
    simp
set_option maxRecDepth 10000 in
theorem each_t {d : Dmn} (hl : d.peers.length ≤ 8) {k : Int} (hk : k = 3 ∨ k = 4 ∨ k = 5) (h : ∀ p ∈ d.peers, PerOk d p) (hn : 0 ≤ d.now) (hs : 0 ≤ d.rules.stage) : ARet Pg I.burrowref24_each [encD d, .int .i64 k] (.bl true) := by
  refine ACalls.intro T.burrowref24_each (by simp [F.burrowref24_each]) ?_
  simp [F.burrowref24_each, argEnv, fpBx]
  refine LpS.rng d.peers.length (fun _ => True) [1, 2, 4, 8, 9, 10] (fun i => [(10, .int .i64 i)]) (fun i => []) [.keep [1, 2, 4, 8, 9, 10]] ?_
  simp
  refine ⟨fun i hi K hK => ?_, fun K => ?_⟩
  · have hx : d.peers[i]? = some d.peers[i] := List.getElem?_eq_getElem hi
    have hp := h _ (List.getElem_mem hi)
    rcases hk with rfl | rfl | rfl
    · simp [↓aw_lk, hx, hi]
      refine callS.ret (fields_t hp hn hs) (by simp) (by simp) (by simp) ?_
      simp [wrapi hi (by omega)]
      refine ⟨[.keep [1, 2, 4, 8, 9, 10], .dr 6], ?_⟩
      simp
      exact hK _ (by simp)
    · simp [↓aw_lk, hx, hi]
      refine callS.ret (hand_t hp) (by simp) (by simp) (by simp) ?_
      simp [wrapi hi (by omega)]
      refine ⟨[.keep [1, 2, 4, 8, 9, 10], .dr 6], ?_⟩
      simp
      exact hK _ (by simp)
    · simp [↓aw_lk, hx, hi]
      refine callS.ret (ring_t hp) (by simp) (by simp) (by simp) ?_
      simp [wrapi hi (by omega)]
      refine ⟨[.keep [1, 2, 4, 8, 9, 10], .dr 6], ?_⟩
      simp
      exact hK _ (by simp)
  · simp [↓aw_lk, ↓aw_lk]
    refine RetS.plain [] ?_
    simp
set_option maxRecDepth 10000 in
theorem peers_t {d : Dmn} (hl : d.peers.length ≤ 8) (h : ∀ (i : Nat) (h : i + 1 < d.peers.length), ltK d.peers[i].pub d.peers[i + 1].pub = true) : ARet Pg I.burrowref24_peers [encD d] (.bl true) := by
  refine ACalls.intro T.burrowref24_peers (by simp [F.burrowref24_peers]) ?_
  simp [F.burrowref24_peers, argEnv, fpBx]
  refine LpS.rng d.peers.length (fun _ => True) [1, 2, 6, 7, 8] (fun i => [(8, .int .i64 i)]) (fun i => []) [.keep [1, 2, 6, 7, 8]] ?_
  simp
  refine ⟨fun i hi K hK => ?_, fun K => ?_⟩
  · have hx : d.peers[i]? = some d.peers[i] := List.getElem?_eq_getElem hi
    by_cases hz : i = 0
    · subst hz
      simp [↓aw_lk, hx, hi]
      refine ⟨[.keep [1, 2, 6, 7, 8], .dr 4], ?_⟩
      simp
      exact hK _ (by simp)
    · obtain ⟨j, hji⟩ : ∃ j, i = j + 1 := ⟨i - 1, by omega⟩
      have hj : j < d.peers.length := by omega
      have hy : d.peers[j]? = some d.peers[j] := List.getElem?_eq_getElem hj
      have hlt := h j (by omega)
      have hlt2 : ltK d.peers[j].pub d.peers[i].pub = true := by subst hji; exact hlt
      have hw : IntKind.i64.wrap ((i : Int) - 1) = j := by rw [wrap_i64 (by omega)]; omega
      have ta : (d.peers[j].pub.l.map u8).take 32 = d.peers[j].pub.l.map u8 := List.take_of_length_le (by simp [d.peers[j].pub.h])
      have tb : (d.peers[i].pub.l.map u8).take 32 = d.peers[i].pub.l.map u8 := List.take_of_length_le (by simp [d.peers[i].pub.h])
      simp [↓aw_lk, hx, hy, hi, hj, hw, show 0 < i by omega, wrapi hi (by omega), encK, ta, tb, (show Op.bytesLess d.peers[j].pub.l d.peers[i].pub.l = true from hlt2)]
      refine ⟨[.keep [1, 2, 6, 7, 8], .dr 4], ?_⟩
      simp
      exact hK _ (by simp)
  · have hl8 : (d.peers.length : Int) ≤ 8 := by omega
    simp [↓aw_lk, ↓aw_lk, hl8]
    refine RetS.plain [] ?_
    simp [hl8, hl]
end Go.Ab
end G1s
noncomputable section G2s
namespace Go.Ab
open Go.Ab
def rt (i : Nat) : Rte := ⟨pfxA (UInt8.ofNat (i + 1)), kOf i⟩
theorem kOf_inj {i j : Nat} (hi : i < 3) (hj : j < 3) (h : kOf i = kOf j) : i = j := by
  have h2 := congrArg (fun k : Key => k.l.head?) h
  rcases (by omega : i = 0 ∨ i = 1 ∨ i = 2) with rfl | rfl | rfl <;> rcases (by omega : j = 0 ∨ j = 1 ∨ j = 2) with rfl | rfl | rfl <;> simp [kOf] at h2 <;> rfl
theorem kOf_lt {i j : Nat} (hij : i < j) (hj : j < 3) : ltK (kOf i) (kOf j) = true := by
  rcases (by omega : i = 0 ∧ j = 1 ∨ i = 0 ∧ j = 2 ∨ i = 1 ∧ j = 2) with ⟨rfl, rfl⟩ | ⟨rfl, rfl⟩ | ⟨rfl, rfl⟩ <;> rfl
theorem rt_lt {i j : Nat} (hij : i < j) (hj : j < 3) : UInt8.ofNat (i + 1) < UInt8.ofNat (j + 1) := by
  rcases (by omega : i = 0 ∧ j = 1 ∨ i = 0 ∧ j = 2 ∨ i = 1 ∧ j = 2) with ⟨rfl, rfl⟩ | ⟨rfl, rfl⟩ | ⟨rfl, rfl⟩ <;> decide
def RtsOk (l : List Rte) : Prop := l.length ≤ 3 ∧ ∀ (i : Nat) (h : i < l.length), l[i] = rt i
set_option maxRecDepth 10000 in
theorem ValidRoutes_t {l : List Rte} (h : RtsOk l) : ARet Pg I.burrowref14_ValidRoutes [encRts l] (.bl true) := by
  refine ACalls.intro T.burrowref14_ValidRoutes (by simp [F.burrowref14_ValidRoutes]) ?_
  have hl := h.1
  simp [F.burrowref14_ValidRoutes, argEnv, fpBx]
  refine LpS.rng l.length (fun _ => True) [0, 2, 5, 6, 7] (fun i => [(7, .int .i64 i)]) (fun i => []) [.keep [0, 2, 5, 6, 7]] ?_
  simp
  refine ⟨fun i hi K hK => ?_, fun K => ?_⟩
  · have hx : l[i]? = some l[i] := List.getElem?_eq_getElem hi
    have he := h.2 i hi
    have hp : l[i].pfx = pfxA (UInt8.ofNat (i + 1)) := by rw [he]; rfl
    have hv : ARet Pg I.burrowref09_Valid [encX l[i].pfx] (.bl true) := by rw [hp]; exact burrowref09_Valid (hostA_z _) rfl
    by_cases hz : i = 0
    · subst hz
      simp [↓aw_lk, hx, hi]
      refine callT.ret hv (by simp) (by simp) (by simp) ?_
      simp
      refine ⟨[.keep [0, 2, 5, 6, 7], .dr 4], ?_⟩
      simp
      exact hK _ (by simp)
    · obtain ⟨j, hji⟩ : ∃ j, i = j + 1 := ⟨i - 1, by omega⟩
      have hj : j < l.length := by omega
      have hy : l[j]? = some l[j] := List.getElem?_eq_getElem hj
      have hq : l[j].pfx = pfxA (UInt8.ofNat (j + 1)) := by rw [h.2 j hj]; rfl
      have hlt := rt_lt (i := j) (j := i) (by omega) (by omega)
      have hb := burrowref14_before (UInt8.ne_of_lt hlt)
      rw [hostA_less hlt, ← hp, ← hq] at hb
      have hw : IntKind.i64.wrap ((i : Int) - 1) = j := by rw [wrap_i64 (by omega)]; omega
      simp [↓aw_lk, hx, hy, hi, hj, hw, show 0 < i by omega]
      refine callT.ret hv (by simp) (by simp) (by simp) ?_
      simp [hx, hy, hi, hj, hw, show 0 < i by omega]
      refine callT.ret hb (by simp) (by simp) (by simp) ?_
      simp [wrapi hi (by omega)]
      refine ⟨[.keep [0, 2, 5, 6, 7], .dr 4], ?_⟩
      simp
      exact hK _ (by simp)
  · have hl8 : (l.length : Int) ≤ 16 := by omega
    simp [↓aw_lk, ↓aw_lk, hl8]
    refine RetS.plain [] ?_
    simp [hl8]
def PksOk (l : List Per) : Prop := l.length ≤ 3 ∧ ∀ (i : Nat) (h : i < l.length), l[i].pub = kOf i
theorem find_k {d : Dmn} (h : PksOk d.peers) {i : Nat} (hi : i < d.peers.length) : ARet Pg I.burrowref24_find [encD d, encK (kOf i)] (.int .i64 i) := by
  have hl := h.1
  refine find_yes (by omega) hi (h.2 i hi) (fun j hj hji => ?_)
  rw [h.2 j hj]
  intro e
  exact absurd (kOf_inj (by omega) (by omega) e) (by omega)
set_option maxRecDepth 10000 in
theorem routes_t {d : Dmn} (h : RtsOk d.routes) (hp : PksOk d.peers) (hl : d.routes.length = d.peers.length) : ARet Pg I.burrowref24_routes [encD d] (.bl true) := by
  refine ACalls.intro T.burrowref24_routes (by simp [F.burrowref24_routes]) ?_
  have hl3 := h.1
  simp [F.burrowref24_routes, argEnv, fpBx]
  refine LpS.rng d.routes.length (fun _ => True) [1, 2, 6, 7, 8] (fun i => [(8, .int .i64 i)]) (fun i => []) [.keep [1, 2, 6, 7, 8]] ?_
  simp
  refine ⟨fun i hi K hK => ?_, fun K => ?_⟩
  · have hx : d.routes[i]? = some d.routes[i] := List.getElem?_eq_getElem hi
    have he : d.routes[i].peer = kOf i := by rw [h.2 i hi]; rfl
    have hf := find_k hp (i := i) (by omega)
    rw [← he] at hf
    have hn : ¬ (i : Int) < 0 := by omega
    simp [↓aw_lk, hx, hi]
    refine callS.ret hf (by simp) (by simp) (by simp) ?_
    simp [hn, wrapi hi (by omega)]
    refine ⟨[.keep [1, 2, 6, 7, 8], .dr 4], ?_⟩
    simp
    exact hK _ (by simp)
  · simp [↓aw_lk, ↓aw_lk]
    refine callS.ret (ValidRoutes_t h) (by simp) (by simp) (by simp) ?_
    simp
    refine RetS.plain [] ?_
    simp
set_option maxRecDepth 10000 in
theorem load_t {d : Dmn} (h0 : 0 ≤ d.secAt) (h1 : d.secAt ≤ d.now) (h2 : d.recent = []) (h3 : d.buckets = []) : ARet Pg I.burrowref24_load [encD d] (.bl true) := by
  refine ACalls.intro T.burrowref24_load (by simp [F.burrowref24_load]) ?_
  simp [F.burrowref24_load, argEnv, fpBx]
  refine callS.ret (past_t h0 h1) (by simp) (by simp) (by simp) ?_
  simp [h2, h3]
  refine LpS.rng 0 (fun _ => True) [1, 2, 25, 26, 27] (fun i => []) (fun i => []) [.keep [1, 2, 25, 26, 27]] ?_
  simp
  intro K
  simp [↓aw_lk, ↓aw_lk, h3]
  refine LpS.rng 0 (fun _ => True) [1, 2, 52, 53, 54] (fun i => []) (fun i => []) [.keep [1, 2, 52, 53, 54]] ?_
  simp
  intro K
  simp [↓aw_lk, ↓aw_lk]
  refine RetS.plain [] ?_
  simp
end Go.Ab
end G2s
namespace Go.Ab
open Go.Ab
structure TisOk (d : Dmn) : Prop where
  so : ∀ (i : Nat) (h : i + 1 < d.timers.length), lessT d.timers[i] d.timers[i + 1] = true
  rg : ∀ t ∈ d.timers, 2 ≤ t.kind ∧ t.kind ≤ 5 ∧ d.now < t.at_ ∧ t.at_ ≤ 4398046511104 ∧ ∃ i, ∃ h : i < d.peers.length, t.peer = kOf i ∧ (t.kind = 4 → d.peers[i].kal ≠ 0)
  un : ∀ (i j : Nat) (hi : i < d.timers.length) (hj : j < d.timers.length), i < j → ¬ (d.timers[j].peer = d.timers[i].peer ∧ d.timers[j].kind = d.timers[i].kind)
  len : d.timers.length ≤ 1000
set_option maxRecDepth 10000 in
theorem Has_no {l : List Tmr} (hl : l.length ≤ 1000) {k : Key} {n : Int} (h : ∀ t ∈ l, t.kind ≠ n) : ARet Pg I.burrowref14_Has [encTs l, encK k, .int .i64 n] (.bl false) := by
  refine ACalls.intro T.burrowref14_Has (by simp [F.burrowref14_Has]) ?_
  simp [F.burrowref14_Has, argEnv, fpBx]
  refine LpS.rng l.length (fun _ => True) [2, 4, 6, 9, 10, 11] (fun i => [(11, .int .i64 i)]) (fun i => []) [.keep [2, 4, 6, 9, 10, 11]] ?_
  simp
  refine ⟨fun i hi K hK => ?_, fun K => ?_⟩
  · have hx : l[i]? = some l[i] := List.getElem?_eq_getElem hi
    have he := h _ (List.getElem_mem hi)
    by_cases h1 : l[i].peer = k
    · simp [↓aw_lk, hx, hi, he, beq_K, h1, wrapi hi (by omega)]
      refine ⟨[.keep [2, 4, 6, 9, 10, 11], .dr 8], ?_⟩
      simp
      exact hK _ (by simp)
    · simp [↓aw_lk, hx, hi, he, beq_K, h1, wrapi hi (by omega)]
      refine ⟨[.keep [2, 4, 6, 9, 10, 11], .dr 8], ?_⟩
      simp
      exact hK _ (by simp)
  · simp [↓aw_lk, ↓aw_lk]
    refine RetS.plain [] ?_
    simp
set_option maxRecDepth 10000 in
set_option maxHeartbeats 1000000 in
theorem ValidTimers_t {l : List Tmr} (hl : l.length ≤ 1000) (hso : ∀ (i : Nat) (h : i + 1 < l.length), lessT l[i] l[i + 1] = true)
    (hrg : ∀ t ∈ l, 2 ≤ t.kind ∧ t.kind ≤ 5 ∧ 0 ≤ t.at_ ∧ t.at_ ≤ 4398046511104)
    (hun : ∀ (i j : Nat) (hi : i < l.length) (hj : j < l.length), i < j → ¬ (l[j].peer = l[i].peer ∧ l[j].kind = l[i].kind)) : ARet Pg I.burrowref14_ValidTimers [encTs l] (.bl true) := by
  refine ACalls.intro T.burrowref14_ValidTimers (by simp [F.burrowref14_ValidTimers]) ?_
  simp [F.burrowref14_ValidTimers, argEnv, fpBx]
  refine LpS.rng l.length (fun _ => True) [0, 2, 7, 8, 9] (fun i => [(9, .int .i64 i)]) (fun i => []) [.keep [0, 2, 7, 8, 9]] ?_
  simp
  refine ⟨fun i hi K hK => ?_, fun K => ?_⟩
  · have hx : l[i]? = some l[i] := List.getElem?_eq_getElem hi
    obtain ⟨r1, r2, r3, r4⟩ := hrg _ (List.getElem_mem hi)
    have g1 : ¬ l[i].kind < 1 := by omega
    have g2 : ¬ 5 < l[i].kind := by omega
    have g3 : ¬ l[i].at_ < 0 := by omega
    have g4 : ¬ 4398046511104 < l[i].at_ := by omega
    by_cases hz : i = 0
    · subst hz
      simp [↓aw_lk, hx, hi, g1, g2, g3, g4, encTs]
      refine LpS.rng 0 (fun _ => True) [0, 2, 4, 7, 8, 9, 48, 49, 50] (fun i => []) (fun i => []) [.keep [0, 2, 4, 7, 8, 9, 48, 49, 50]] ?_
      simp
      intro K2
      simp [↓aw_lk, ↓aw_lk]
      refine ⟨[.keep [0, 2, 7, 8, 9], .dr 4], ?_⟩
      simp
      exact hK _ (by simp [encTs])
    · obtain ⟨j, hji⟩ : ∃ j, i = j + 1 := ⟨i - 1, by omega⟩
      have hj : j < l.length := by omega
      have hy : l[j]? = some l[j] := List.getElem?_eq_getElem hj
      have hlt : lessT l[j] l[i] = true := by subst hji; exact hso j hi
      have hw : IntKind.i64.wrap ((i : Int) - 1) = j := by rw [wrap_i64 (by omega)]; omega
      have hlc := burrowref14_LessTimer l[j] l[i]
      rw [hlt] at hlc
      simp [↓aw_lk, hx, hy, hi, hj, g1, g2, g3, g4, hw, show 0 < i by omega]
      refine callT.ret hlc (by simp) (by simp) (by simp) ?_
      simp [encTs, show i ≤ l.length by omega]
      refine LpS.rng i (fun _ => True) [0, 2, 4, 7, 8, 9, 48, 49, 50] (fun m => [(50, .int .i64 m)]) (fun i => []) [.keep [0, 2, 4, 7, 8, 9, 48, 49, 50]] ?_
      simp
      refine ⟨fun m hm K2 hK2 => ?_, fun K2 => ?_⟩
      · have hml : m < l.length := by omega
        have hm' : m < min i l.length := by omega
        have hxm : l[m]? = some l[m] := List.getElem?_eq_getElem hml
        have hu := hun m i hml hi hm
        by_cases hp : l[i].peer = l[m].peer
        · have hk : ¬ l[i].kind = l[m].kind := fun e => hu ⟨hp, e⟩
          simp [↓aw_lk, hxm, hm, hml, beq_K, hp, hk, wrapi hm (by omega)]
          refine ⟨hm', [.keep [0, 2, 4, 7, 8, 9, 48, 49, 50], .dr 6], ?_⟩
          simp
          exact hK2 _ (by simp)
        · simp [↓aw_lk, hxm, hm, hml, beq_K, hp, wrapi hm (by omega)]
          refine ⟨hm', [.keep [0, 2, 4, 7, 8, 9, 48, 49, 50], .dr 6], ?_⟩
          simp
          exact hK2 _ (by simp)
      · simp [↓aw_lk, ↓aw_lk, wrapi hi (by omega)]
        refine ⟨[.keep [0, 2, 7, 8, 9], .dr 4], ?_⟩
        simp
        exact hK _ (by simp [encTs])
  · simp [↓aw_lk, ↓aw_lk]
    refine RetS.plain [] ?_
    simp
set_option maxRecDepth 10000 in
set_option maxHeartbeats 1000000 in
theorem timers_t {d : Dmn} (h : TisOk d) (hn : 0 ≤ d.now) (hp : PksOk d.peers) (hh : ∀ p ∈ d.peers, PerOk d p) : ARet Pg I.burrowref24_timers [encD d] (.bl true) := by
  refine ACalls.intro T.burrowref24_timers (by simp [F.burrowref24_timers]) ?_
  have hl := h.len
  have hpl := hp.1
  have hv : ARet Pg I.burrowref14_ValidTimers [encTs d.timers] (.bl true) :=
    ValidTimers_t hl h.so (fun t ht => by obtain ⟨r1, r2, r3, r4, _⟩ := h.rg t ht; exact ⟨r1, r2, by omega, r4⟩) h.un
  simp [F.burrowref24_timers, argEnv, fpBx]
  refine callS.ret hv (by simp) (by simp) (by simp) ?_
  simp
  refine LpS.rng d.timers.length (fun _ => True) [1, 2, 13, 14, 15] (fun i => [(15, .int .i64 i)]) (fun i => []) [.keep [1, 2, 13, 14, 15]] ?_
  simp
  refine ⟨fun i hi K hK => ?_, fun K => ?_⟩
  · have hx : d.timers[i]? = some d.timers[i] := List.getElem?_eq_getElem hi
    obtain ⟨r1, r2, r3, r4, j, hj, he, h4⟩ := h.rg _ (List.getElem_mem hi)
    have hf := find_k hp hj
    rw [← he] at hf
    have hn1 : ¬ d.timers[i].at_ ≤ d.now := by omega
    have hn2 : ¬ (j : Int) < 0 := by omega
    have hy : d.peers[j]? = some d.peers[j] := List.getElem?_eq_getElem hj
    simp [↓aw_lk, hx, hi]
    refine callS.ret hf (by simp) (by simp) (by simp) ?_
    by_cases hk : d.timers[i].kind = 4
    · have h4' := h4 hk
      simp [hn1, hn2, hk, hy, hj, h4', wrapi hi (by omega)]
      refine ⟨[.keep [1, 2, 13, 14, 15], .dr 4], ?_⟩
      simp
      exact hK _ (by simp)
    · simp [hn1, hn2, hk, hy, hj, wrapi hi (by omega)]
      refine ⟨[.keep [1, 2, 13, 14, 15], .dr 4], ?_⟩
      simp
      exact hK _ (by simp)
  · simp [↓aw_lk, ↓aw_lk]
    refine LpS.rng d.peers.length (fun _ => True) [1, 2, 48, 49, 50] (fun i => [(50, .int .i64 i)]) (fun i => []) [.keep [1, 2, 48, 49, 50]] ?_
    simp
    refine ⟨fun i hi K hK => ?_, fun K => ?_⟩
    · have hx : d.peers[i]? = some d.peers[i] := List.getElem?_eq_getElem hi
      have h5 := (hh _ (List.getElem_mem hi)).hand
      have h6 : d.peers[i].hand.has = false := by rw [h5]; rfl
      have hs : ARet Pg I.burrowref14_Has [encTs d.timers, encK d.peers[i].pub, .int .i64 1] (.bl false) :=
        Has_no hl (fun t ht => by have := (h.rg t ht).1; omega)
      simp [↓aw_lk, hx, hi]
      refine callT.ret hs (by simp) (by simp) (by simp) ?_
      simp [h6, wrapi hi (by omega)]
      refine ⟨[.keep [1, 2, 48, 49, 50], .dr 7], ?_⟩
      simp
      exact hK _ (by simp)
    · simp [↓aw_lk, ↓aw_lk]
      refine RetS.plain [] ?_
      simp
end Go.Ab
noncomputable section G4s
namespace Go.Ab
open Go.Ab
def lc3 (r : Rng) : List Int := lcl [r.p, r.c, r.n]
def slOf (p : Per) : List Slt := (lc3 p.ring).map (fun x => ⟨x, p.pub, true⟩)
theorem lc3_le (r : Rng) : (lc3 r).length ≤ 3 := lcl_le _
structure SlsOk (d : Dmn) : Prop where
  so : SortS d.slots
  pm : d.slots.Perm (d.peers.flatMap slOf)
theorem SortS.lt {l : List Slt} (h : SortS l) : ∀ (k i : Nat) (hk : i + k + 1 < l.length), l[i].index < l[i + k + 1].index
  | 0, i, hk => h.2 i hk
  | k + 1, i, hk => Int.lt_trans (SortS.lt h k i (by omega)) (h.2 (i + k + 1) (by omega))
theorem SortS.lt' {l : List Slt} (h : SortS l) {i j : Nat} (hij : i < j) (hj : j < l.length) : l[i].index < l[j].index := by
  obtain ⟨k, rfl⟩ : ∃ k, j = i + k + 1 := ⟨j - i - 1, by omega⟩
  exact h.lt k i hj
theorem SortS.nodup {l : List Slt} (h : SortS l) : (l.map (fun s => s.index)).Nodup := by
  rw [List.nodup_iff_pairwise_ne, List.pairwise_map, List.pairwise_iff_getElem]
  intro i j hi hj hij e
  have := h.lt' hij hj
  omega
theorem slOf_idx (p : Per) : (slOf p).map (fun s => s.index) = lc3 p.ring := by simp [slOf, Function.comp_def]
theorem SlsOk.nd {d : Dmn} (h : SlsOk d) : (d.peers.flatMap (fun p => lc3 p.ring)).Nodup := by
  have h1 := h.so.nodup
  have h2 : (d.slots.map (fun s => s.index)).Perm (d.peers.flatMap (fun p => lc3 p.ring)) := by
    have := h.pm.map (fun s => s.index)
    rw [List.map_flatMap] at this
    simpa [slOf_idx] using this
  exact h2.nodup_iff.1 h1
theorem nd_flat {α β : Type} {f : α → List β} : ∀ {l : List α}, (l.flatMap f).Nodup → ∀ x ∈ l, (f x).Nodup
  | y :: l, h, x, hx => by
    rw [List.flatMap_cons, List.nodup_append] at h
    rcases List.mem_cons.1 hx with rfl | hx
    · exact h.1
    · exact nd_flat h.2.1 x hx
theorem SlsOk.nd1 {d : Dmn} (h : SlsOk d) {p : Per} (hp : p ∈ d.peers) : (lc3 p.ring).Nodup := nd_flat h.nd p hp
theorem flat_le {l : List Per} : (l.flatMap slOf).length ≤ 3 * l.length := by
  induction l with
  | nil => simp
  | cons p l ih =>
    rw [List.flatMap_cons, List.length_append, List.length_cons]
    have : (slOf p).length ≤ 3 := by rw [slOf, List.length_map]; exact lc3_le _
    omega
theorem SlsOk.len {d : Dmn} (h : SlsOk d) (hp : d.peers.length ≤ 3) : d.slots.length ≤ 9 := by
  have h1 := h.pm.length_eq
  have h2 := flat_le (l := d.peers)
  omega
theorem SlsOk.find {d : Dmn} (h : SlsOk d) (hp : d.peers.length ≤ 3) {p : Per} (hm : p ∈ d.peers) {x : Int} (hx : x ∈ lc3 p.ring) :
    ARet Pg I.burrowref14_FindSlot [encSls d.slots, .int .u32 x] (.tup [encSl ⟨x, p.pub, true⟩, .bl true]) := by
  have hmem : (⟨x, p.pub, true⟩ : Slt) ∈ d.slots := by
    rw [h.pm.mem_iff, List.mem_flatMap]
    exact ⟨p, hm, by rw [slOf, List.mem_map]; exact ⟨x, hx, rfl⟩⟩
  obtain ⟨f, hf, he⟩ := List.mem_iff_getElem.1 hmem
  have hl := h.len hp
  have := FindSlot_yes (l := d.slots) (by omega) (x := x) hf (by rw [he]) (fun j hj hjf => by have := h.so.lt' hjf hf; rw [he] at this; simp at this; omega)
  rw [he] at this
  exact this
def cnt (l : List Per) (i : Nat) : Nat := ((l.take i).flatMap slOf).length
theorem cnt_succ {l : List Per} {i : Nat} (h : i < l.length) : cnt l (i + 1) = cnt l i + (lc3 l[i].ring).length := by
  unfold cnt
  rw [List.take_succ_eq_append_getElem h, List.flatMap_append, List.length_append]
  simp [slOf]
theorem cnt_le (l : List Per) (i : Nat) : cnt l i ≤ 3 * i := by
  have := flat_le (l := l.take i)
  rw [List.length_take] at this
  unfold cnt; omega
set_option maxRecDepth 10000 in
set_option maxHeartbeats 2000000 in
theorem slots_t {d : Dmn} (h : SlsOk d) (hp : PksOk d.peers) (hh : ∀ p ∈ d.peers, PerOk d p) : ARet Pg I.burrowref24_slots [encD d] (.bl true) := by
  refine ACalls.intro T.burrowref24_slots (by simp [F.burrowref24_slots]) ?_
  have hl := h.len hp.1
  have hpl := hp.1
  have hv := ValidSlots (by omega) h.so
  simp [F.burrowref24_slots, argEnv, fpBx]
  refine callS.ret hv (by simp) (by simp) (by simp) ?_
  simp
  refine LpS.rng d.peers.length (fun _ => True) [1, 2, 3, 22, 23, 24] (fun i => [(3, .int .i64 (cnt d.peers i)), (24, .int .i64 i)]) (fun i => []) [.keep [1, 2, 3, 22, 23, 24]] ?_
  simp [show cnt d.peers 0 = 0 from rfl]
  refine ⟨fun i hi K hK => ?_, fun K => ?_⟩
  · have hx : d.peers[i]? = some d.peers[i] := List.getElem?_eq_getElem hi
    have hm := List.getElem_mem hi
    have h5 := (hh _ hm).hand
    have h6 : d.peers[i].hand.has = false := by rw [h5]; rfl
    have hnd := h.nd1 hm
    have hfn : ∀ x ∈ lc3 d.peers[i].ring, ARet Pg I.burrowref14_FindSlot [encSls d.slots, .int .u32 x] (.tup [encSl ⟨x, d.peers[i].pub, true⟩, .bl true]) := fun x hx => h.find hpl hm hx
    have hLc := burrowref22_Locals d.peers[i].ring
    have hc := cnt_succ hi
    have hcl := cnt_le d.peers i
    have hl3 := lc3_le d.peers[i].ring
    have e3 : lcl [d.peers[i].ring.p, d.peers[i].ring.c, d.peers[i].ring.n] = lc3 d.peers[i].ring := rfl
    rw [e3] at hLc
    generalize lc3 d.peers[i].ring = L at *
    rw [hc] at hK
    simp [↓aw_lk, hx, hi, h6]
    refine callS.ret hLc (by simp) (by simp) (by simp) ?_
    simp
    refine LpS.rng L.length (fun _ => True) [1, 2, 3, 5, 22, 23, 24, 57, 58, 59] (fun j => [(3, .int .i64 ((cnt d.peers i : Int) + j)), (59, .int .i64 j)]) (fun i => []) [.keep [1, 2, 3, 5, 22, 23, 24, 57, 58, 59]] ?_
    simp
    refine ⟨fun j hj K2 hK2 => ?_, fun K2 => ?_⟩
    · have hy : L[j]? = some L[j] := List.getElem?_eq_getElem hj
      have hf := hfn _ (List.getElem_mem hj)
      have hw3 : IntKind.i64.wrap ((cnt d.peers i : Int) + j + 1) = (cnt d.peers i : Int) + ((j : Int) + 1) := by rw [wrap_i64 (by omega)]; omega
      simp [↓aw_lk, hy, hj]
      refine callS.ret hf (by simp) (by simp) (by simp) ?_
      simp [beq_K, hw3, wrapi hj (by omega)]
      refine ⟨[.keep [1, 2, 3, 5, 22, 23, 24, 57, 58, 59], .dr 10], ?_⟩
      simp
      exact hK2 _ (by simp)
    · simp [↓aw_lk, ↓aw_lk]
      refine callS.ret hLc (by simp) (by simp) (by simp) ?_
      simp
      refine LpS.rng L.length (fun _ => True) [1, 2, 3, 5, 12, 22, 23, 24, 90, 91, 92] (fun j => [(92, .int .i64 j)]) (fun i => []) [.keep [1, 2, 3, 5, 12, 22, 23, 24, 90, 91, 92]] ?_
      simp
      refine ⟨fun j hj K3 hK3 => ?_, fun K3 => ?_⟩
      · have hy : L[j]? = some L[j] := List.getElem?_eq_getElem hj
        simp [↓aw_lk, hy, hj, encU, show j ≤ L.length by omega]
        refine LpS.rng j (fun _ => True) [1, 2, 3, 5, 12, 14, 22, 23, 24, 90, 91, 92, 99, 100, 101] (fun m => [(101, .int .i64 m)]) (fun i => []) [.keep [1, 2, 3, 5, 12, 14, 22, 23, 24, 90, 91, 92, 99, 100, 101]] ?_
        simp
        refine ⟨fun m hm2 K4 hK4 => ?_, fun K4 => ?_⟩
        · have hml : m < L.length := by omega
          have hm' : m < min j L.length := by omega
          have hxm : L[m]? = some L[m] := List.getElem?_eq_getElem hml
          have hne : ¬ L[j] = L[m] := by
            intro e
            exact List.pairwise_iff_getElem.1 (List.nodup_iff_pairwise_ne.1 hnd) m j hml hj hm2 e.symm
          simp [↓aw_lk, hxm, hm2, hm', hml, hne, wrapi hm2 (by omega)]
          refine ⟨[.keep [1, 2, 3, 5, 12, 14, 22, 23, 24, 90, 91, 92, 99, 100, 101]], ?_⟩
          simp
          exact hK4 _ (by simp)
        · simp [↓aw_lk, ↓aw_lk, wrapi hj (by omega)]
          refine ⟨[.keep [1, 2, 3, 5, 12, 22, 23, 24, 90, 91, 92]], ?_⟩
          simp
          exact hK3 _ (by simp [encU])
      · simp [↓aw_lk, ↓aw_lk, wrapi hi (by omega)]
        refine ⟨[.keep [1, 2, 3, 22, 23, 24], .dr 5], ?_⟩
        simp
        exact hK _ (by simp)
  · have hcn : cnt d.peers d.peers.length = d.slots.length := by
      unfold cnt; rw [List.take_length]; exact h.pm.length_eq.symm
    simp [↓aw_lk, ↓aw_lk, hcn]
    refine RetS.plain [] ?_
    simp
end Go.Ab
end G4s
namespace Go.Ab
open Go.Ab
structure VD (d : Dmn) : Prop where
  ru : RulOk d.rules
  n0 : 0 ≤ d.now
  n1 : d.now ≤ 16777216
  p0 : 0 ≤ d.port
  p1 : d.port ≤ 65535
  bad : d.bad = 0
  pks : PksOk d.peers
  per : ∀ p ∈ d.peers, PerOk d p
  rts : RtsOk d.routes
  rtl : d.routes.length = d.peers.length
  sls : SlsOk d
  tis : TisOk d
  s0 : 0 ≤ d.secAt
  s1 : d.secAt ≤ d.now
  rcn : d.recent = []
  buc : d.buckets = []
set_option maxRecDepth 10000 in
set_option maxHeartbeats 1000000 in
theorem Check_t {d : Dmn} (h : VD d) : ARet Pg I.burrowref24_Check [encD d] (.int .i64 0) := by
  refine ACalls.intro T.burrowref24_Check (by simp [F.burrowref24_Check]) ?_
  have hl := h.pks.1
  have hs : 0 ≤ d.rules.stage := by have := h.ru.2.2.2.2.2.2.2.2.2.2.2.2.2.2.2.1; omega
  have hpe : ∀ (i : Nat) (h : i + 1 < d.peers.length), ltK d.peers[i].pub d.peers[i + 1].pub = true := by
    intro i hi
    rw [h.pks.2 i (by omega), h.pks.2 (i + 1) hi]
    exact kOf_lt (by omega) (by omega)
  have hb := h.bad
  simp [F.burrowref24_Check, argEnv, fpBx]
  refine callS.ret (ValidRules_t h.ru) (by simp) (by simp) (by simp) ?_
  simp
  refine callS.ret (within_t (n := d.now) (a := 0) (b := 1099511627776) h.n0 (by have := h.n1; omega)) (by simp) (by simp) (by simp) ?_
  simp
  refine callS.ret (within_t (n := d.port) (a := 0) (b := 65535) h.p0 h.p1) (by simp) (by simp) (by simp) ?_
  simp [hb]
  refine callS.ret (within_t (n := 0) (a := 0) (b := 1099511627776) (by omega) (by omega)) (by simp) (by simp) (by simp) ?_
  simp
  refine callS.ret (peers_t (d := d) (by omega) hpe) (by simp) (by simp) (by simp) ?_
  simp
  refine callS.ret (each_t (d := d) (k := 3) (by omega) (by omega) h.per h.n0 hs) (by simp) (by simp) (by simp) ?_
  simp
  refine callS.ret (each_t (d := d) (k := 4) (by omega) (by omega) h.per h.n0 hs) (by simp) (by simp) (by simp) ?_
  simp
  refine callS.ret (each_t (d := d) (k := 5) (by omega) (by omega) h.per h.n0 hs) (by simp) (by simp) (by simp) ?_
  simp
  refine callS.ret (routes_t (d := d) h.rts h.pks h.rtl) (by simp) (by simp) (by simp) ?_
  simp
  refine callS.ret (slots_t (d := d) h.sls h.pks h.per) (by simp) (by simp) (by simp) ?_
  simp
  refine callS.ret (timers_t (d := d) h.tis h.n0 h.pks h.per) (by simp) (by simp) (by simp) ?_
  simp
  refine callS.ret (load_t (d := d) h.s0 h.s1 h.rcn h.buc) (by simp) (by simp) (by simp) ?_
  simp
  refine RetS.plain [] ?_
  simp
theorem Valid_t {d : Dmn} (h : VD d) : ARet Pg I.burrowref24_Valid [encD d] (.bl true) := by
  refine ACalls.intro T.burrowref24_Valid (by simp [F.burrowref24_Valid]) ?_
  simp [F.burrowref24_Valid, argEnv, fpBx]
  refine callS.ret (Check_t h) (by simp) (by simp) (by simp) ?_
  simp
  refine RetS.plain [] ?_
  simp
end Go.Ab
