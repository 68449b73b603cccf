/- The checks of the document on peers. -/
import Derived.Test.YtilndiilinoeiaaE9
set_option linter.all false
namespace Go.Ab
open Go.Ab
def zAdr : Adr := ⟨false, List.replicate 16 0, rfl⟩
def zEpn : Epn := ⟨zAdr, 0⟩
def zTg : FV shTg := ⟨.ar 1 16 (zr 16 (.int .u8 0)), rfl⟩
def zSm : FV shSm := ⟨.ar 1 12 (zr 12 (.int .u8 0)), rfl⟩
def zNo : FV shNo := ⟨.st 64 [.ar 1 32 (zr 32 (.int .u8 0)), .ar 1 32 (zr 32 (.int .u8 0))], rfl⟩
def zHnd : Hnd := ⟨false, 0, zKy, zNo, 0, 0⟩
theorem zEpn_e : encE zEpn = (.st 18 [(.st 17 [(.bl false), (.ar 1 16 (zr 16 (.int .u8 0)))]), (.int .i64 0)]) := rfl
theorem beqzE : PV.beq (.st 18 [(.st 17 [(.bl false), (.ar 1 16 (zr 16 (.int .u8 0)))]), (.int .i64 0)]) (.st 18 [(.st 17 [(.bl false), (.ar 1 16 (zr 16 (.int .u8 0)))]), (.int .i64 0)]) = true := by
  have h := beq_encE zEpn; rw [zEpn_e] at h; exact h
theorem fitzE : fits (Sh.st [Sh.st [Sh.b, Sh.ar 16 (Sh.i IntKind.u8)], Sh.i IntKind.i64]) (.st 18 [(.st 17 [(.bl false), (.ar 1 16 (zr 16 (.int .u8 0)))]), (.int .i64 0)]) = true := by
  have h := fits_encE zEpn; rw [zEpn_e] at h; exact h
theorem zTg_e : zTg.p = (.ar 1 16 (zr 16 (.int .u8 0))) := rfl
def PlcOk (d : Dmn) (p : Plc) : Prop := (p.has = true ∧ SesOk d p.ses) ∨ (p.has = false ∧ p = zPlc)
structure PerOk (d : Dmn) (p : Per) : Prop where
  ep : (p.hasEp = true ∧ ∃ i, i < 3 ∧ p.ep = atOf i) ∨ (p.hasEp = false ∧ p.ep = zEpn)
  kal : p.kal = 0 ∨ 1000 ≤ p.kal ∧ p.kal ≤ 1073741824
  inAt : p.inAt = 0
  hin : p.hasIn = false
  hco : p.hasCo = false
  coAt : p.coAt = 0
  cook : p.cook = zTg
  staged : p.staged = []
  hand : p.hand = zHnd
  rp : PlcOk d p.ring.p
  rc : PlcOk d p.ring.c
  rn : PlcOk d p.ring.n
set_option maxRecDepth 10000 in
theorem fields_t {d : Dmn} {p : Per} (h : PerOk d p) (hn : 0 ≤ d.now) (hs : 0 ≤ d.rules.stage) : ARet Pg I.burrowref24_fields [encD d, encPe p] (.bl true) := by
  refine ACalls.intro T.burrowref24_fields (by simp [F.burrowref24_fields]) ?_
  have h2 := h.inAt
  have h3 := h.coAt
  have h4 := h.cook
  have h5 := h.staged
  have h6 := h.hin
  have h7 := h.hco
  have hf : fits (Sh.ar 16 (Sh.i IntKind.u8)) (PV.ar 1 16 (zr 16 (PV.int IntKind.u8 0))) = true := rfl
  have hs' : ¬ d.rules.stage < 0 := by omega
  have hp0 : ARet Pg I.burrowref24_past [encD d, .int .i64 0] (.bl true) := past_t (by omega) hn
  have hb : PV.beq zTg.p zTg.p = true := FV.beq zTg
  rw [zTg_e] at hb
  rcases h.ep with ⟨he, i, hi, e⟩ | ⟨he, e⟩
  · simp [F.burrowref24_fields, argEnv, fpBx, he, e]
    refine callS.ret (FormatEndpoint hi) (by simp) (by simp) (by simp) ?_
    simp [fmtE_pos, he]
    refine callS.ret (Timed_t h.kal) (by simp) (by simp) (by simp) ?_
    simp [h2]
    refine callS.ret hp0 (by simp) (by simp) (by simp) ?_
    simp [h2, h3, h6]
    refine callS.ret hp0 (by simp) (by simp) (by simp) ?_
    simp [h3, h4, h5, zTg_e, hs', h7, hb, hf]
    refine LpS.rng 0 (fun _ => True) [4, 82, 83, 84] (fun i => []) (fun i => []) [.keep [4, 82, 83, 84]] ?_
    simp
    intro K
    simp [F.burrowref24_fieldsl0, F.burrowref24_fieldsc1]
    refine RetS.plain [] ?_
    simp
  · simp [F.burrowref24_fields, argEnv, fpBx, he, e, zEpn_e, beqzE, fitzE]
    refine callS.ret (Timed_t h.kal) (by simp) (by simp) (by simp) ?_
    simp [h2]
    refine callS.ret hp0 (by simp) (by simp) (by simp) ?_
    simp [h2, h3, h6]
    refine callS.ret hp0 (by simp) (by simp) (by simp) ?_
    simp [h3, h4, h5, zTg_e, hs', h7, hb, hf]
    refine LpS.rng 0 (fun _ => True) [4, 82, 83, 84] (fun i => []) (fun i => []) [.keep [4, 82, 83, 84]] ?_
    simp
    intro K
    simp [F.burrowref24_fieldsl0, F.burrowref24_fieldsc1]
    refine RetS.plain [] ?_
    simp
theorem hand_t {d : Dmn} {p : Per} (h : PerOk d p) : ARet Pg I.burrowref24_hand [encD d, encPe p] (.bl true) := by
  refine ACalls.intro T.burrowref24_hand (by simp [F.burrowref24_hand]) ?_
  have h1 := h.hand
  have h2 : zHnd.has = false := rfl
  have hb := beq_encH zHnd
  have hf := fits_encH zHnd
  have e : encH zHnd = (.st 100 [.bl false, .int .u32 0, .ar 1 32 (zr 32 (.int .u8 0)), .st 64 [.ar 1 32 (zr 32 (.int .u8 0)), .ar 1 32 (zr 32 (.int .u8 0))], .int .i64 0, .int .i64 0]) := rfl
  rw [e] at hb hf
  simp [F.burrowref24_hand, argEnv, fpBx, h1, e, widths]
  refine ⟨hf, ?_⟩
  refine RetS.plain [] ?_
  simp [hb]
set_option maxRecDepth 10000 in
theorem ring_t {d : Dmn} {p : Per} (h : PerOk d p) : ARet Pg I.burrowref24_ring [encD d, encPe p] (.bl true) := by
  refine ACalls.intro T.burrowref24_ring (by simp [F.burrowref24_ring]) ?_
  have hg : ∀ i, i < 3 → PlcOk d (getR p.ring (i + 1)) := by
    intro i hi
    rcases (by omega : i = 0 ∨ i = 1 ∨ i = 2) with rfl | rfl | rfl
    · exact h.rp
    · exact h.rc
    · exact h.rn
  have hb := beq_encP zPlc
  have hf := fits_encP zPlc
  simp [F.burrowref24_ring, argEnv, fpBx]
  refine LpS.rng 3 (fun _ => True) [2, 3, 4, 5] (fun i => [(5, .int .i64 ((i : Int) + 1))]) (fun i => []) [.keep [2, 3, 4, 5]] ?_
  simp
  refine ⟨fun i hi K hK => ?_, fun K => ?_⟩
  · have hi3 : (i : Int) + 1 ≤ 3 := by omega
    have hw : IntKind.i64.wrap ((i : Int) + 1 + 1) = (i : Int) + 1 + 1 := wrap_i64 (by omega)
    have hget := burrowref22_Get p.ring (k := i + 1) (by omega)
    rw [show ((i + 1 : Nat) : Int) = (i : Int) + 1 by omega] at hget
    have hp := hg i hi
    generalize getR p.ring (i + 1) = q at *
    simp [F.burrowref24_ringl0, hi, hi3]
    refine callS.ret hget (by simp) (by simp) (by simp) ?_
    rcases hp with ⟨h1, h2⟩ | ⟨h1, h2⟩
    · simp [h1]
      refine callS.ret (sound_t h2) (by simp) (by simp) (by simp) ?_
      simp [h1, hw]
      refine ⟨[.keep [2, 3, 4, 5], .dr 6], ?_⟩
      simp
      exact hK _ (by simp)
    · have h0 : zPlc.has = false := rfl
      have hb2 : PV.beq (encP zPlc) (.st 77 [(.bl false), (.st 76 [(.int .u32 0), (.int .u32 0), (.ar 1 32 (zr 32 (.int .u8 0))), (.ar 1 32 (zr 32 (.int .u8 0))), (.int .u64 0), (.int .u64 0), (.st 6 [(.bl false), (.int .u64 0), (.ar 1 4 (zr 4 (.int .u64 0)))]), (.int .i64 0), (.bl false)])]) = true := beq_encP zPlc
      simp [h2, h0, hw, hb2]
      refine ⟨hf, [.keep [2, 3, 4, 5], .dr 6], ?_⟩
      simp
      exact hK _ (by simp)
  · simp [F.burrowref24_ringl0, F.burrowref24_ringc1]
    refine RetS.plain [] ?_
    simp
set_option maxRecDepth 10000 in
theorem each_t {d : Dmn} (hl : d.peers.length ≤ 8) {k : Int} (hk : k = 3 ∨ k = 4 ∨ k = 5) (h : ∀ p ∈ d.peers, PerOk d p) (hn : 0 ≤ d.now) (hs : 0 ≤ d.rules.stage) : ARet Pg I.burrowref24_each [encD d, .int .i64 k] (.bl true) := by
  refine ACalls.intro T.burrowref24_each (by simp [F.burrowref24_each]) ?_
  simp [F.burrowref24_each, argEnv, fpBx]
  refine LpS.rng d.peers.length (fun _ => True) [1, 2, 4, 8, 9, 10] (fun i => [(10, .int .i64 i)]) (fun i => []) [.keep [1, 2, 4, 8, 9, 10]] ?_
  simp
  refine ⟨fun i hi K hK => ?_, fun K => ?_⟩
  · have hx : d.peers[i]? = some d.peers[i] := List.getElem?_eq_getElem hi
    have hp := h _ (List.getElem_mem hi)
    rcases hk with rfl | rfl | rfl
    · simp [F.burrowref24_eachl0, hx, hi]
      refine callS.ret (fields_t hp hn hs) (by simp) (by simp) (by simp) ?_
      simp [wrapi hi (by omega)]
      refine ⟨[.keep [1, 2, 4, 8, 9, 10], .dr 6], ?_⟩
      simp
      exact hK _ (by simp)
    · simp [F.burrowref24_eachl0, hx, hi]
      refine callS.ret (hand_t hp) (by simp) (by simp) (by simp) ?_
      simp [wrapi hi (by omega)]
      refine ⟨[.keep [1, 2, 4, 8, 9, 10], .dr 6], ?_⟩
      simp
      exact hK _ (by simp)
    · simp [F.burrowref24_eachl0, hx, hi]
      refine callS.ret (ring_t hp) (by simp) (by simp) (by simp) ?_
      simp [wrapi hi (by omega)]
      refine ⟨[.keep [1, 2, 4, 8, 9, 10], .dr 6], ?_⟩
      simp
      exact hK _ (by simp)
  · simp [F.burrowref24_eachl0, F.burrowref24_eachc1]
    refine RetS.plain [] ?_
    simp
set_option maxRecDepth 10000 in
theorem peers_t {d : Dmn} (hl : d.peers.length ≤ 8) (h : ∀ (i : Nat) (h : i + 1 < d.peers.length), ltK d.peers[i].pub d.peers[i + 1].pub = true) : ARet Pg I.burrowref24_peers [encD d] (.bl true) := by
  refine ACalls.intro T.burrowref24_peers (by simp [F.burrowref24_peers]) ?_
  simp [F.burrowref24_peers, argEnv, fpBx]
  refine LpS.rng d.peers.length (fun _ => True) [1, 2, 6, 7, 8] (fun i => [(8, .int .i64 i)]) (fun i => []) [.keep [1, 2, 6, 7, 8]] ?_
  simp
  refine ⟨fun i hi K hK => ?_, fun K => ?_⟩
  · have hx : d.peers[i]? = some d.peers[i] := List.getElem?_eq_getElem hi
    by_cases hz : i = 0
    · subst hz
      simp [F.burrowref24_peersl0, hx, hi]
      refine ⟨[.keep [1, 2, 6, 7, 8], .dr 4], ?_⟩
      simp
      exact hK _ (by simp)
    · obtain ⟨j, hji⟩ : ∃ j, i = j + 1 := ⟨i - 1, by omega⟩
      have hj : j < d.peers.length := by omega
      have hy : d.peers[j]? = some d.peers[j] := List.getElem?_eq_getElem hj
      have hlt := h j (by omega)
      have hlt2 : ltK d.peers[j].pub d.peers[i].pub = true := by subst hji; exact hlt
      have hw : IntKind.i64.wrap ((i : Int) - 1) = j := by rw [wrap_i64 (by omega)]; omega
      have ta : (d.peers[j].pub.l.map u8).take 32 = d.peers[j].pub.l.map u8 := List.take_of_length_le (by simp [d.peers[j].pub.h])
      have tb : (d.peers[i].pub.l.map u8).take 32 = d.peers[i].pub.l.map u8 := List.take_of_length_le (by simp [d.peers[i].pub.h])
      simp [F.burrowref24_peersl0, hx, hy, hi, hj, hw, show 0 < i by omega, wrapi hi (by omega), encK, ta, tb, (show Op.bytesLess d.peers[j].pub.l d.peers[i].pub.l = true from hlt2)]
      refine ⟨[.keep [1, 2, 6, 7, 8], .dr 4], ?_⟩
      simp
      exact hK _ (by simp)
  · have hl8 : (d.peers.length : Int) ≤ 8 := by omega
    simp [F.burrowref24_peersl0, F.burrowref24_peersc1, hl8]
    refine RetS.plain [] ?_
    simp [hl8, hl]
end Go.Ab
