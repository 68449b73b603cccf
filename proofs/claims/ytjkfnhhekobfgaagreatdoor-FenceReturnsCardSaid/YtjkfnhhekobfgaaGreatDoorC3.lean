/- The law FenceReturns: what it computes. No condition. -/
import Derived.Test.YtjkfnhhekobfgaaGreatDoorC2
import Derived.Test.YtjkfnhhekobfgaaGreatDoorB2
set_option linter.all false
namespace Go.Ab
open Go.Ab
def lcs (l : List Plc) : List Ses := (l.filter (fun p => p.has)).map (fun p => p.ses)
theorem lcs_succ {l : List Plc} {i : Nat} (h : i < l.length) : lcs (l.take (i + 1)) = lcs (l.take i) ++ (if l[i].has = true then [l[i].ses] else []) := by
  unfold lcs; rw [filter_succ _ h]; by_cases hk : l[i].has = true <;> simp [hk]
theorem lcs_le (l : List Plc) : (lcs l).length ≤ l.length := by
  unfold lcs; rw [List.length_map]; exact List.length_filter_le _ _
def pls (r : Rng) : List Plc := [r.p, r.c, r.n]
def sp (p : Per) : List Ses := lcs (pls p.ring)
def sess (l : List Per) : List Ses := l.flatMap sp
def sg (l : List Per) (i : Nat) : List Ses := sess (l.take i)
theorem sg_succ {l : List Per} {i : Nat} (h : i < l.length) : sg l (i + 1) = sg l i ++ sp l[i] := by
  unfold sg sess; rw [List.take_succ_eq_append_getElem h, List.flatMap_append]; simp
theorem sess_le (l : List Per) : (sess l).length ≤ 3 * l.length := by
  induction l with
  | nil => simp [sess]
  | cons p l ih =>
    have : (sp p).length ≤ 3 := lcs_le _
    unfold sess at *
    rw [List.flatMap_cons, List.length_append, List.length_cons]; omega
theorem sg_le (l : List Per) (i : Nat) : (sg l i).length ≤ 3 * i := by
  have := sess_le (l.take i)
  rw [List.length_take] at this
  unfold sg; omega
theorem getR_pls (r : Rng) {j : Nat} (h : j < (pls r).length) : (pls r)[j] = getR r (j + 1) := by
  have h3 : j < 3 := h
  rcases (by omega : j = 0 ∨ j = 1 ∨ j = 2) with rfl | rfl | rfl <;> rfl
theorem lcs_pls (r : Rng) {j : Nat} (h : j < 3) : lcs ((pls r).take (j + 1)) = lcs ((pls r).take j) ++ (if (getR r (j + 1)).has = true then [(getR r (j + 1)).ses] else []) := by
  have h' : j < (pls r).length := h
  rw [lcs_succ h', getR_pls r h']
set_option maxRecDepth 10000 in
set_option maxHeartbeats 2000000 in
theorem Sessions {d : Dmn} (hl : d.peers.length ≤ 3) : AOwn Pg I.burrowmake_Sessions [encD d] 76 ((sess d.peers).map encS) := by
  refine ACalls.intro T.burrowmake_Sessions (by simp [F.burrowmake_Sessions]) ?_
  simp [F.burrowmake_Sessions, argEnv, fpBx]
  refine LpS.rng d.peers.length (fun _ => True) [1, 2, 3, 9, 10, 11] (fun i => [(3, .rs 3 [] 0 (sg d.peers i).length (sg d.peers i).length 76 .tip), (11, .int .i64 i)]) (fun i => [(3, .arr 76 ((sg d.peers i).map encS))]) [.keep [1, 2, 3, 9, 10, 11], .vt 3 3 76] ?_
  simp [show sg d.peers 0 = [] from rfl]
  refine ⟨fun i hi K hK => ?_, fun K => ?_⟩
  · have hx : d.peers[i]? = some d.peers[i] := List.getElem?_eq_getElem hi
    have hA := sg_le d.peers i
    rw [sg_succ hi] at hK
    generalize d.peers[i] = p at *
    generalize sg d.peers i = A at *
    simp [F.burrowmake_Sessionsl2, hx, hi, -getElem?_pos]
    refine LpS.rng 3 (fun _ => True) [1, 2, 3, 5, 6, 9, 10, 11] (fun j => [(3, .rs 3 [] 0 (A ++ lcs ((pls p.ring).take j)).length (A ++ lcs ((pls p.ring).take j)).length 76 .tip), (6, .int .i64 ((j : Int) + 1))]) (fun j => [(3, .arr 76 ((A ++ lcs ((pls p.ring).take j)).map encS))]) [.keep [1, 2, 3, 5, 6, 9, 10, 11]] ?_
    simp [show lcs [] = [] from rfl]
    refine ⟨fun j hj K2 hK2 => ?_, fun K2 => ?_⟩
    · have hj3 : (j : Int) + 1 ≤ 3 := by omega
      have hw : IntKind.i64.wrap ((j : Int) + 1 + 1) = (j : Int) + 1 + 1 := wrap_i64 (by omega)
      have hget := burrowref22_Get p.ring (k := j + 1) (by omega)
      rw [show ((j + 1 : Nat) : Int) = (j : Int) + 1 by omega] at hget
      have hB := lcs_le ((pls p.ring).take j)
      rw [List.length_take, show (pls p.ring).length = 3 from rfl] at hB
      rw [lcs_pls p.ring hj] at hK2
      generalize lcs ((pls p.ring).take j) = B at *
      generalize getR p.ring (j + 1) = q at *
      simp [F.burrowmake_Sessionsl0, hj3]
      refine callS.ret hget (by simp) (by simp) (by simp) ?_
      by_cases h1 : q.has = true
      · simp [h1, hw]
        refine ⟨by omega, [.keep [1, 2, 3, 5, 6, 9, 10, 11], .dr 7], ?_⟩
        simp [refsEnv, refsBx, refsOk, refsOkB]
        exact hK2 _ (by simp [h1, Nat.add_assoc])
      · simp [h1, hw]
        refine ⟨[.keep [1, 2, 3, 5, 6, 9, 10, 11], .dr 7], ?_⟩
        simp [refsEnv, refsBx, refsOk, refsOkB]
        exact hK2 _ (by simp [h1, Nat.add_assoc])
    · have h3 : (pls p.ring).take 3 = pls p.ring := rfl
      simp [F.burrowmake_Sessionsl0, F.burrowmake_Sessionsc1, wrapi hi (by omega), h3]
      refine ⟨[.keep [1, 2, 3, 9, 10, 11], .dr 5], ?_⟩
      simp [refsEnv, refsBx, refsOk, refsOkB]
      exact hK _ (by simp [sp])
  · have hg : sg d.peers d.peers.length = sess d.peers := by unfold sg; rw [List.take_length]
    rw [hg]
    simp [F.burrowmake_Sessionsl2, F.burrowmake_Sessionsc3]
    refine RetS.with [.keep [2]] [3] ?_
    simp
end Go.Ab
namespace Go.Ab
open Go.Ab
theorem pk3 (φ : Ses → Ses) (p : Per) : pk φ 3 p = { p with ring := ⟨pl φ p.ring.p, pl φ p.ring.c, pl φ p.ring.n⟩ } := by simp [pk]
theorem lcl_pl {φ : Ses → Ses} (hl : ∀ s, (φ s).loc = s.loc) : ∀ l : List Plc, lcl (l.map (pl φ)) = lcl l
  | [] => rfl
  | q :: l => by
    rw [List.map_cons, lcl_cons, lcl_cons, lcl_pl hl l]
    unfold pl
    by_cases h : q.has = true
    · simp [h, hl]
    · simp [h]
theorem slOf_pk {φ : Ses → Ses} (hl : ∀ s, (φ s).loc = s.loc) (p : Per) : slOf (pk φ 3 p) = slOf p := by
  rw [pk3]
  unfold slOf
  have : lc3 ⟨pl φ p.ring.p, pl φ p.ring.c, pl φ p.ring.n⟩ = lc3 p.ring := lcl_pl hl [p.ring.p, p.ring.c, p.ring.n]
  show (lc3 ⟨pl φ p.ring.p, pl φ p.ring.c, pl φ p.ring.n⟩).map _ = _
  rw [this]
theorem plc_pl {d : Dmn} {φ : Ses → Ses} (hφ : ∀ s, SesOk d s → SesOk d (φ s)) {q : Plc} (h : PlcOk d q) : PlcOk d (pl φ q) := by
  unfold pl
  rcases h with ⟨h1, h2⟩ | ⟨h1, h2⟩
  · rw [if_pos h1]; exact Or.inl ⟨rfl, hφ _ h2⟩
  · rw [if_neg (by simp [h1])]; exact Or.inr ⟨h1, h2⟩
theorem VD.all {d : Dmn} (h : VD d) {φ : Ses → Ses} (hφ : ∀ s, SesOk d s → SesOk d (φ s)) (hl : ∀ s, (φ s).loc = s.loc) : VD (all_ φ d) := by
  have hp : (all_ φ d).peers = d.peers.map (pk φ 3) := rfl
  have hlen : (all_ φ d).peers.length = d.peers.length := by rw [hp, List.length_map]
  have hget : ∀ (i : Nat) (hi : i < d.peers.length) (hi2 : i < (all_ φ d).peers.length), (all_ φ d).peers[i] = pk φ 3 d.peers[i] := fun i hi hi2 => by simp [hp]
  refine ⟨h.ru, h.n0, h.n1, h.p0, h.p1, h.bad, ⟨by rw [hlen]; exact h.pks.1, fun i hi => ?_⟩, fun p hpm => ?_, h.rts, by rw [hlen]; exact h.rtl, ⟨h.sls.so, ?_⟩, ⟨h.tis.so, fun t ht => ?_, h.tis.un, h.tis.len⟩, h.s0, h.s1, h.rcn, h.buc⟩
  · rw [hget i (by omega) hi, pk3]; exact h.pks.2 i (by omega)
  · rw [hp] at hpm
    obtain ⟨q, hq, rfl⟩ := List.mem_map.1 hpm
    obtain ⟨a1, a2, a3, a4, a5, a6, a7, a8, a9, a10, a11, a12⟩ := h.per q hq
    rw [pk3]
    exact ⟨a1, a2, a3, a4, a5, a6, a7, a8, a9, PlcOk.of (d := d) (e := all_ φ d) rfl rfl (plc_pl hφ a10), PlcOk.of (d := d) (e := all_ φ d) rfl rfl (plc_pl hφ a11), PlcOk.of (d := d) (e := all_ φ d) rfl rfl (plc_pl hφ a12)⟩
  · rw [hp, List.flatMap_map]
    have : (d.peers.flatMap fun p => slOf (pk φ 3 p)) = d.peers.flatMap slOf := by congr 1; funext p; exact slOf_pk hl p
    rw [this]; exact h.sls.pm
  · obtain ⟨b1, b2, b3, b4, i, hi, b5, b6⟩ := h.tis.rg t ht
    exact ⟨b1, b2, b3, b4, i, by omega, b5, fun e => by rw [hget i hi (by omega), pk3]; exact b6 e⟩
theorem SesOk.rise {d : Dmn} (h : RulOk d.rules) {n : Int} (hn : U64 n) {s : Ses} (hs : SesOk d s) : SesOk d (rise n d.rules.rejm s) := by
  obtain ⟨h1, h2, h3, h4, h5, h6⟩ := hs
  obtain ⟨r1, r2, r3, _⟩ := h
  obtain ⟨n1, n2⟩ := hn
  refine ⟨h1, h2, rfl, ?_, ?_, h6⟩
  · show 0 ≤ edge _ _ _; unfold edge; omega
  · show edge _ _ _ ≤ _; unfold edge; omega
theorem pl_id {d : Dmn} {φ : Ses → Ses} (hφ : ∀ s, SesOk d s → φ s = s) {q : Plc} (h : PlcOk d q) : pl φ q = q := by
  unfold pl
  rcases h with ⟨h1, h2⟩ | ⟨h1, h2⟩
  · rw [if_pos h1, hφ _ h2, ← h1]
  · rw [if_neg (by simp [h1])]
theorem all_id {d : Dmn} (h : VD d) {φ : Ses → Ses} (hφ : ∀ s, SesOk d s → φ s = s) : all_ φ d = d := by
  have : d.peers.map (pk φ 3) = d.peers := by
    conv => rhs; rw [← List.map_id d.peers]
    refine List.map_congr_left fun p hp => ?_
    obtain ⟨_, _, _, _, _, _, _, _, _, a10, a11, a12⟩ := h.per p hp
    rw [pk3, pl_id hφ a10, pl_id hφ a11, pl_id hφ a12]; rfl
  unfold all_; rw [this]
theorem pl_pl (φ ψ : Ses → Ses) (q : Plc) : pl ψ (pl φ q) = pl (fun s => ψ (φ s)) q := by
  unfold pl; by_cases h : q.has = true <;> simp [h]
theorem all_all (φ ψ : Ses → Ses) (d : Dmn) : all_ ψ (all_ φ d) = all_ (fun s => ψ (φ s)) d := by
  unfold all_
  simp only [List.map_map]
  congr 1
  refine List.map_congr_left fun p _ => ?_
  show pk ψ 3 (pk φ 3 p) = _
  rw [pk3, pk3, pk3]; simp only [pl_pl]
theorem lift_low {d : Dmn} (h : VD d) (n : Int) : all_ (lift_ d.rules.rejm) (all_ (low n d.rules.rejm) d) = d := by
  rw [all_all]
  refine all_id h fun s hs => ?_
  have := hs.fe
  show { s with fence := d.rules.rejm } = s
  rw [← this]
theorem rise0 {d : Dmn} (h : VD d) : all_ (rise 0 d.rules.rejm) d = d := by
  refine all_id h fun s hs => ?_
  have h1 := hs.fe
  have h2 := hs.n0
  have h3 := hs.n1
  have : edge s.next 0 d.rules.rejm = s.next := by unfold edge; omega
  unfold rise
  rw [this, ← h1]
theorem lcs_pl {φ : Ses → Ses} : ∀ l : List Plc, lcs (l.map (pl φ)) = (lcs l).map φ
  | [] => rfl
  | q :: l => by
    have ih := lcs_pl (φ := φ) l
    unfold lcs at *
    unfold pl at *
    by_cases h : q.has = true
    · simp only [List.map_cons, List.filter_cons, h, if_true, List.map_cons, ih]
    · have h' : q.has = false := by simpa using h
      simp only [List.map_cons, List.filter_cons, h', Bool.false_eq_true, if_false]
      exact ih
theorem sess_all (φ : Ses → Ses) (d : Dmn) : sess (all_ φ d).peers = (sess d.peers).map φ := by
  show sess (d.peers.map (pk φ 3)) = _
  unfold sess
  rw [List.flatMap_map, List.map_flatMap]
  congr 1; funext p
  show lcs (pls (pk φ 3 p).ring) = _
  rw [pk3]
  exact lcs_pl (pls p.ring)
theorem sess_ok {d : Dmn} (h : VD d) {s : Ses} (hs : s ∈ sess d.peers) : SesOk d s := by
  unfold sess at hs
  obtain ⟨p, hp, hs⟩ := List.mem_flatMap.1 hs
  unfold sp lcs at hs
  obtain ⟨q, hq, rfl⟩ := List.mem_map.1 hs
  obtain ⟨hq1, hq2⟩ := List.mem_filter.1 hq
  obtain ⟨_, _, _, _, _, _, _, _, _, a10, a11, a12⟩ := h.per p hp
  have hpq : PlcOk d q := by
    simp only [pls, List.mem_cons, List.not_mem_nil, or_false] at hq1
    rcases hq1 with rfl | rfl | rfl <;> assumption
  rcases hpq with ⟨_, h2⟩ | ⟨h2, _⟩
  · exact h2
  · simp [h2] at hq2
def zs (φ : Ses → Ses) (x : List Ses) (i : Nat) : List Ses := x.take i ++ (x.drop i).map φ
theorem zs_len (φ : Ses → Ses) (x : List Ses) (i : Nat) : (zs φ x i).length = x.length := by simp [zs]; omega
theorem zs_get {φ : Ses → Ses} {x : List Ses} {i : Nat} (h : i < x.length) : (zs φ x i)[i]? = some (φ x[i]) := by
  unfold zs
  rw [List.getElem?_append_right (by rw [List.length_take]; omega), List.length_take, show i - min i x.length = 0 by omega, List.drop_eq_getElem_cons h]; rfl
theorem zs_set {φ : Ses → Ses} {x : List Ses} {i : Nat} (h : i < x.length) : (zs φ x i).set i x[i] = zs φ x (i + 1) := by
  unfold zs
  have hl : (x.take i).length = i := by rw [List.length_take]; omega
  rw [List.set_append_right _ _ (by omega), hl, Nat.sub_self, List.drop_eq_getElem_cons h, List.map_cons, List.set_cons_zero, List.take_succ_eq_append_getElem h, List.append_assoc]
  rfl
theorem zs_0 (φ : Ses → Ses) (x : List Ses) : zs φ x 0 = x.map φ := rfl
end Go.Ab
namespace Go.Ab
open Go.Ab
set_option maxRecDepth 10000 in
theorem burrowcase_New {l : List UInt8} (hl : l.length ≤ 9223372036854775807) {n : Nat} (hn : n ≤ 1000000) : ACalls Pg I.burrowcase_New [encB l, .int .i64 n] [] (fun r fp => r = .pt KB [] 0 ∧ fp = [.box (encC ⟨l.take n, 0⟩)]) := by
  refine ACalls.intro T.burrowcase_New (by simp [F.burrowcase_New]) ?_
  simp [F.burrowcase_New, argEnv, fpBx]
  have hmin : (min (l.length : Int) (n : Int)) = ((min l.length n : Nat) : Int) := by omega
  have ht : (List.map u8 l).take (min l.length n) = (l.take n).map u8 := by
    rw [← List.map_take]; congr 1
    rcases Nat.le_total l.length n with h | h
    · rw [Nat.min_eq_left h, List.take_length, List.take_of_length_le h]
    · rw [Nat.min_eq_right h]
  simp (disch := omega) [encB, hmin, ht]
  refine ⟨by omega, ?_⟩
  refine RetS.with [] [12] ?_
  simp [refsOkB, refsOk, refsOkL, renB, ren, renL]
  simp [encC, encB]
set_option maxRecDepth 10000 in
theorem burrowlaw29_begun : ARet Pg I.burrowlaw29_begun [] (.bl true) := by
  refine ACalls.intro T.burrowlaw29_begun (by simp [F.burrowlaw29_begun]) ?_
  simp [F.burrowlaw29_begun, argEnv, fpBx]
  refine callS.ret (fence_Edge (s := { zSes with next := 10 }) (r := ⟨0, 50, 0, 0, 0, 0, 0, 0, 0, 0⟩) (n := 100) ⟨by decide, by decide⟩ ⟨by decide, by decide⟩) (by simp; exact ⟨rfl, rfl⟩) (by simp) (by simp) ?_
  simp [edge]
  refine RetS.plain [] ?_
  simp [zSes]
  decide
theorem Nice_vm {d : Dmn} {m : Nat} (h : VM d m) : Nice d := by
  refine ⟨h.vd.sml, fun p hp => ?_⟩
  have hpo := h.vd.per p hp
  have key : ∀ q : Plc, PlcOk d q → U64 q.ses.next := by
    rintro q (⟨_, hq⟩ | ⟨_, rfl⟩)
    · obtain ⟨_, _, _, a, b, _⟩ := hq; exact ⟨a, by omega⟩
    · exact ⟨by decide, by decide⟩
  exact ⟨key _ hpo.rp, key _ hpo.rc, key _ hpo.rn⟩
theorem all_nice {d : Dmn} (h : Nice d) {φ : Ses → Ses} (hφ : ∀ s, U64 s.next → U64 (φ s).next) : Nice (all_ φ d) := by
  obtain ⟨⟨a1, a2, a3, a4, a5, a6, a7⟩, h2⟩ := h
  refine ⟨⟨by show (d.peers.map (pk φ 3)).length ≤ _; rw [List.length_map]; exact a1, a2, a3, a4, a5, a6, fun p hp => ?_⟩, fun p hp => ?_⟩
  · obtain ⟨q, hq, rfl⟩ := List.mem_map.1 (show p ∈ d.peers.map (pk φ 3) from hp)
    exact a7 q hq
  · obtain ⟨q, hq, rfl⟩ := List.mem_map.1 (show p ∈ d.peers.map (pk φ 3) from hp)
    obtain ⟨b1, b2, b3⟩ := h2 q hq
    have key : ∀ x : Plc, U64 x.ses.next → U64 (pl φ x).ses.next := by
      intro x hx
      unfold pl; split
      · exact hφ _ hx
      · exact hx
    exact ⟨key _ b1, key _ b2, key _ b3⟩
set_option maxRecDepth 10000 in
set_option maxHeartbeats 4000000 in
theorem burrowlaw29_FenceReturns {l : List UInt8} (hl : l.length ≤ 9223372036854775807) {n : Int} (hn : U64 n) :
    ARet Pg I.burrowlaw29_FenceReturns [encB l, .int .u64 n] (.bl true) := by
  refine ACalls.intro T.burrowlaw29_FenceReturns (by simp [F.burrowlaw29_FenceReturns]) ?_
  simp [F.burrowlaw29_FenceReturns, argEnv, fpBx]
  refine callS.gen [] [14] [] (burrowcase_New hl (n := 160) (by omega)) (by simp [getAll]) (by simp) (by simp) (by simp [refsOkL]) (by simp) (by simp [renL]) (by simp) (by simp [refsOkB, refsOk, inFp, (pure_encC _).refs]) ?_
  simp [putAll, renB, ren, ren2, (pure_encC _).ren]
  have hC : CdsOk ⟨l.take 160, 0⟩ := ⟨by simp; omega, by simp⟩
  refine callS.cdsE 14 (burrowmake_Daemon hC) (by simp) (by simp [refsOkL, refsOk, inKs, idx]) (by simp [renL, ren, ren1, idx]) (by simp) ?_
  rintro ⟨d, c⟩ ⟨hV, _, _, hbd⟩
  dsimp only at hV hbd
  simp
  have hL3 := hV.vd.pks.1
  have hN := Nice_vm hV
  have hrj : 0 ≤ d.rules.rejm := by obtain ⟨q1, q2, _⟩ := hV.vd.ru; omega
  have h0 : U64 0 := ⟨by decide, by decide⟩
  have hNl : ∀ m, Nice (all_ (low m d.rules.rejm) d) := fun m => all_nice hN (fun s h => h)
  have hVb : VD (all_ (rise n d.rules.rejm) d) := hV.vd.all (fun s hs => SesOk.rise hV.vd.ru hn hs) (fun s => rfl)
  have hbb : Bd (all_ (rise n d.rules.rejm) d) := hbd
  have hLf : ∀ m, ARet Pg I.fence_Lift [encD (all_ (low m d.rules.rejm) d)] (encD d) := fun m => by
    have := fence_Lift (hNl m)
    rwa [show (all_ (low m d.rules.rejm) d).rules = d.rules from rfl, lift_low hV.vd] at this
  have hR0 := fence_Reserve hN h0
  rw [rise0 hV.vd] at hR0
  have hRn := fence_Reserve hN hn
  have hSx := Sessions (d := d) hL3
  have hSy := Sessions (d := all_ (rise n d.rules.rejm) d) (by show (d.peers.map _).length ≤ 3; rw [List.length_map]; exact hL3)
  rw [sess_all] at hSy
  have hbl : (all_ (rise n d.rules.rejm) d).peers.length = d.peers.length := List.length_map _
  have hxo : ∀ s ∈ sess d.peers, SesOk d s := fun s hs => sess_ok hV.vd hs
  have hsl := sess_le d.peers
  generalize all_ (rise n d.rules.rejm) d = b at *
  refine callS.ret hRn (by simp) (by simp) (by simp) ?_
  simp
  refine callT.ret (hLf n) (by simp) (by simp) (by simp) ?_
  simp
  refine callT.ret (burrowref25_Same hN.toSml) (by simp) (by simp) (by simp) ?_
  simp
  refine callT.ret (iValid_t hVb hbb) (by simp) (by simp) (by simp) ?_
  simp [hbl]
  refine callS.ret hR0 (by simp) (by simp) (by simp) ?_
  simp
  have hφ : ∀ s ∈ sess d.peers, s.next ≤ (rise n d.rules.rejm s).next ∧ { rise n d.rules.rejm s with next := s.next } = s := by
    intro s hs
    have hso := hxo s hs
    have h1 := hso.fe
    refine ⟨?_, ?_⟩
    · show s.next ≤ edge _ _ _; unfold edge; omega
    · unfold rise; rw [← h1]
  have hpx : PureL ((sess d.peers).map encS) := pureL_map pure_encS _
  refine callT.ret (hSx.frz hpx) (by simp) (by simp) (by simp) ?_
  simp
  generalize rise n d.rules.rejm = φ at *
  generalize sess d.peers = x at *
  refine callS.own 49 hSy (by simp) (by simp) (by simp) (by simp) ?_
  simp
  refine LpS.rng x.length (fun _ => True) [4, 5, 8, 9, 10, 11, 55, 56, 57] (fun i => [(57, .int .i64 i)]) (fun i => [(49, .arr 76 ((zs φ x i).map encS))]) [.keep [4, 5, 8, 9, 10, 11, 55, 56, 57]] ?_
  simp [zs_0]
  refine ⟨fun i hi K hK => ?_, fun K => ?_⟩
  · have hx : x[i]? = some x[i] := List.getElem?_eq_getElem hi
    obtain ⟨f1, f2⟩ := hφ _ (List.getElem_mem hi)
    have hz := zs_get (φ := φ) hi
    have hzl := zs_len φ x i
    have hzs := zs_set (φ := φ) hi
    have hb := beq_encS x[i]
    have hf := fits_encS x[i]
    have hz2 : (zs φ x (i + 1))[i]? = some x[i] := by
      unfold zs
      rw [List.getElem?_append_left (by rw [List.length_take]; omega), List.getElem?_take, if_pos (by omega), hx]
    have hzl2 := zs_len φ x (i + 1)
    generalize x[i] = s at *
    have hn : ¬ (φ s).next < s.next := by omega
    generalize φ s = t at *
    have f3 : encS ⟨t.loc, t.rem, t.send, t.recv, s.next, t.fence, t.win, t.born, t.ini⟩ = encS s := congrArg encS f2
    have hm : (List.map encS (zs φ x i)).set i (encS s) = List.map encS (zs φ x (i + 1)) := by rw [← List.map_set, hzs]
    simp [F.burrowlaw29_FenceReturnsl0, hx, hi, hz, hzl, hn, f3, hb, hf, hm, hz2, hzl2, wrapi hi (by omega), -getElem?_pos]
    refine ⟨[.keep [4, 5, 8, 9, 10, 11, 55, 56, 57]], ?_⟩
    simp
    exact hK _ (by simp)
  · simp [F.burrowlaw29_FenceReturnsl0, F.burrowlaw29_FenceReturnsc1]
    refine callT.ret (burrowref25_Same hN.toSml) (by simp) (by simp) (by simp) ?_
    simp
    refine callT.ret (hLf 0) (by simp) (by simp) (by simp) ?_
    simp
    refine callT.ret (burrowref25_Same hN.toSml) (by simp) (by simp) (by simp) ?_
    simp
    refine callT.ret burrowlaw29_begun (by simp) (by simp) (by simp) ?_
    simp
    refine RetS.plain [] ?_
    simp
end Go.Ab
