/- The law FenceDivides: what it computes. No condition. -/
import Derived.Test.YtdfkcobijmbidaaGreatB7
import Derived.Test.YtdfkcobijmbidaaGreatSF1
import Derived.Test.YtdfkcobijmbidaaGreatSF2
import Derived.Test.YtdfkcobijmbidaaGreatSF3
import Derived.Test.YtdfkcobijmbidaaGreatSF4
import Derived.Test.YtdfkcobijmbidaaGreatC4
set_option linter.all false
noncomputable section N1s
namespace Go.Ab
open Go.Ab
def lcs (l : List Plc) : List Ses := (l.filter (fun p => p.has)).map (fun p => p.ses)
theorem lcs_succ {l : List Plc} {i : Nat} (h : i < l.length) : lcs (l.take (i + 1)) = lcs (l.take i) ++ (if l[i].has = true then [l[i].ses] else []) := by
  unfold lcs; rw [filter_succ _ h]; by_cases hk : l[i].has = true <;> simp [hk]
theorem lcs_le (l : List Plc) : (lcs l).length ≤ l.length := by
  unfold lcs; rw [List.length_map]; exact List.length_filter_le _ _
def pls (r : Rng) : List Plc := [r.p, r.c, r.n]
def sp (p : Per) : List Ses := lcs (pls p.ring)
def sess (l : List Per) : List Ses := l.flatMap sp
def sg (l : List Per) (i : Nat) : List Ses := sess (l.take i)
theorem sg_succ {l : List Per} {i : Nat} (h : i < l.length) : sg l (i + 1) = sg l i ++ sp l[i] := by
  unfold sg sess; rw [List.take_succ_eq_append_getElem h, List.flatMap_append]; simp
theorem sess_le (l : List Per) : (sess l).length ≤ 3 * l.length := by
  induction l with
  | nil => simp [sess]
  | cons p l ih =>
    have : (sp p).length ≤ 3 := lcs_le _
    unfold sess at *
    rw [List.flatMap_cons, List.length_append, List.length_cons]; omega
theorem sg_le (l : List Per) (i : Nat) : (sg l i).length ≤ 3 * i := by
  have := sess_le (l.take i)
  rw [List.length_take] at this
  unfold sg; omega
theorem getR_pls (r : Rng) {j : Nat} (h : j < (pls r).length) : (pls r)[j] = getR r (j + 1) := by
  have h3 : j < 3 := h
  rcases (by omega : j = 0 ∨ j = 1 ∨ j = 2) with rfl | rfl | rfl <;> rfl
theorem lcs_pls (r : Rng) {j : Nat} (h : j < 3) : lcs ((pls r).take (j + 1)) = lcs ((pls r).take j) ++ (if (getR r (j + 1)).has = true then [(getR r (j + 1)).ses] else []) := by
  have h' : j < (pls r).length := h
  rw [lcs_succ h', getR_pls r h']
set_option maxRecDepth 10000 in
set_option maxHeartbeats 2000000 in
theorem Sessions {d : Dmn} (hl : d.peers.length ≤ 3) : AOwn Pg I.burrowmake_Sessions [encD d] 76 ((sess d.peers).map encS) := by
  refine ACalls.intro T.burrowmake_Sessions (by simp [F.burrowmake_Sessions]) ?_
  simp [F.burrowmake_Sessions, argEnv, fpBx]
  refine LpS.rng d.peers.length (fun _ => True) [1, 2, 3, 9, 10, 11] (fun i => [(3, .rs 3 [] 0 (sg d.peers i).length (sg d.peers i).length 76 .tip), (11, .int .i64 i)]) (fun i => [(3, .arr 76 ((sg d.peers i).map encS))]) [.keep [1, 2, 3, 9, 10, 11], .vt 3 3 76] ?_
  simp [show sg d.peers 0 = [] from rfl]
  refine ⟨fun i hi K hK => ?_, fun K => ?_⟩
  · have hx : d.peers[i]? = some d.peers[i] := List.getElem?_eq_getElem hi
    have hA := sg_le d.peers i
    rw [sg_succ hi] at hK
    generalize d.peers[i] = p at *
    generalize sg d.peers i = A at *
    simp [↓aw_lk, hx, hi, -getElem?_pos]
    refine LpS.rng 3 (fun _ => True) [1, 2, 3, 5, 6, 9, 10, 11] (fun j => [(3, .rs 3 [] 0 (A ++ lcs ((pls p.ring).take j)).length (A ++ lcs ((pls p.ring).take j)).length 76 .tip), (6, .int .i64 ((j : Int) + 1))]) (fun j => [(3, .arr 76 ((A ++ lcs ((pls p.ring).take j)).map encS))]) [.keep [1, 2, 3, 5, 6, 9, 10, 11]] ?_
    simp [show lcs [] = [] from rfl]
    refine ⟨fun j hj K2 hK2 => ?_, fun K2 => ?_⟩
    · have hj3 : (j : Int) + 1 ≤ 3 := by omega
      have hw : IntKind.i64.wrap ((j : Int) + 1 + 1) = (j : Int) + 1 + 1 := wrap_i64 (by omega)
      have hget := burrowref22_Get p.ring (k := j + 1) (by omega)
      rw [show ((j + 1 : Nat) : Int) = (j : Int) + 1 by omega] at hget
      have hB := lcs_le ((pls p.ring).take j)
      rw [List.length_take, show (pls p.ring).length = 3 from rfl] at hB
      rw [lcs_pls p.ring hj] at hK2
      generalize lcs ((pls p.ring).take j) = B at *
      generalize getR p.ring (j + 1) = q at *
      simp [↓aw_lk, hj3]
      refine callS.ret hget (by simp) (by simp) (by simp) ?_
      by_cases h1 : q.has = true
      · simp [h1, hw]
        refine ⟨by omega, [.keep [1, 2, 3, 5, 6, 9, 10, 11], .dr 7], ?_⟩
        simp [refsEnv, refsBx, refsOk, refsOkB]
        exact hK2 _ (by simp [h1, Nat.add_assoc])
      · simp [h1, hw]
        refine ⟨[.keep [1, 2, 3, 5, 6, 9, 10, 11], .dr 7], ?_⟩
        simp [refsEnv, refsBx, refsOk, refsOkB]
        exact hK2 _ (by simp [h1, Nat.add_assoc])
    · have h3 : (pls p.ring).take 3 = pls p.ring := rfl
      simp [↓aw_lk, wrapi hi (by omega), h3]
      refine ⟨[.keep [1, 2, 3, 9, 10, 11], .dr 5], ?_⟩
      simp [refsEnv, refsBx, refsOk, refsOkB]
      exact hK _ (by simp [sp])
  · have hg : sg d.peers d.peers.length = sess d.peers := by unfold sg; rw [List.take_length]
    rw [hg]
    simp [↓aw_lk]
    refine RetS.with [.keep [2]] [3] ?_
    simp
end Go.Ab
end N1s
noncomputable section N2s
namespace Go.Ab
open Go.Ab
theorem pk3 (φ : Ses → Ses) (p : Per) : pk φ 3 p = { p with ring := ⟨pl φ p.ring.p, pl φ p.ring.c, pl φ p.ring.n⟩ } := by simp [pk]
theorem lcs_pl {φ : Ses → Ses} : ∀ l : List Plc, lcs (l.map (pl φ)) = (lcs l).map φ
  | [] => rfl
  | q :: l => by
    have ih := lcs_pl (φ := φ) l
    unfold lcs at *
    unfold pl at *
    by_cases h : q.has = true
    · simp only [List.map_cons, List.filter_cons, h, if_true, List.map_cons, ih]
    · have h' : q.has = false := by simpa using h
      simp only [List.map_cons, List.filter_cons, h', Bool.false_eq_true, if_false]
      exact ih
theorem sess_all (φ : Ses → Ses) (d : Dmn) : sess (all_ φ d).peers = (sess d.peers).map φ := by
  show sess (d.peers.map (pk φ 3)) = _
  unfold sess
  rw [List.flatMap_map, List.map_flatMap]
  congr 1; funext p
  show lcs (pls (pk φ 3 p).ring) = _
  rw [pk3]
  exact lcs_pl (pls p.ring)
theorem sess_ok {d : Dmn} (h : VD d) {s : Ses} (hs : s ∈ sess d.peers) : SesOk d s := by
  unfold sess at hs
  obtain ⟨p, hp, hs⟩ := List.mem_flatMap.1 hs
  unfold sp lcs at hs
  obtain ⟨q, hq, rfl⟩ := List.mem_map.1 hs
  obtain ⟨hq1, hq2⟩ := List.mem_filter.1 hq
  obtain ⟨_, _, _, _, _, _, _, _, _, a10, a11, a12⟩ := h.per p hp
  have hpq : PlcOk d q := by
    simp only [pls, List.mem_cons, List.not_mem_nil, or_false] at hq1
    rcases hq1 with rfl | rfl | rfl <;> assumption
  rcases hpq with ⟨_, h2⟩ | ⟨h2, _⟩
  · exact h2
  · simp [h2] at hq2
set_option maxRecDepth 10000 in
theorem burrowcase_New {l : List UInt8} (hl : l.length ≤ 9223372036854775807) {n : Nat} (hn : n ≤ 1000000) : ACalls Pg I.burrowcase_New [encB l, .int .i64 n] [] (fun r fp => r = .pt KB [] 0 ∧ fp = [.box (encC ⟨l.take n, 0⟩)]) := by
  refine ACalls.intro T.burrowcase_New (by simp [F.burrowcase_New]) ?_
  simp [F.burrowcase_New, argEnv, fpBx]
  have hmin : (min (l.length : Int) (n : Int)) = ((min l.length n : Nat) : Int) := by omega
  have ht : (List.map u8 l).take (min l.length n) = (l.take n).map u8 := by
    rw [← List.map_take]; congr 1
    rcases Nat.le_total l.length n with h | h
    · rw [Nat.min_eq_left h, List.take_length, List.take_of_length_le h]
    · rw [Nat.min_eq_right h]
  simp (disch := omega) [encB, hmin, ht]
  refine ⟨by omega, ?_⟩
  refine RetS.with [] [12] ?_
  simp [refsOkB, refsOk, refsOkL, renB, ren, renL]
  simp [encC, encB]
set_option maxRecDepth 10000 in
theorem burrowlaw29_begun : ARet Pg I.burrowlaw29_begun [] (.bl true) := by
  refine ACalls.intro T.burrowlaw29_begun (by simp [F.burrowlaw29_begun]) ?_
  simp [F.burrowlaw29_begun, argEnv, fpBx]
  refine callS.ret (fence_Edge (s := { zSes with next := 10 }) (r := ⟨0, 50, 0, 0, 0, 0, 0, 0, 0, 0⟩) (n := 100) ⟨by decide, by decide⟩ ⟨by decide, by decide⟩) (by simp; exact ⟨rfl, rfl⟩) (by simp) (by simp) ?_
  simp [edge]
  refine RetS.plain [] ?_
  simp [zSes]
  decide
theorem Nice_vm {d : Dmn} {m : Nat} (h : VM d m) : Nice d := by
  refine ⟨h.vd.sml, fun p hp => ?_⟩
  have hpo := h.vd.per p hp
  have key : ∀ q : Plc, PlcOk d q → U64 q.ses.next := by
    rintro q (⟨_, hq⟩ | ⟨_, rfl⟩)
    · obtain ⟨_, _, _, a, b, _⟩ := hq; exact ⟨a, by omega⟩
    · exact ⟨by decide, by decide⟩
  exact ⟨key _ hpo.rp, key _ hpo.rc, key _ hpo.rn⟩
def uK (i : Nat) (c : Int) : PV := .st 2 [.int .i64 i, .int .u64 c]
def shU : Sh := .st [.i .i64, .i .u64]
@[simp] theorem uK_fits (i : Nat) (c : Int) : fits shU (uK i c) = true := by simp [shU, uK, fits, fitsL, shWL, shW]
theorem uK_beq (i j : Nat) (c e : Int) : PV.beq (uK i c) (uK j e) = (decide (i = j) && decide (c = e)) := by
  simp only [uK, PV.beq, PV.beqL, Bool.and_true]
  congr 1
  by_cases h : i = j
  · subst h; simp
  · simp [h]
    omega
def Used (n : Nat) (E a b : Nat → Int) (L : List (PV × PV)) : Prop := ∀ x ∈ L, ∃ (i : Nat) (c : Int), i < n ∧ x.1 = uK i c ∧ x.2 = .bl true ∧ ((c < E i ∧ c < a i) ∨ (E i ≤ c ∧ c < b i))
theorem lkp_none {p : PV} : ∀ {L : List (PV × PV)}, (∀ x ∈ L, PV.beq p x.1 = false) → lkp p L = none
  | [], _ => rfl
  | (k, v) :: L, h => by
    have h1 := h (k, v) (by simp)
    simp only [lkp, h1, Bool.false_eq_true, if_false]
    exact lkp_none fun x hx => h x (by simp [hx])
theorem mem_mupd {p v : PV} : ∀ {L : List (PV × PV)} {x : PV × PV}, x ∈ mupd p v L → x = (p, v) ∨ x ∈ L
  | [], x, h => by simp [mupd] at h; exact .inl h
  | (k, w) :: L, x, h => by
    simp only [mupd] at h
    split at h
    · rcases List.mem_cons.1 h with h | h
      · exact .inl h
      · exact .inr (by simp [h])
    · rcases List.mem_cons.1 h with h | h
      · exact .inr (by simp [h])
      · rcases mem_mupd h with h | h
        · exact .inl h
        · exact .inr (by simp [h])
theorem Used.no {n : Nat} {E a b : Nat → Int} {L : List (PV × PV)} (h : Used n E a b L) {i : Nat} {c : Int} (hc : (c < E i → a i ≤ c) ∧ (E i ≤ c → b i ≤ c)) : lkp (uK i c) L = none := by
  refine lkp_none fun x hx => ?_
  obtain ⟨j, e, _, h1, _, h2⟩ := h x hx
  rw [h1, uK_beq]
  by_cases hij : i = j
  · subst hij
    by_cases hce : c = e
    · subst hce; omega
    · simp [hce]
  · simp [hij]
def setF (f : Nat → Int) (i : Nat) (v : Int) : Nat → Int := fun j => if j = i then v else f j
theorem Used.addA {n : Nat} {E a b : Nat → Int} {L : List (PV × PV)} (h : Used n E a b L) {i : Nat} (hi : i < n) (hc : a i < E i) : Used n E (setF a i (a i + 1)) b (mupd (uK i (a i)) (.bl true) L) := by
  intro x hx
  rcases mem_mupd hx with rfl | hx
  · refine ⟨i, a i, hi, rfl, rfl, .inl ⟨hc, ?_⟩⟩
    simp [setF]
    omega
  · obtain ⟨j, e, h0, h1, h2, h3⟩ := h x hx
    refine ⟨j, e, h0, h1, h2, ?_⟩
    rcases h3 with h3 | h3
    · refine .inl ⟨h3.1, ?_⟩
      unfold setF
      split
      · subst_vars; omega
      · exact h3.2
    · exact .inr h3
theorem Used.addB {n : Nat} {E a b : Nat → Int} {L : List (PV × PV)} (h : Used n E a b L) {i : Nat} (hi : i < n) (hc : E i ≤ b i) : Used n E a (setF b i (b i + 1)) (mupd (uK i (b i)) (.bl true) L) := by
  intro x hx
  rcases mem_mupd hx with rfl | hx
  · refine ⟨i, b i, hi, rfl, rfl, .inr ⟨hc, ?_⟩⟩
    simp [setF]
    omega
  · obtain ⟨j, e, h0, h1, h2, h3⟩ := h x hx
    refine ⟨j, e, h0, h1, h2, ?_⟩
    rcases h3 with h3 | h3
    · exact .inl h3
    · refine .inr ⟨h3.1, ?_⟩
      unfold setF
      split
      · subst_vars; omega
      · exact h3.2
def nxs (l : List Ses) (f : Nat → Int) : List Ses := l.mapIdx fun i s => { s with next := f i }
@[simp] theorem nxs_len (l : List Ses) (f : Nat → Int) : (nxs l f).length = l.length := by simp [nxs]
theorem nxs_get (l : List Ses) (f : Nat → Int) {i : Nat} (h : i < l.length) : (nxs l f)[i]? = some { l[i] with next := f i } := by simp [nxs, h]
theorem nxs_id (l : List Ses) : nxs l (fun i => (l[i]?.map (·.next)).getD 0) = l := by
  apply List.ext_getElem?
  intro i
  by_cases h : i < l.length
  · rw [nxs_get l _ h, List.getElem?_eq_getElem h]; rfl
  · rw [List.getElem?_eq_none (by simp; omega), List.getElem?_eq_none (by omega)]
theorem nxs_set (l : List Ses) (f : Nat → Int) {i : Nat} (h : i < l.length) (v : Int) : (nxs l f).set i { l[i] with next := v } = nxs l (setF f i v) := by
  apply List.ext_getElem?
  intro j
  rw [List.getElem?_set]
  by_cases hj : j < l.length
  · have h2 := nxs_get l (setF f i v) hj
    by_cases hij : i = j
    · subst hij; rw [h2]; simp [h, setF]
    · have hji : ¬ j = i := fun e => hij e.symm
      rw [h2, if_neg hij, nxs_get l f hj]
      simp [setF, hji]
  · rw [List.getElem?_eq_none (by simp; omega)]
    by_cases hij : i = j
    · omega
    · simp [hij]; omega
end Go.Ab
end N2s
noncomputable section N3s
namespace Go.Ab
open Go.Ab
structure Fds where
  a : Nat → Int
  b : Nat → Int
  L : List (PV × PV)
def nx0 (l : List Ses) : Nat → Int := fun i => (l[i]?.map (·.next)).getD 0
def eF (l : List Ses) (m rj : Int) : Nat → Int := fun j => (l[j]?.map fun s => edge s.next m rj).getD 0
theorem eF_get {l : List Ses} {m rj : Int} {i : Nat} (h : i < l.length) : eF l m rj i = edge l[i].next m rj := by simp [eF, h]
theorem noSes_e : noSes = encS zSes := by first | rfl | (unfold noSes; rw [zr_eq]; rfl)
theorem edge_ge (a b c : Int) : a ≤ edge a b c := by unfold edge; omega
@[simp ↓] theorem vgk_mp (g : Bool) (k b : Nat) (K : PV → Prop) : vgk g (.mp k b) K = K (.mp k b) := _root_.id rfl
set_option maxRecDepth 10000 in
set_option maxHeartbeats 4000000 in
theorem burrowlaw29_FenceDivides {l ob : List UInt8} (hl : l.length ≤ 9223372036854775807) (ho : ob.length ≤ 9223372036854775807) {n : Int} (hn : 0 ≤ n ∧ n ≤ 65535) :
    ARet Pg I.burrowlaw29_FenceDivides [encB l, encB ob, .int .u16 n] (.bl true) := by
  refine ACalls.intro T.burrowlaw29_FenceDivides (by simp [F.burrowlaw29_FenceDivides]) ?_
  simp [F.burrowlaw29_FenceDivides, argEnv, fpBx]
  refine callS.gen [] [25] [] (burrowcase_New hl (n := 160) (by omega)) (by simp [getAll]) (by simp) (by simp) (by simp [refsOkL]) (by simp) (by simp [renL]) (by simp) (by simp [refsOkB, refsOk, inFp, (pure_encC _).refs]) ?_
  simp [putAll, renB, ren, ren2, (pure_encC _).ren]
  have hC : CdsOk ⟨l.take 160, 0⟩ := ⟨by simp; omega, by simp⟩
  refine callS.cdsE 25 (burrowmake_Daemon hC) (by simp) (by simp [refsOkL, refsOk, inKs, idx]) (by simp [renL, ren, ren1, idx]) (by simp) ?_
  rintro ⟨d, c⟩ ⟨hV, _, _, hbd⟩
  dsimp only at hV hbd
  simp
  have hw : IntKind.u64.wrap n = n := wrap_u64 (by omega)
  rw [hw]
  have hm : U64 (n.tmod 40) := by
    rw [Int.tmod_eq_emod_of_nonneg hn.1]; exact ⟨by omega, by omega⟩
  obtain ⟨m, hme⟩ : ∃ m, n.tmod 40 = m := ⟨_, rfl⟩
  rw [hme] at hm ⊢
  have hL3 := hV.vd.pks.1
  have hN := Nice_vm hV
  have hRn := fence_Reserve hN hm
  have hx3 : (sess d.peers).length ≤ 3 * d.peers.length := sess_le d.peers
  have hSx := Sessions (d := d) hL3
  have hSy := Sessions (d := all_ (low m d.rules.rejm) d) (by show (d.peers.map _).length ≤ 3; rw [List.length_map]; exact hL3)
  rw [sess_all] at hSy
  have hSz := Sessions (d := all_ (rise m d.rules.rejm) d) (by show (d.peers.map _).length ≤ 3; rw [List.length_map]; exact hL3)
  rw [sess_all] at hSz
  have hxo : ∀ s ∈ sess d.peers, 0 ≤ s.next ∧ s.next ≤ 18446744073709543423 := fun s hs => ⟨(sess_ok hV.vd hs).n0, (sess_ok hV.vd hs).n1⟩
  have hyp : PureL ((sess d.peers).map encS) := pureL_map pure_encS _
  generalize all_ (low m d.rules.rejm) d = y at *
  generalize all_ (rise m d.rules.rejm) d = z at *
  refine callS.ret hRn (by simp) (by simp) (by simp) ?_
  simp
  refine DrS.run [38, 40] rfl ?_
  simp
  refine callT.ret (hSx.frz hyp) (by simp) (by simp) (by simp) ?_
  simp
  generalize sess d.peers = x at *
  generalize hrj : d.rules.rejm = rj at *
  obtain ⟨ys, hys, hy1, hy2⟩ : ∃ ys, x.map (low m rj) = ys ∧ ys.length = x.length ∧ ∀ i (h : i < x.length), ys[i]? = some (low m rj x[i]) := ⟨_, rfl, by simp, fun i h => by simp [h]⟩
  obtain ⟨zs, hzs, hz1, hz2⟩ : ∃ zs, x.map (rise m rj) = zs ∧ zs.length = x.length ∧ ∀ i (h : i < x.length), zs[i]? = some (rise m rj x[i]) := ⟨_, rfl, by simp, fun i h => by simp [h]⟩
  rw [hys] at hSy
  rw [hzs] at hSz
  refine callS.own 38 hSy (by simp) (by simp) (by simp) (by simp) ?_
  simp
  refine callS.own 40 hSz (by simp) (by simp) (by simp) (by simp) ?_
  simp
  simp [hy1, hz1]
  have h60 : (min (ob.length : Int) 60) = ((min ob.length 60 : Nat) : Int) := by omega
  obtain ⟨q, hql, ht⟩ : ∃ q : List UInt8, min ob.length 60 = q.length ∧ (List.map u8 ob).take q.length = q.map u8 := by
    refine ⟨ob.take 60, by rw [List.length_take]; omega, ?_⟩
    rw [← List.map_take]; congr 1
    rw [List.length_take]
    rcases Nat.le_total ob.length 60 with h | h
    · rw [Nat.min_eq_right h, List.take_length, List.take_of_length_le h]
    · rw [Nat.min_eq_left h]
  rw [hql] at h60
  refine ⟨fun hx0 => ?_, fun hx0 => ?_⟩
  · refine callS.ret burrowlaw29_begun (by simp) (by simp) (by simp) ?_
    simp
    refine RetS.plain [] ?_
    simp
  · have hxp : 0 < x.length := by cases x <;> simp at hx0 ⊢
    intro mb
    simp (disch := omega) [encB, h60, ht]
    refine ⟨by omega, ?_⟩
    have hq6 : q.length ≤ 60 := by omega
    have hE : ∀ j (h : j < x.length), 0 ≤ eF x m rj j := fun j h => by rw [eF_get h]; exact Int.le_trans (hxo _ (List.getElem_mem h)).1 (edge_ge _ _ _)
    refine LpS.rngA q.length (⟨nx0 ys, nx0 zs, []⟩ : Fds) (fun i w => Used x.length (eF x m rj) w.a w.b w.L ∧ (∀ j, j < x.length → 0 ≤ w.a j) ∧ (∀ j, j < x.length → eF x m rj j ≤ w.b j))
      [2, 6, 7, 10, 11, 12, 13, 62, 63, 64] (fun i w => [(64, .int .i64 i)]) (fun i w => [(38, .arr 76 ((nxs ys w.a).map encS)), (40, .arr 76 ((nxs zs w.b).map encS)), (57, .map mb shU .b w.L)]) [.keep [2, 6, 7, 10, 11, 12, 13, 62, 63, 64]] ?_
    simp
    refine ⟨?_, ?_, ?_, ?_⟩
    · exact ⟨congrArg (List.map encS) (nxs_id ys), congrArg (List.map encS) (nxs_id zs), rfl⟩
    · refine ⟨fun _ h => (by cases h), fun j hj => ?_, fun j hj => ?_⟩
      · have := hy2 j hj
        unfold nx0
        rw [this]
        exact (hxo _ (List.getElem_mem hj)).1
      · have := hz2 j hj
        unfold nx0
        rw [this, eF_get hj]
        exact Int.le_refl _
    · intro i w hi hU hA hB K hK
      have hx : q[i]? = some q[i] := List.getElem?_eq_getElem hi
      generalize q[i] = oc at *
      obtain ⟨o, ho0, ho1, hoe⟩ : ∃ o : Int, 0 ≤ o ∧ o ≤ 255 ∧ u8 oc = .int .u8 o := ⟨oc.toNat, by omega, by have := oc.toNat_lt; omega, rfl⟩
      have hd1 : IntKind.u8.wrap (o.tdiv 2) = o / 2 := by rw [Int.tdiv_eq_ediv_of_nonneg ho0]; exact wrap_u8 (by omega)
      have hd2 : IntKind.i64.wrap (o / 2) = o / 2 := wrap_i64 (by omega)
      obtain ⟨k, hk, hke⟩ : ∃ k : Nat, k < x.length ∧ (o / 2).tmod (x.length : Int) = (k : Int) := by
        rw [Int.tmod_eq_emod_of_nonneg (by omega)]
        have h1 : 0 ≤ o / 2 % (x.length : Int) := Int.emod_nonneg _ (by omega)
        have h2 : o / 2 % (x.length : Int) < (x.length : Int) := Int.emod_lt_of_pos _ (by omega)
        exact ⟨(o / 2 % (x.length : Int)).toNat, by omega, by omega⟩
      have hxk : x[k]? = some x[k] := List.getElem?_eq_getElem hk
      simp [↓aw_lk, hx, hi, hoe, hd1, hd2, hke, hk, hxk, hw, hme, hx0, -getElem?_pos]
      obtain ⟨hn0, hn1⟩ := hxo _ (List.getElem_mem hk)
      have heF := eF_get (m := m) (rj := rj) hk
      have hy2k := hy2 k hk
      have hz2k := hz2 k hk
      generalize x[k] = s at *
      have hEd := fence_Edge (s := s) (r := d.rules) (n := m) ⟨hn0, by omega⟩ hm
      rw [hrj, ← heF] at hEd
      refine callT.ret hEd (by simp) (by simp) (by simp) ?_
      by_cases hodd : o % 2 = 1
      · have hr2 : o.tmod 2 = 1 := by rw [Int.tmod_eq_emod_of_nonneg ho0]; exact hodd
        simp [hr2]
        have hzk : k < zs.length := by omega
        have hg := nxs_get zs w.b hzk
        have hse := nxs_set zs w.b hzk (w.b k + 1)
        rw [show zs[k] = rise m rj s by rw [List.getElem?_eq_getElem hzk] at hz2k; exact Option.some.inj hz2k] at hg hse
        have hbk := hB k hk
        have hEk := hE k hk
        obtain ⟨t, hte⟩ : ∃ t : Ses, t = { rise m rj s with next := w.b k } := ⟨_, rfl⟩
        have htn : t.next = w.b k := by rw [hte]
        rw [← hte] at hg
        rw [show ({ rise m rj s with next := w.b k + 1 } : Ses) = { t with next := t.next + 1 } by rw [htn, hte]] at hse
        have hno : lkp (.st 2 [.int .i64 k, .int .u64 (w.b k)]) w.L = none := hU.no (i := k) (c := w.b k) ⟨fun h => by omega, fun h => by omega⟩
        by_cases hlt : t.next < t.fence ∧ t.next < d.rules.rejm ∧ t.next < 18446744073709543423
        · obtain ⟨bs, hbl, hSe⟩ := session_Seal (lim := d.rules.rejm) (o := o) (by omega) hlt
          have hDe := fun b => message_DecodeTransport (IntKind.u64.wrap t.rem).toNat t.next.toNat bs b (by omega) (by omega) (by omega)
          generalize mB (IntKind.u64.wrap t.rem).toNat t.next.toNat bs = M at *
          rw [show ((t.next.toNat : Nat) : Int) = w.b k by omega] at hDe
          generalize (((IntKind.u64.wrap t.rem).toNat % 4294967296 : Nat) : Int) = rr at *
          generalize ({ t with next := t.next + 1 } : Ses) = t2 at *
          refine DrS.run [19] rfl ?_
          simp [hg, hk, hz1, -getElem?_pos]
          refine callT.ret hSe (by simp [bS, by_]) (by simp) (by simp) ?_
          simp
          refine callS.ret (hDe false) (by simp [bS]) (by simp) (by simp) ?_
          have hft : fits (.st [.i .i64, .i .u64]) (.st 2 [.int .i64 k, .int .u64 (w.b k)]) = true := uK_fits k _
          have hm2 : ((nxs zs w.b).map encS).set k (encS t2) = (nxs zs (setF w.b k (w.b k + 1))).map encS := by rw [← List.map_set, hse]
          have hc1 : ¬ w.b k < eF x m rj k := by omega
          have hc2 : ¬ d.rules.rejm ≤ w.b k := by omega
          simp (maxSteps := 1000000) [hno, shU, hr2, hc1, hc2, hft]
          refine DrS.run [40] rfl ?_
          simp [hg, hk, hz1, hft, hm2, wrapi hi (by omega), -getElem?_pos]
          refine ⟨rfl, [.keep [2, 6, 7, 10, 11, 12, 13, 62, 63, 64], .dr 19, .dr 22], ?_⟩
          simp [refsEnv, refsBx, refsOk, refsOkB, (by_pure bs).refs]
          refine hK ⟨w.a, setF w.b k (w.b k + 1), mupd (uK k (w.b k)) (.bl true) w.L⟩ _ (by simp [uK, shU]) (hU.addB hk hbk) hA fun j hj => ?_
          have := hB j hj
          show _ ≤ setF w.b k (w.b k + 1) j
          unfold setF
          split
          · subst_vars; omega
          · exact this
        · have hSe := session_Seal_no (lim := d.rules.rejm) (o := o) hlt
          rw [noSes_e] at hSe
          refine DrS.run [19] rfl ?_
          simp [hg, hk, hz1, -getElem?_pos]
          refine callT.ret hSe (by simp [bS, by_]) (by simp) (by simp) ?_
          simp [wrapi hi (by omega)]
          refine ⟨[.keep [2, 6, 7, 10, 11, 12, 13, 62, 63, 64], .dr 19], ?_⟩
          simp [refsEnv, refsBx, refsOk, refsOkB]
          exact hK w _ (by simp) hU hA hB
      · have hr2 : o.tmod 2 = 0 := by rw [Int.tmod_eq_emod_of_nonneg ho0]; omega
        simp [hr2]
        have hyk : k < ys.length := by omega
        have hg := nxs_get ys w.a hyk
        have hse := nxs_set ys w.a hyk (w.a k + 1)
        rw [show ys[k] = low m rj s by rw [List.getElem?_eq_getElem hyk] at hy2k; exact Option.some.inj hy2k] at hg hse
        have hbk := hA k hk
        have hEk := hE k hk
        obtain ⟨t, hte⟩ : ∃ t : Ses, t = { low m rj s with next := w.a k } := ⟨_, rfl⟩
        have htn : t.next = w.a k := by rw [hte]
        rw [← hte] at hg
        rw [show ({ low m rj s with next := w.a k + 1 } : Ses) = { t with next := t.next + 1 } by rw [htn, hte]] at hse
        by_cases hlt : t.next < t.fence ∧ t.next < d.rules.rejm ∧ t.next < 18446744073709543423
        · obtain ⟨bs, hbl, hSe⟩ := session_Seal (lim := d.rules.rejm) (o := o) (by omega) hlt
          have hDe := fun b => message_DecodeTransport (IntKind.u64.wrap t.rem).toNat t.next.toNat bs b (by omega) (by omega) (by omega)
          generalize mB (IntKind.u64.wrap t.rem).toNat t.next.toNat bs = M at *
          rw [show ((t.next.toNat : Nat) : Int) = w.a k by omega] at hDe
          generalize (((IntKind.u64.wrap t.rem).toNat % 4294967296 : Nat) : Int) = rr at *
          generalize ({ t with next := t.next + 1 } : Ses) = t2 at *
          refine DrS.run [19] rfl ?_
          simp [hg, hk, hy1, -getElem?_pos]
          refine callT.ret hSe (by simp [bS, by_]) (by simp) (by simp) ?_
          simp
          refine callS.ret (hDe false) (by simp [bS]) (by simp) (by simp) ?_
          have hft : fits (.st [.i .i64, .i .u64]) (.st 2 [.int .i64 k, .int .u64 (w.a k)]) = true := uK_fits k _
          have hm2 : ((nxs ys w.a).map encS).set k (encS t2) = (nxs ys (setF w.a k (w.a k + 1))).map encS := by rw [← List.map_set, hse]
          have hc1 : w.a k < eF x m rj k := by
            have h1 := hlt.1
            rw [htn] at h1
            rw [heF]
            rwa [hte] at h1
          have hno : lkp (.st 2 [.int .i64 k, .int .u64 (w.a k)]) w.L = none := hU.no (i := k) (c := w.a k) ⟨fun h => by omega, fun h => by omega⟩
          have hc2 : ¬ d.rules.rejm ≤ w.a k := by omega
          simp (maxSteps := 1000000) [hno, shU, hr2, hc1, hc2, hft]
          refine DrS.run [38] rfl ?_
          simp [hg, hk, hy1, hft, hm2, wrapi hi (by omega), -getElem?_pos]
          refine ⟨rfl, [.keep [2, 6, 7, 10, 11, 12, 13, 62, 63, 64], .dr 19, .dr 22], ?_⟩
          simp [refsEnv, refsBx, refsOk, refsOkB, (by_pure bs).refs]
          refine hK ⟨setF w.a k (w.a k + 1), w.b, mupd (uK k (w.a k)) (.bl true) w.L⟩ _ (by simp [uK, shU]) (hU.addA hk hc1) (fun j hj => ?_) hB
          have := hA j hj
          show _ ≤ setF w.a k (w.a k + 1) j
          unfold setF
          split
          · subst_vars; omega
          · exact this
        · have hSe := session_Seal_no (lim := d.rules.rejm) (o := o) hlt
          rw [noSes_e] at hSe
          refine DrS.run [19] rfl ?_
          simp [hg, hk, hy1, -getElem?_pos]
          refine callT.ret hSe (by simp [bS, by_]) (by simp) (by simp) ?_
          simp [wrapi hi (by omega)]
          refine ⟨[.keep [2, 6, 7, 10, 11, 12, 13, 62, 63, 64], .dr 19], ?_⟩
          simp [refsEnv, refsBx, refsOk, refsOkB]
          exact hK w _ (by simp) hU hA hB
    · intro w hU hA hB K
      simp [↓aw_lk]
      refine callS.ret burrowlaw29_begun (by simp) (by simp) (by simp) ?_
      simp
      refine RetS.plain [] ?_
      simp
end Go.Ab
end N3s
