/- Installing a session keeps a made daemon valid. No condition. -/
import Derived.Test.YtdfkcobijmbidaaGreatB4
set_option linter.all false
noncomputable section G6s
namespace Go.Ab
open Go.Ab
def zOut : PV := .sl 86 [] true
@[simp] theorem pure_zOut : Pure zOut := by simp [zOut]
@[simp] theorem zOut_width : zOut.width = 1 := rfl
def mch (d : Dmn) (p : PV) : PV := .st 149 [encDo d p, zOut]
@[simp ↓] theorem getP_mch (d : Dmn) (p : PV) (r : List Step) : getP (mch d p) (.f 0 0 :: r) = getP (encDo d p) r := by simp [mch, widths]
def mch_s (c : PV) : PV := .st 149 [c, zOut]
@[simp ↓] theorem setP_mch (d : Dmn) (p : PV) (r : List Step) (x : PV) : setP (mch d p) (.f 0 0 :: r) x = (setP (encDo d p) r x).bind fun c => some (mch_s c) := by
  simp [mch, mch_s, widths]
@[simp ↓] theorem mch_s_f (d : Dmn) (p : PV) : mch_s (encDo d p) = mch d p := _root_.id rfl
@[simp] theorem mch_refs (f : Nat → Bool) (d : Dmn) (p : PV) : refsOk f (mch d p) = refsOk f p := by
  simp [mch, refsOk, refsOkL, (pure_zOut).refs]
@[simp] theorem mch_ren (ρ : Nat → Nat) (d : Dmn) (p : PV) : ren ρ (mch d p) = mch d (ren ρ p) := by
  simp [mch, ren, renL, (pure_zOut).ren]
theorem mch_e (d : Dmn) (p : PV) : PV.st 149 [encDo d p, .sl 86 [] true] = mch d p := rfl
def dSl (d : Dmn) (s : List Slt) : Dmn := { d with slots := s }
def dTi (d : Dmn) (s : List Tmr) : Dmn := { d with timers := s }
@[simp] theorem dSl_slots (d : Dmn) (s : List Slt) : (dSl d s).slots = s := rfl
@[simp] theorem dSl_sl (d : Dmn) (s t : List Slt) : dSl (dSl d s) t = dSl d t := rfl
def dropAll (s : List Slt) (l : List Int) : List Slt := l.foldl (fun s x => s.filter (neS x)) s
theorem dropAll_le : ∀ (l : List Int) (s : List Slt), (dropAll s l).length ≤ s.length
  | [], s => Nat.le_refl _
  | x :: l, s => Nat.le_trans (dropAll_le l _) (List.length_filter_le _ _)
theorem dropAll_succ {s : List Slt} {l : List Int} {i : Nat} (h : i < l.length) : dropAll s (l.take (i + 1)) = (dropAll s (l.take i)).filter (neS l[i]) := by
  rw [List.take_succ_eq_append_getElem h]; unfold dropAll; rw [List.foldl_append]; rfl
set_option maxRecDepth 10000 in
theorem machine_drop {d : Dmn} (hs : d.slots.length ≤ 1048576) {l : List Int} (hl : l.length ≤ 8) (ps : List Per) :
    ACalls Pg I.burrowref24_machine_drop [.pt KB [] 0, encU l] [.box (mch d (.rs (KB + 1) [] 0 ps.length ps.length 464 .tip)), .arr 464 (ps.map encPe)]
      (fun r fp => r = .tup [] ∧ fp = [.box (mch (dSl d (dropAll d.slots l)) (.rs (KB + 1) [] 0 ps.length ps.length 464 .tip)), .arr 464 (ps.map encPe)]) := by
  refine ACalls.intro T.burrowref24_machine_drop (by simp [F.burrowref24_machine_drop]) ?_
  simp [F.burrowref24_machine_drop, argEnv, fpBx]
  refine LpS.rng l.length (fun _ => True) [0, 6, 7, 8] (fun i => [(8, .int .i64 i)]) (fun i => [(KB, .box (mch (dSl d (dropAll d.slots (l.take i))) (.rs (KB + 1) [] 0 ps.length ps.length 464 .tip)))]) [.keep [0, 6, 7, 8]] ?_
  simp [show ∀ s, dropAll s [] = s from fun _ => rfl, show dSl d d.slots = d from rfl]
  refine ⟨fun i hi K hK => ?_, fun K => ?_⟩
  · have hx : l[i]? = some l[i] := List.getElem?_eq_getElem hi
    rw [dropAll_succ hi] at hK
    have hle := dropAll_le (l.take i) d.slots
    generalize dropAll d.slots (l.take i) = S at *
    simp [↓aw_lk, hx, hi]
    refine callS.ret (DropSlot (l := S) (by omega) l[i]) (by simp) (by simp) (by simp) ?_
    simp [wrapi hi (by omega)]
    refine ⟨[.keep [0, 6, 7, 8]], ?_⟩
    simp
    exact hK _ (by simp [dSl])
  · simp [↓aw_lk]
    refine RetS.with [] [KB, KB + 1] ?_
    simp [tupOf]
set_option maxRecDepth 10000 in
theorem machine_set {d : Dmn} (ht : d.timers.length ≤ 1048575) {ps : List Per} {i : Nat} (hi : i < ps.length) (k : Int) {n : Int} (h1 : 0 ≤ d.now) (h2 : d.now ≤ 16777216) (h3 : 0 ≤ n) (h4 : n ≤ 16777216) :
    ACalls Pg I.burrowref24_machine_set [.pt KB [] 0, .int .i64 i, .int .i64 k, .int .i64 n] [.box (mch d (.rs (KB + 1) [] 0 ps.length ps.length 464 .tip)), .arr 464 (ps.map encPe)]
      (fun r fp => r = .tup [] ∧ fp = [.box (mch (dTi d (setT d.timers ⟨d.now + n, ps[i].pub, k⟩)) (.rs (KB + 1) [] 0 ps.length ps.length 464 .tip)), .arr 464 (ps.map encPe)]) := by
  refine ACalls.intro T.burrowref24_machine_set (by simp [F.burrowref24_machine_set]) ?_
  have hx : ps[i]? = some ps[i] := List.getElem?_eq_getElem hi
  have hw : IntKind.i64.wrap (d.now + n) = d.now + n := wrap_i64 (by omega)
  have e : PV.st 34 [.int .i64 (d.now + n), encK ps[i].pub, .int .i64 k] = encT ⟨d.now + n, ps[i].pub, k⟩ := rfl
  simp [F.burrowref24_machine_set, argEnv, fpBx, hx, hi, hw, e]
  refine callT.ret (burrowref14_Set (l := d.timers) ht ⟨d.now + n, ps[i].pub, k⟩) (by simp) (by simp) (by simp) ?_
  simp
  refine RetS.with [] [KB, KB + 1] ?_
  simp [tupOf, dTi]
end Go.Ab
end G6s
noncomputable section G7s
namespace Go.Ab
open Go.Ab
theorem VD.sml {d : Dmn} (h : VD d) : Sml d where
  peers := by have := h.pks.1; omega
  routes := by have := h.rts.1; omega
  slots := by have := h.sls.len h.pks.1; omega
  timers := by have := h.tis.len; omega
  recent := by rw [h.rcn]; simp
  buckets := by rw [h.buc]; simp
  staged := fun p hp => by rw [(h.per p hp).staged]; simp
def instR (r : Rng) (s : Ses) (own : Bool) : Rng := if own = true then beginR r s else ansR r s
def instDr (r : Rng) (own : Bool) : List Int := if own = true then beginD r else ansD r
def pR (p : Per) (r : Rng) : Per := { p with ring := r }
def instD (d : Dmn) (i : Nat) (hi : i < d.peers.length) (s : Ses) (own : Bool) : Dmn :=
  { d with peers := d.peers.set i (pR d.peers[i] (instR d.peers[i].ring s own)), slots := putS (dropAll d.slots (instDr d.peers[i].ring own)) ⟨s.loc, kOf i, true⟩, timers := setT d.timers ⟨d.now + 3 * d.rules.rejt, kOf i, 5⟩ }
theorem instDr_le (r : Rng) (own : Bool) : (instDr r own).length ≤ 8 := by
  unfold instDr beginD ansD
  split
  · split
    · exact Nat.le_trans (lcl_le _) (by simp)
    · exact Nat.le_trans (lcl_le _) (by simp)
  · exact Nat.le_trans (lcl_le _) (by simp)
theorem mem_dropAll {x : Slt} : ∀ {l : List Int} {s : List Slt}, x ∈ dropAll s l → x ∈ s
  | [], s, h => h
  | y :: l, s, h => (List.mem_filter.1 (mem_dropAll (l := l) h)).1
set_option maxRecDepth 10000 in
set_option maxHeartbeats 2000000 in
theorem Install_t {d : Dmn} (h : VD d) {i : Nat} (hi : i < d.peers.length) {s : Ses} (hs : SesOk d s) (h1 : 1 ≤ s.loc) (hfr : ∀ x ∈ d.slots, x.index ≠ s.loc) (own : Bool) :
    ARet Pg I.burrowref24_Install [encD d, encK (kOf i), encS s, .bl own] (.tup [encD (instD d i hi s own), .int .i64 0]) := by
  refine ACalls.intro T.burrowref24_Install (by simp [F.burrowref24_Install]) ?_
  have hsl := h.sls.len h.pks.1
  have hni : ¬ (i : Int) < 0 := by omega
  have hn0 : ¬ s.loc = 0 := by omega
  have hru := h.ru
  have hx : d.peers[i]? = some d.peers[i] := List.getElem?_eq_getElem hi
  have hw : IntKind.i64.wrap (3 * d.rules.rejt) = 3 * d.rules.rejt := by
    obtain ⟨h1, h2, h3, h4, h5, h6, h7, h8, h9, h10, h11, _⟩ := hru
    exact wrap_i64 (by omega)
  simp [F.burrowref24_Install, argEnv, fpBx]
  refine callS.ret (Valid_t h) (by simp) (by simp) (by simp) ?_
  simp
  refine callS.ret (find_k h.pks hi) (by simp) (by simp) (by simp) ?_
  simp [hni]
  refine callS.ret (FindSlot_no (l := d.slots) (by omega) hfr) (by simp) (by simp) (by simp) ?_
  simp [hn0]
  refine callS.ret (sound_t hs) (by simp) (by simp) (by simp) ?_
  simp
  refine callS.gen [] [47] [] (burrowref24_Copy h.sml) (by simp [getAll]) (by simp) (by simp) (by simp [refsOkL]) (by simp) (by simp [renL]) (by simp) (by simp [refsOkB, refsOk, inFp]) ?_
  simp [putAll, renB, ren, ren2, hx, hi]
  obtain ⟨PS, hPS⟩ : ∃ PS, PS = d.peers.set i (pR d.peers[i] (instR d.peers[i].ring s own)) := ⟨_, rfl⟩
  have hPl : PS.length = d.peers.length := by rw [hPS, List.length_set]
  obtain ⟨SD, hSD⟩ : ∃ SD, SD = dropAll d.slots (instDr d.peers[i].ring own) := ⟨_, rfl⟩
  have hSDl : SD.length ≤ 9 := by have := dropAll_le (instDr d.peers[i].ring own) d.slots; rw [← hSD] at this; omega
  have hT := Take (l := SD) (by omega) h1 (fun x hx => hfr x (by rw [hSD] at hx; exact mem_dropAll hx)) (kOf i) true
  obtain ⟨SL, hSL⟩ : ∃ SL, SL = putS SD ⟨s.loc, kOf i, true⟩ := ⟨_, rfl⟩
  rw [← hSL] at hT
  have hPi : PS[i].pub = kOf i := by
    simp only [hPS, List.getElem_set_self]; exact h.pks.2 i hi
  have htl := h.tis.len
  have hn0' := h.n0
  have hn1' := h.n1
  obtain ⟨q1, q2, q3, q4, q5, q6, q7, q8, q9, q10, q11, _⟩ := hru
  cases own with
  | true =>
    have hset : (List.map encPe d.peers).set i (encPe { d.peers[i] with ring := beginR d.peers[i].ring s }) = PS.map encPe := by
      rw [hPS, List.map_set]; rfl
    have hD := machine_drop (d := d) (by omega) (l := beginD d.peers[i].ring) (instDr_le d.peers[i].ring true) PS
    have hSD2 : dropAll d.slots (beginD d.peers[i].ring) = SD := by rw [hSD]; rfl
    have hS := machine_set (d := dSl d SL) (by show d.timers.length ≤ 1048575; omega) (ps := PS) (i := i) (by omega) 5 (n := 3 * d.rules.rejt) h.n0 h.n1 (by omega) (by omega)
    rw [hPi] at hS
    rw [hPl] at hD hS
    dsimp only at hset
    simp [mch_e]
    refine callT.ret (burrowref22_Begin d.peers[i].ring s) (by simp) (by simp) (by simp) ?_
    simp [hx, hi]
    rw [hset]
    refine callS.gen [13, 47] [] [.box (mch d (.rs 47 [] 0 d.peers.length d.peers.length 464 .tip)), .arr 464 (PS.map encPe)] hD (by simp [getAll]) (by simp) (by simp) (by simp [refsOkL, refsOk, inKs, idx, (pure_encU _).refs]) (by simp [refsOkB, refsOk, inKs, idx]) (by simp [renL, ren, ren1, idx, (pure_encU _).ren]) (by simp [renB, ren, ren1, idx]) (by simp [refsOkB, refsOk, inFp]) ?_
    simp [putAll, renB, ren, ren2, hSD2]
    refine callS.ret hT (by simp) (by simp) (by simp) ?_
    simp [hw]
    refine callS.gen [13, 47] [] [.box (mch (dSl d SL) (.rs 47 [] 0 d.peers.length d.peers.length 464 .tip)), .arr 464 (PS.map encPe)] hS (by simp [getAll]; rfl) (by simp) (by simp) (by simp [refsOkL, refsOk, inKs, idx]) (by simp [refsOkB, refsOk, inKs, idx]) (by simp [renL, ren, ren1, idx]) (by simp [renB, ren, ren1, idx]) (by simp [refsOkB, refsOk, inFp]) ?_
    simp [putAll, renB, ren, ren2]
    refine RetS.plain [.keep [8, 9], .dr 13, .fz 47] ?_
    simp [refsEnv, refsBx, refsOk, refsOkB]
    have ht : List.take d.peers.length (List.map encPe PS) = List.map encPe PS := List.take_of_length_le (by simp [hPl])
    rw [if_pos ⟨hPl.symm, Nat.le_of_eq hPl.symm⟩, ht]
    refine ⟨pure_encDo _ (by simp), ?_⟩
    have he : instD d i hi s true = { dTi (dSl d SL) (setT (dSl d SL).timers ⟨(dSl d SL).now + 3 * d.rules.rejt, kOf i, 5⟩) with peers := PS } := by
      simp only [instD, hPS, hSL, hSD, dTi, dSl]
    rw [he]
    rfl
  | false =>
    have hset : (List.map encPe d.peers).set i (encPe { d.peers[i] with ring := ansR d.peers[i].ring s }) = PS.map encPe := by
      rw [hPS, List.map_set]; rfl
    have hD := machine_drop (d := d) (by omega) (l := ansD d.peers[i].ring) (instDr_le d.peers[i].ring false) PS
    have hSD2 : dropAll d.slots (ansD d.peers[i].ring) = SD := by rw [hSD]; rfl
    have hS := machine_set (d := dSl d SL) (by show d.timers.length ≤ 1048575; omega) (ps := PS) (i := i) (by omega) 5 (n := 3 * d.rules.rejt) h.n0 h.n1 (by omega) (by omega)
    rw [hPi] at hS
    rw [hPl] at hD hS
    dsimp only at hset
    simp [mch_e]
    refine callT.ret (burrowref22_Answer d.peers[i].ring s) (by simp) (by simp) (by simp) ?_
    simp [hx, hi]
    rw [hset]
    refine callS.gen [13, 47] [] [.box (mch d (.rs 47 [] 0 d.peers.length d.peers.length 464 .tip)), .arr 464 (PS.map encPe)] hD (by simp [getAll]) (by simp) (by simp) (by simp [refsOkL, refsOk, inKs, idx, (pure_encU _).refs]) (by simp [refsOkB, refsOk, inKs, idx]) (by simp [renL, ren, ren1, idx, (pure_encU _).ren]) (by simp [renB, ren, ren1, idx]) (by simp [refsOkB, refsOk, inFp]) ?_
    simp [putAll, renB, ren, ren2, hSD2]
    refine callS.ret hT (by simp) (by simp) (by simp) ?_
    simp [hw]
    refine callS.gen [13, 47] [] [.box (mch (dSl d SL) (.rs 47 [] 0 d.peers.length d.peers.length 464 .tip)), .arr 464 (PS.map encPe)] hS (by simp [getAll]; rfl) (by simp) (by simp) (by simp [refsOkL, refsOk, inKs, idx]) (by simp [refsOkB, refsOk, inKs, idx]) (by simp [renL, ren, ren1, idx]) (by simp [renB, ren, ren1, idx]) (by simp [refsOkB, refsOk, inFp]) ?_
    simp [putAll, renB, ren, ren2]
    refine RetS.plain [.keep [8, 9], .dr 13, .fz 47] ?_
    simp [refsEnv, refsBx, refsOk, refsOkB]
    have ht : List.take d.peers.length (List.map encPe PS) = List.map encPe PS := List.take_of_length_le (by simp [hPl])
    rw [if_pos ⟨hPl.symm, Nat.le_of_eq hPl.symm⟩, ht]
    refine ⟨pure_encDo _ (by simp), ?_⟩
    have he : instD d i hi s false = { dTi (dSl d SL) (setT (dSl d SL).timers ⟨(dSl d SL).now + 3 * d.rules.rejt, kOf i, 5⟩) with peers := PS } := by
      simp only [instD, hPS, hSL, hSD, dTi, dSl]
    rw [he]
    rfl
end Go.Ab
end G7s
namespace Go.Ab
open Go.Ab
theorem SortS_iff {l : List Slt} : SortS l ↔ (∀ s ∈ l, s.index ≠ 0) ∧ l.Pairwise (fun a b => a.index < b.index) := by
  constructor
  · intro h
    refine ⟨fun s hs => ?_, List.pairwise_iff_getElem.2 (fun i j hi hj hij => h.lt' hij hj)⟩
    obtain ⟨i, hi, rfl⟩ := List.mem_iff_getElem.1 hs
    exact h.1 i hi
  · rintro ⟨h1, h2⟩
    exact ⟨fun i hi => h1 _ (List.getElem_mem hi), fun i hi => List.pairwise_iff_getElem.1 h2 i (i + 1) (by omega) hi (by omega)⟩
theorem putS_nil (s : Slt) : putS [] s = [s] := rfl
theorem putS_cons (a : Slt) (l : List Slt) (s : Slt) : putS (a :: l) s = if a.index < s.index then a :: putS l s else s :: a :: l := by
  unfold putS
  by_cases h : a.index < s.index <;> simp [posS, h]
theorem putS_perm (s : Slt) : ∀ l, (putS l s).Perm (s :: l)
  | [] => .refl _
  | a :: l => by
    rw [putS_cons]; split
    · exact ((putS_perm s l).cons a).trans (.swap s a l)
    · exact .refl _
theorem putS_sort {s : Slt} : ∀ {l : List Slt}, l.Pairwise (fun a b => a.index < b.index) → (∀ x ∈ l, x.index ≠ s.index) → (putS l s).Pairwise (fun a b => a.index < b.index)
  | [], _, _ => by simp [putS_nil]
  | a :: l, h, hn => by
    obtain ⟨h1, h2⟩ := List.pairwise_cons.1 h
    have hna := hn a (by simp)
    rw [putS_cons]; split
    · rename_i hlt
      refine List.pairwise_cons.2 ⟨fun x hx => ?_, putS_sort h2 (fun x hx => hn x (by simp [hx]))⟩
      rcases List.mem_cons.1 ((putS_perm s l).mem_iff.1 hx) with rfl | hx
      · exact hlt
      · exact h1 x hx
    · rename_i hlt
      refine List.pairwise_cons.2 ⟨fun x hx => ?_, h⟩
      rcases List.mem_cons.1 hx with rfl | hx
      · omega
      · have := h1 x hx; omega
theorem dropAll_eq : ∀ (l : List Int) (s : List Slt), dropAll s l = s.filter (fun x => decide (x.index ∉ l))
  | [], s => by
    have : s.filter (fun x => decide (x.index ∉ ([] : List Int))) = s := List.filter_eq_self.2 (by simp)
    rw [this]; rfl
  | y :: l, s => by
    have h : dropAll s (y :: l) = dropAll (s.filter (neS y)) l := rfl
    rw [h, dropAll_eq l, List.filter_filter]
    congr 1; funext x
    by_cases h1 : x.index = y <;> by_cases h2 : x.index ∈ l <;> simp [neS, h1, h2]
theorem instR_perm (r : Rng) (s : Ses) (own : Bool) (h : (lc3 r).Nodup) :
    (lc3 (instR r s own)).Perm (s.loc :: (lc3 r).filter (fun x => decide (x ∉ instDr r own))) := by
  obtain ⟨⟨ph, ps⟩, ⟨ch, cs⟩, ⟨nh, ns⟩⟩ := r
  cases own <;> cases ph <;> cases ch <;> cases nh <;>
    simp_all [lc3, lcl, instR, instDr, beginR, beginD, ansR, ansD, cln, zPlc, List.filter_cons] <;>
    first
      | exact List.Perm.swap _ _ _
      | (rw [if_neg (fun e => h e.symm)]; exact List.Perm.swap _ _ _)
      | (rw [if_neg (fun e => h.1.1 e.symm)]; exact List.Perm.swap _ _ _)
      | (rw [if_pos ⟨fun e => h.1.2 e.symm, fun e => h.2 e.symm⟩]; exact List.Perm.swap _ _ _)
theorem instDr_sub {r : Rng} {own : Bool} {x : Int} (h : x ∈ instDr r own) : x ∈ lc3 r := by
  obtain ⟨⟨ph, ps⟩, ⟨ch, cs⟩, ⟨nh, ns⟩⟩ := r
  cases own <;> cases ph <;> cases ch <;> cases nh <;>
    simp_all [lc3, lcl, instDr, beginD, ansD, List.filter_cons] <;> first | done | (rcases h with h | h <;> simp [h])
theorem split_at {α : Type} {l : List α} {i : Nat} (h : i < l.length) : l = l.take i ++ l[i] :: l.drop (i + 1) := by
  rw [← List.drop_eq_getElem_cons h, List.take_append_drop]
theorem set_split {α : Type} {l : List α} {i : Nat} (h : i < l.length) (x : α) : l.set i x = l.take i ++ x :: l.drop (i + 1) := by
  rw [List.set_eq_take_append_cons_drop, if_pos h]
theorem slOf_pR (p : Per) (r : Rng) : slOf (pR p r) = (lc3 r).map (fun x => ⟨x, p.pub, true⟩) := rfl
theorem SlsOk.inst {d : Dmn} (h : SlsOk d) {i : Nat} (hi : i < d.peers.length) (hk : d.peers[i].pub = kOf i) {s : Ses} (h1 : 1 ≤ s.loc) (hfr : ∀ x ∈ d.slots, x.index ≠ s.loc) (own : Bool) : SlsOk (instD d i hi s own) := by
  obtain ⟨hs1, hs2⟩ := SortS_iff.1 h.so
  have hnd := h.nd
  have hpm := h.pm
  have hE : dropAll d.slots (instDr d.peers[i].ring own) = d.slots.filter (fun x => decide (x.index ∉ instDr d.peers[i].ring own)) := dropAll_eq _ _
  constructor
  · show SortS (putS (dropAll d.slots (instDr d.peers[i].ring own)) ⟨s.loc, kOf i, true⟩)
    rw [SortS_iff, hE]
    refine ⟨fun x hx => ?_, putS_sort (hs2.filter _) (fun x hx => hfr x (List.mem_filter.1 hx).1)⟩
    rcases List.mem_cons.1 ((putS_perm _ _).mem_iff.1 hx) with rfl | hx
    · show s.loc ≠ 0; omega
    · exact hs1 x (List.mem_filter.1 hx).1
  · show (putS (dropAll d.slots (instDr d.peers[i].ring own)) ⟨s.loc, kOf i, true⟩).Perm ((d.peers.set i (pR d.peers[i] (instR d.peers[i].ring s own))).flatMap slOf)
    rw [hE]
    refine (putS_perm _ _).trans ?_
    rw [set_split hi, List.flatMap_append, List.flatMap_cons, slOf_pR]
    have hsp := split_at hi
    obtain ⟨A, hA⟩ : ∃ A, A = d.peers.take i := ⟨_, rfl⟩
    obtain ⟨B, hB⟩ : ∃ B, B = d.peers.drop (i + 1) := ⟨_, rfl⟩
    obtain ⟨p, hp⟩ : ∃ p, p = d.peers[i] := ⟨_, rfl⟩
    rw [← hA, ← hB, ← hp] at hsp
    rw [← hA, ← hB, ← hp]
    rw [← hp] at hk
    rw [hsp, List.flatMap_append, List.flatMap_cons] at hpm hnd
    have hn1 := List.nodup_append.1 hnd
    have hn2 := List.nodup_append.1 hn1.2.1
    have hI := instR_perm p.ring s own hn2.1
    have hf := hpm.filter (fun x => decide (x.index ∉ instDr p.ring own))
    have key : ∀ {l : List Per}, (∀ q ∈ l, ∀ x ∈ lc3 q.ring, x ∉ lc3 p.ring) → (l.flatMap slOf).filter (fun x => decide (x.index ∉ instDr p.ring own)) = l.flatMap slOf := by
      intro l hl
      refine List.filter_eq_self.2 (fun x hx => ?_)
      obtain ⟨q, hq, hx⟩ := List.mem_flatMap.1 hx
      obtain ⟨y, hy, rfl⟩ := List.mem_map.1 hx
      simp only [decide_eq_true_eq]
      exact fun hd => hl q hq y hy (instDr_sub hd)
    have kA := key (l := A) (fun q hq x hx hxp => hn1.2.2 x (List.mem_flatMap.2 ⟨q, hq, hx⟩) x (List.mem_append.2 (.inl hxp)) rfl)
    have kB := key (l := B) (fun q hq x hx hxp => hn2.2.2 x hxp x (List.mem_flatMap.2 ⟨q, hq, hx⟩) rfl)
    have kp : (slOf p).filter (fun x => decide (x.index ∉ instDr p.ring own)) = ((lc3 p.ring).filter (fun x => decide (x ∉ instDr p.ring own))).map (fun x => ⟨x, p.pub, true⟩) := by
      unfold slOf; rw [List.filter_map]; rfl
    rw [List.filter_append, List.filter_append, kA, kB, kp] at hf
    have hI2 := hI.map (fun x => (⟨x, p.pub, true⟩ : Slt))
    refine ((hf.cons _).trans ?_)
    refine List.Perm.trans ?_ ((hI2.symm.append_right _).append_left _)
    rw [List.map_cons, hk, List.cons_append]
    exact List.perm_middle.symm
end Go.Ab
noncomputable section G9s
namespace Go.Ab
open Go.Ab
def Tok (t : Tmr) : Prop := ∃ i, i < 3 ∧ t.peer = kOf i
theorem lessT_iff {a b : Tmr} {i j : Nat} (hi : i < 3) (hj : j < 3) (ha : a.peer = kOf i) (hb : b.peer = kOf j) :
    lessT a b = true ↔ a.at_ < b.at_ ∨ a.at_ = b.at_ ∧ (i < j ∨ i = j ∧ a.kind < b.kind) := by
  unfold lessT
  by_cases h1 : a.at_ = b.at_
  · by_cases h2 : i = j
    · subst h2
      have : a.peer = b.peer := by rw [ha, hb]
      simp [h1, this]
    · have h3 : ¬ a.peer = b.peer := by rw [ha, hb]; exact fun e => h2 (kOf_inj hi hj e)
      rcases Nat.lt_or_gt_of_ne h2 with h4 | h4
      · have := kOf_lt h4 hj
        simp [h1, h3, ha, hb, this, h4]
        exact Or.inl (fun e => h2 (kOf_inj hi hj e))
      · have h5 : ltK (kOf i) (kOf j) = false := by
          rcases (by omega : i = 1 ∧ j = 0 ∨ i = 2 ∧ j = 0 ∨ i = 2 ∧ j = 1) with ⟨rfl, rfl⟩ | ⟨rfl, rfl⟩ | ⟨rfl, rfl⟩ <;> rfl
        have h6 : ¬ i < j := by omega
        simp [h1, h3, ha, hb, h5, h6, h2]
        intro e; exact absurd (kOf_inj hi hj e) h2
  · simp [h1]
def insT (t : Tmr) : List Tmr → List Tmr
  | [] => [t]
  | x :: r => if lessT t x = true then t :: x :: r else x :: insT t r
theorem setT_eq (l : List Tmr) (t : Tmr) : setT l t = insT t (cancelT l t.peer t.kind) := by
  have : ∀ r : List Tmr, r.take (posT t r) ++ [t] ++ r.drop (posT t r) = insT t r := by
    intro r
    induction r with
    | nil => rfl
    | cons x r ih =>
      by_cases h : lessT t x = true
      · simp [posT, insT, h]
      · simp [posT, insT, h] at ih ⊢
        exact ih
  exact this _
theorem insT_perm (t : Tmr) : ∀ l, (insT t l).Perm (t :: l)
  | [] => .refl _
  | x :: l => by
    simp only [insT]; split
    · exact .refl _
    · exact ((insT_perm t l).cons x).trans (.swap t x l)
theorem insT_sort {t : Tmr} (ht : Tok t) : ∀ {l : List Tmr}, (∀ x ∈ l, Tok x) → (∀ x ∈ l, ¬ (x.peer = t.peer ∧ x.kind = t.kind)) → l.Pairwise (fun a b => lessT a b = true) → (insT t l).Pairwise (fun a b => lessT a b = true)
  | [], _, _, _ => by simp [insT]
  | x :: l, hT, hn, h => by
    obtain ⟨h1, h2⟩ := List.pairwise_cons.1 h
    obtain ⟨i, hi, hti⟩ := ht
    obtain ⟨j, hj, hxj⟩ := hT x (by simp)
    have hxn := hn x (by simp)
    simp only [insT]; split
    · rename_i hlt
      refine List.pairwise_cons.2 ⟨fun y hy => ?_, h⟩
      rcases List.mem_cons.1 hy with rfl | hy
      · exact hlt
      · obtain ⟨k, hk, hyk⟩ := hT y (by simp [hy])
        have := h1 y hy
        rw [lessT_iff hj hk hxj hyk] at this
        rw [lessT_iff hi hj hti hxj] at hlt
        rw [lessT_iff hi hk hti hyk]
        omega
    · rename_i hlt
      refine List.pairwise_cons.2 ⟨fun y hy => ?_, insT_sort ⟨i, hi, hti⟩ (fun z hz => hT z (by simp [hz])) (fun z hz => hn z (by simp [hz])) h2⟩
      rcases List.mem_cons.1 ((insT_perm t l).mem_iff.1 hy) with rfl | hy
      · rw [lessT_iff hi hj hti hxj] at hlt
        rw [lessT_iff hj hi hxj hti]
        have hne : ¬ (j = i ∧ x.kind = y.kind) := fun e => hxn ⟨by rw [hxj, hti, e.1], e.2⟩
        omega
      · exact h1 y hy
structure TisOk' (d : Dmn) (l : List Tmr) (m : Nat) : Prop where
  so : l.Pairwise (fun a b => lessT a b = true)
  rg : ∀ t ∈ l, 2 ≤ t.kind ∧ t.kind ≤ 5 ∧ d.now < t.at_ ∧ t.at_ ≤ 4398046511104 ∧ ∃ i, ∃ h : i < d.peers.length, t.peer = kOf i ∧ (t.kind = 4 → d.peers[i].kal ≠ 0)
  un : l.Pairwise (fun a b => ¬ (b.peer = a.peer ∧ b.kind = a.kind))
  len : l.length ≤ m
theorem TisOk'.toT {d : Dmn} {m : Nat} (hm : m ≤ 1000) (h : TisOk' d d.timers m) : TisOk d where
  so := fun i hi => List.pairwise_iff_getElem.1 h.so i (i + 1) (by omega) hi (by omega)
  rg := h.rg
  un := fun i j hi hj hij => List.pairwise_iff_getElem.1 h.un i j hi hj hij
  len := Nat.le_trans h.len hm
theorem mem_cancelT {l : List Tmr} {k : Key} {n : Int} {x : Tmr} (h : x ∈ cancelT l k n) : x ∈ l ∧ ¬ (x.peer = k ∧ x.kind = n) := by
  obtain ⟨h1, h2⟩ := List.mem_filter.1 h
  refine ⟨h1, fun e => ?_⟩
  simp [notT, e.1, e.2] at h2
theorem TisOk'.set {d : Dmn} {l : List Tmr} {m : Nat} (h : TisOk' d l m) (hp : d.peers.length ≤ 3) {t : Tmr} (k1 : 2 ≤ t.kind) (k2 : t.kind ≤ 5) (a1 : d.now < t.at_) (a2 : t.at_ ≤ 4398046511104) {i : Nat} (hi : i < d.peers.length) (ht : t.peer = kOf i) (h4 : t.kind = 4 → d.peers[i].kal ≠ 0) : TisOk' d (setT l t) (m + 1) := by
  have hTok : ∀ x ∈ l, Tok x := fun x hx => by obtain ⟨_, _, _, _, j, hj, e, _⟩ := h.rg x hx; exact ⟨j, by omega, e⟩
  have htk : Tok t := ⟨i, by omega, ht⟩
  rw [setT_eq]
  have hc : ∀ x ∈ cancelT l t.peer t.kind, x ∈ l ∧ ¬ (x.peer = t.peer ∧ x.kind = t.kind) := fun x hx => mem_cancelT hx
  have hperm := insT_perm t (cancelT l t.peer t.kind)
  constructor
  · exact insT_sort htk (fun x hx => hTok x (hc x hx).1) (fun x hx => (hc x hx).2) (h.so.filter _)
  · intro x hx
    rcases List.mem_cons.1 (hperm.mem_iff.1 hx) with rfl | hx
    · exact ⟨k1, k2, a1, a2, i, hi, ht, h4⟩
    · exact h.rg x (hc x hx).1
  · have hsym : ∀ {a b : Tmr}, ¬ (b.peer = a.peer ∧ b.kind = a.kind) → ¬ (a.peer = b.peer ∧ a.kind = b.kind) := fun hn e => hn ⟨e.1.symm, e.2.symm⟩
    refine (hperm.pairwise_iff hsym).2 (List.pairwise_cons.2 ⟨fun x hx => (hc x hx).2, h.un.filter _⟩)
  · rw [hperm.length_eq, List.length_cons]
    have : (cancelT l t.peer t.kind).length ≤ l.length := List.length_filter_le _ _
    have := h.len
    omega
structure VM (d : Dmn) (m : Nat) : Prop where
  vd : VD d
  ti : TisOk' d d.timers m
theorem SesOk.of {d e : Dmn} (hn : e.now = d.now) (hr : e.rules = d.rules) {s : Ses} (h : SesOk d s) : SesOk e s := by
  obtain ⟨h1, h2, h3, h4, h5, h6⟩ := h
  exact ⟨h1, by rw [hn]; exact h2, by rw [hr]; exact h3, h4, h5, h6⟩
theorem PlcOk.of {d e : Dmn} (hn : e.now = d.now) (hr : e.rules = d.rules) {s : Plc} (h : PlcOk d s) : PlcOk e s := by
  rcases h with ⟨h1, h2⟩ | h
  · exact Or.inl ⟨h1, h2.of hn hr⟩
  · exact Or.inr h
theorem PlcOk.z (d : Dmn) : PlcOk d zPlc := Or.inr ⟨rfl, rfl⟩
theorem PlcOk.cln {d : Dmn} {p : Plc} (h : PlcOk d p) : PlcOk d (cln p) := by
  unfold Ab.cln; split
  · exact h
  · exact .z d
theorem PerOk.of {d e : Dmn} (hn : e.now = d.now) (hr : e.rules = d.rules) {p : Per} (h : PerOk d p) : PerOk e p := by
  obtain ⟨h1, h2, h3, h4, h5, h6, h7, h8, h9, h10, h11, h12⟩ := h
  exact ⟨h1, h2, h3, h4, h5, h6, h7, h8, h9, h10.of hn hr, h11.of hn hr, h12.of hn hr⟩
theorem PerOk.pR {d : Dmn} {p : Per} (h : PerOk d p) {r : Rng} (h1 : PlcOk d r.p) (h2 : PlcOk d r.c) (h3 : PlcOk d r.n) : PerOk d (pR p r) := by
  obtain ⟨g1, g2, g3, g4, g5, g6, g7, g8, g9, g10, g11, g12⟩ := h
  exact ⟨g1, g2, g3, g4, g5, g6, g7, g8, g9, h1, h2, h3⟩
theorem inst_plc {d : Dmn} {p : Per} (h : PerOk d p) {s : Ses} (hs : SesOk d s) (own : Bool) : PlcOk d (instR p.ring s own).p ∧ PlcOk d (instR p.ring s own).c ∧ PlcOk d (instR p.ring s own).n := by
  have hnew : PlcOk d ⟨true, s⟩ := Or.inl ⟨rfl, hs⟩
  unfold instR; split
  · unfold beginR; split
    · exact ⟨h.rn, hnew, .z d⟩
    · exact ⟨h.rc.cln, hnew, .z d⟩
  · exact ⟨.z d, h.rc, hnew⟩
theorem VM.inst {d : Dmn} {m : Nat} (h : VM d m) (hm : m ≤ 999) {i : Nat} (hi : i < d.peers.length) {s : Ses} (hs : SesOk d s) (h1 : 1 ≤ s.loc) (hfr : ∀ x ∈ d.slots, x.index ≠ s.loc) (own : Bool) : VM (instD d i hi s own) (m + 1) := by
  obtain ⟨v, t⟩ := h
  have hpl := v.pks.1
  have hki : d.peers[i].pub = kOf i := v.pks.2 i hi
  have hlen : (instD d i hi s own).peers.length = d.peers.length := List.length_set
  have hpi := inst_plc (v.per _ (List.getElem_mem hi)) hs own
  obtain ⟨q1, q2, q3, q4, q5, q6, q7, q8, q9, q10, q11, _⟩ := v.ru
  have hn0 := v.n0
  have hn1 := v.n1
  have hget : ∀ (j : Nat) (hj : j < d.peers.length) (hj' : j < (instD d i hi s own).peers.length), (instD d i hi s own).peers[j].pub = d.peers[j].pub ∧ (instD d i hi s own).peers[j].kal = d.peers[j].kal := by
    intro j hj hj'
    simp only [instD, List.getElem_set]
    split
    · rename_i e; subst e; exact ⟨rfl, rfl⟩
    · exact ⟨rfl, rfl⟩
  have ht0 := t.set hpl (t := ⟨d.now + 3 * d.rules.rejt, kOf i, 5⟩) (by show (2 : Int) ≤ 5; omega) (by show (5 : Int) ≤ 5; omega) (by show d.now < d.now + 3 * d.rules.rejt; omega) (by show d.now + 3 * d.rules.rejt ≤ 4398046511104; omega) hi rfl (fun e => absurd e (by show ¬ (5 : Int) = 4; omega))
  have ht1 : TisOk' (instD d i hi s own) (instD d i hi s own).timers (m + 1) := by
    obtain ⟨a, b, c, e⟩ := ht0
    refine ⟨a, fun x hx => ?_, c, e⟩
    obtain ⟨r1, r2, r3, r4, j, hj, r5, r6⟩ := b x hx
    exact ⟨r1, r2, r3, r4, j, by rw [hlen]; exact hj, r5, fun hk => by rw [(hget j hj _).2]; exact r6 hk⟩
  refine ⟨?_, ht1⟩
  constructor
  · exact v.ru
  · exact v.n0
  · exact v.n1
  · exact v.p0
  · exact v.p1
  · exact v.bad
  · refine ⟨by rw [hlen]; exact hpl, fun j hj => ?_⟩
    rw [(hget j (by rw [hlen] at hj; exact hj) hj).1]
    exact v.pks.2 j _
  · intro p hp
    have hp' : p ∈ d.peers.set i (Ab.pR d.peers[i] (instR d.peers[i].ring s own)) := hp
    refine PerOk.of (d := d) (e := instD d i hi s own) rfl rfl ?_
    rcases List.mem_or_eq_of_mem_set hp' with hp | rfl
    · exact v.per p hp
    · exact (v.per _ (List.getElem_mem hi)).pR hpi.1 hpi.2.1 hpi.2.2
  · exact v.rts
  · rw [hlen]; exact v.rtl
  · exact v.sls.inst hi hki h1 hfr own
  · exact ht1.toT (by omega)
  · exact v.s0
  · exact v.s1
  · exact v.rcn
  · exact v.buc
end Go.Ab
end G9s
