/- burrowref24.Install of a made daemon. -/
import Derived.Test.YtilndiilinoeiaaG6
set_option linter.all false
namespace Go.Ab
open Go.Ab
theorem VD.sml {d : Dmn} (h : VD d) : Sml d where
  peers := by have := h.pks.1; omega
  routes := by have := h.rts.1; omega
  slots := by have := h.sls.len h.pks.1; omega
  timers := by have := h.tis.len; omega
  recent := by rw [h.rcn]; simp
  buckets := by rw [h.buc]; simp
  staged := fun p hp => by rw [(h.per p hp).staged]; simp
def instR (r : Rng) (s : Ses) (own : Bool) : Rng := if own = true then beginR r s else ansR r s
def instDr (r : Rng) (own : Bool) : List Int := if own = true then beginD r else ansD r
def pR (p : Per) (r : Rng) : Per := { p with ring := r }
def instD (d : Dmn) (i : Nat) (hi : i < d.peers.length) (s : Ses) (own : Bool) : Dmn :=
  { d with peers := d.peers.set i (pR d.peers[i] (instR d.peers[i].ring s own)), slots := putS (dropAll d.slots (instDr d.peers[i].ring own)) ⟨s.loc, kOf i, true⟩, timers := setT d.timers ⟨d.now + 3 * d.rules.rejt, kOf i, 5⟩ }
theorem instDr_le (r : Rng) (own : Bool) : (instDr r own).length ≤ 8 := by
  unfold instDr beginD ansD
  split
  · split
    · exact Nat.le_trans (lcl_le _) (by simp)
    · exact Nat.le_trans (lcl_le _) (by simp)
  · exact Nat.le_trans (lcl_le _) (by simp)
theorem mem_dropAll {x : Slt} : ∀ {l : List Int} {s : List Slt}, x ∈ dropAll s l → x ∈ s
  | [], s, h => h
  | y :: l, s, h => (List.mem_filter.1 (mem_dropAll (l := l) h)).1
set_option maxRecDepth 10000 in
set_option maxHeartbeats 2000000 in
theorem Install_t {d : Dmn} (h : VD d) {i : Nat} (hi : i < d.peers.length) {s : Ses} (hs : SesOk d s) (h1 : 1 ≤ s.loc) (hfr : ∀ x ∈ d.slots, x.index ≠ s.loc) (own : Bool) :
    ARet Pg I.burrowref24_Install [encD d, encK (kOf i), encS s, .bl own] (.tup [encD (instD d i hi s own), .int .i64 0]) := by
  refine ACalls.intro T.burrowref24_Install (by simp [F.burrowref24_Install]) ?_
  have hsl := h.sls.len h.pks.1
  have hni : ¬ (i : Int) < 0 := by omega
  have hn0 : ¬ s.loc = 0 := by omega
  have hru := h.ru
  have hx : d.peers[i]? = some d.peers[i] := List.getElem?_eq_getElem hi
  have hw : IntKind.i64.wrap (3 * d.rules.rejt) = 3 * d.rules.rejt := by
    obtain ⟨h1, h2, h3, h4, h5, h6, h7, h8, h9, h10, h11, _⟩ := hru
    exact wrap_i64 (by omega)
  simp [F.burrowref24_Install, argEnv, fpBx]
  refine callS.ret (Valid_t h) (by simp) (by simp) (by simp) ?_
  simp
  refine callS.ret (find_k h.pks hi) (by simp) (by simp) (by simp) ?_
  simp [hni]
  refine callS.ret (FindSlot_no (l := d.slots) (by omega) hfr) (by simp) (by simp) (by simp) ?_
  simp [hn0]
  refine callS.ret (sound_t hs) (by simp) (by simp) (by simp) ?_
  simp
  refine callS.gen [] [47] [] (burrowref24_Copy h.sml) (by simp [getAll]) (by simp) (by simp) (by simp [refsOkL]) (by simp) (by simp [renL]) (by simp) (by simp [refsOkB, refsOk, inFp]) ?_
  simp [putAll, renB, ren, ren2, hx, hi]
  obtain ⟨PS, hPS⟩ : ∃ PS, PS = d.peers.set i (pR d.peers[i] (instR d.peers[i].ring s own)) := ⟨_, rfl⟩
  have hPl : PS.length = d.peers.length := by rw [hPS, List.length_set]
  obtain ⟨SD, hSD⟩ : ∃ SD, SD = dropAll d.slots (instDr d.peers[i].ring own) := ⟨_, rfl⟩
  have hSDl : SD.length ≤ 9 := by have := dropAll_le (instDr d.peers[i].ring own) d.slots; rw [← hSD] at this; omega
  have hT := Take (l := SD) (by omega) h1 (fun x hx => hfr x (by rw [hSD] at hx; exact mem_dropAll hx)) (kOf i) true
  obtain ⟨SL, hSL⟩ : ∃ SL, SL = putS SD ⟨s.loc, kOf i, true⟩ := ⟨_, rfl⟩
  rw [← hSL] at hT
  have hPi : PS[i].pub = kOf i := by
    simp only [hPS, List.getElem_set_self]; exact h.pks.2 i hi
  have htl := h.tis.len
  have hn0' := h.n0
  have hn1' := h.n1
  obtain ⟨q1, q2, q3, q4, q5, q6, q7, q8, q9, q10, q11, _⟩ := hru
  cases own with
  | true =>
    have hset : (List.map encPe d.peers).set i (encPe { d.peers[i] with ring := beginR d.peers[i].ring s }) = PS.map encPe := by
      rw [hPS, List.map_set]; rfl
    have hD := machine_drop (d := d) (by omega) (l := beginD d.peers[i].ring) (instDr_le d.peers[i].ring true) PS
    have hSD2 : dropAll d.slots (beginD d.peers[i].ring) = SD := by rw [hSD]; rfl
    have hS := machine_set (d := dSl d SL) (by show d.timers.length ≤ 1048575; omega) (ps := PS) (i := i) (by omega) 5 (n := 3 * d.rules.rejt) h.n0 h.n1 (by omega) (by omega)
    rw [hPi] at hS
    rw [hPl] at hD hS
    dsimp only at hset
    simp [mch_e]
    refine callT.ret (burrowref22_Begin d.peers[i].ring s) (by simp) (by simp) (by simp) ?_
    simp [hx, hi]
    rw [hset]
    refine callS.gen [13, 47] [] [.box (mch d (.rs 47 [] 0 d.peers.length d.peers.length 464 .tip)), .arr 464 (PS.map encPe)] hD (by simp [getAll]) (by simp) (by simp) (by simp [refsOkL, refsOk, inKs, idx, (pure_encU _).refs]) (by simp [refsOkB, refsOk, inKs, idx]) (by simp [renL, ren, ren1, idx, (pure_encU _).ren]) (by simp [renB, ren, ren1, idx]) (by simp [refsOkB, refsOk, inFp]) ?_
    simp [putAll, renB, ren, ren2, hSD2]
    refine callS.ret hT (by simp) (by simp) (by simp) ?_
    simp [hw]
    refine callS.gen [13, 47] [] [.box (mch (dSl d SL) (.rs 47 [] 0 d.peers.length d.peers.length 464 .tip)), .arr 464 (PS.map encPe)] hS (by simp [getAll]; rfl) (by simp) (by simp) (by simp [refsOkL, refsOk, inKs, idx]) (by simp [refsOkB, refsOk, inKs, idx]) (by simp [renL, ren, ren1, idx]) (by simp [renB, ren, ren1, idx]) (by simp [refsOkB, refsOk, inFp]) ?_
    simp [putAll, renB, ren, ren2]
    refine RetS.plain [.keep [8, 9], .dr 13, .fz 47] ?_
    simp [refsEnv, refsBx, refsOk, refsOkB]
    have ht : List.take d.peers.length (List.map encPe PS) = List.map encPe PS := List.take_of_length_le (by simp [hPl])
    rw [if_pos ⟨hPl.symm, Nat.le_of_eq hPl.symm⟩, ht]
    refine ⟨pure_encDo _ (by simp), ?_⟩
    have he : instD d i hi s true = { dTi (dSl d SL) (setT (dSl d SL).timers ⟨(dSl d SL).now + 3 * d.rules.rejt, kOf i, 5⟩) with peers := PS } := by
      simp only [instD, hPS, hSL, hSD, dTi, dSl]
    rw [he]
    rfl
  | false =>
    have hset : (List.map encPe d.peers).set i (encPe { d.peers[i] with ring := ansR d.peers[i].ring s }) = PS.map encPe := by
      rw [hPS, List.map_set]; rfl
    have hD := machine_drop (d := d) (by omega) (l := ansD d.peers[i].ring) (instDr_le d.peers[i].ring false) PS
    have hSD2 : dropAll d.slots (ansD d.peers[i].ring) = SD := by rw [hSD]; rfl
    have hS := machine_set (d := dSl d SL) (by show d.timers.length ≤ 1048575; omega) (ps := PS) (i := i) (by omega) 5 (n := 3 * d.rules.rejt) h.n0 h.n1 (by omega) (by omega)
    rw [hPi] at hS
    rw [hPl] at hD hS
    dsimp only at hset
    simp [mch_e]
    refine callT.ret (burrowref22_Answer d.peers[i].ring s) (by simp) (by simp) (by simp) ?_
    simp [hx, hi]
    rw [hset]
    refine callS.gen [13, 47] [] [.box (mch d (.rs 47 [] 0 d.peers.length d.peers.length 464 .tip)), .arr 464 (PS.map encPe)] hD (by simp [getAll]) (by simp) (by simp) (by simp [refsOkL, refsOk, inKs, idx, (pure_encU _).refs]) (by simp [refsOkB, refsOk, inKs, idx]) (by simp [renL, ren, ren1, idx, (pure_encU _).ren]) (by simp [renB, ren, ren1, idx]) (by simp [refsOkB, refsOk, inFp]) ?_
    simp [putAll, renB, ren, ren2, hSD2]
    refine callS.ret hT (by simp) (by simp) (by simp) ?_
    simp [hw]
    refine callS.gen [13, 47] [] [.box (mch (dSl d SL) (.rs 47 [] 0 d.peers.length d.peers.length 464 .tip)), .arr 464 (PS.map encPe)] hS (by simp [getAll]; rfl) (by simp) (by simp) (by simp [refsOkL, refsOk, inKs, idx]) (by simp [refsOkB, refsOk, inKs, idx]) (by simp [renL, ren, ren1, idx]) (by simp [renB, ren, ren1, idx]) (by simp [refsOkB, refsOk, inFp]) ?_
    simp [putAll, renB, ren, ren2]
    refine RetS.plain [.keep [8, 9], .dr 13, .fz 47] ?_
    simp [refsEnv, refsBx, refsOk, refsOkB]
    have ht : List.take d.peers.length (List.map encPe PS) = List.map encPe PS := List.take_of_length_le (by simp [hPl])
    rw [if_pos ⟨hPl.symm, Nat.le_of_eq hPl.symm⟩, ht]
    refine ⟨pure_encDo _ (by simp), ?_⟩
    have he : instD d i hi s false = { dTi (dSl d SL) (setT (dSl d SL).timers ⟨(dSl d SL).now + 3 * d.rules.rejt, kOf i, 5⟩) with peers := PS } := by
      simp only [instD, hPS, hSL, hSD, dTi, dSl]
    rw [he]
    rfl
end Go.Ab
