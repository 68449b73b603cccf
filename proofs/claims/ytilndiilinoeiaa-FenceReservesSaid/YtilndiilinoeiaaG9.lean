/- Setting a timer keeps a made daemon valid; so does installing. No program in sight. -/
import Derived.Test.YtilndiilinoeiaaG8
set_option linter.all false
namespace Go.Ab
open Go.Ab
/-- a timer of one of three peers -/
def Tok (t : Tmr) : Prop := ∃ i, i < 3 ∧ t.peer = kOf i
theorem lessT_iff {a b : Tmr} {i j : Nat} (hi : i < 3) (hj : j < 3) (ha : a.peer = kOf i) (hb : b.peer = kOf j) :
    lessT a b = true ↔ a.at_ < b.at_ ∨ a.at_ = b.at_ ∧ (i < j ∨ i = j ∧ a.kind < b.kind) := by
  unfold lessT
  by_cases h1 : a.at_ = b.at_
  · by_cases h2 : i = j
    · subst h2
      have : a.peer = b.peer := by rw [ha, hb]
      simp [h1, this]
    · have h3 : ¬ a.peer = b.peer := by rw [ha, hb]; exact fun e => h2 (kOf_inj hi hj e)
      rcases Nat.lt_or_gt_of_ne h2 with h4 | h4
      · have := kOf_lt h4 hj
        simp [h1, h3, ha, hb, this, h4]
        exact Or.inl (fun e => h2 (kOf_inj hi hj e))
      · have h5 : ltK (kOf i) (kOf j) = false := by
          rcases (by omega : i = 1 ∧ j = 0 ∨ i = 2 ∧ j = 0 ∨ i = 2 ∧ j = 1) with ⟨rfl, rfl⟩ | ⟨rfl, rfl⟩ | ⟨rfl, rfl⟩ <;> rfl
        have h6 : ¬ i < j := by omega
        simp [h1, h3, ha, hb, h5, h6, h2]
        intro e; exact absurd (kOf_inj hi hj e) h2
  · simp [h1]
/-- a timer put into a list -/
def insT (t : Tmr) : List Tmr → List Tmr
  | [] => [t]
  | x :: r => if lessT t x = true then t :: x :: r else x :: insT t r
theorem setT_eq (l : List Tmr) (t : Tmr) : setT l t = insT t (cancelT l t.peer t.kind) := by
  have : ∀ r : List Tmr, r.take (posT t r) ++ [t] ++ r.drop (posT t r) = insT t r := by
    intro r
    induction r with
    | nil => rfl
    | cons x r ih =>
      by_cases h : lessT t x = true
      · simp [posT, insT, h]
      · simp [posT, insT, h] at ih ⊢
        exact ih
  exact this _
theorem insT_perm (t : Tmr) : ∀ l, (insT t l).Perm (t :: l)
  | [] => .refl _
  | x :: l => by
    simp only [insT]; split
    · exact .refl _
    · exact ((insT_perm t l).cons x).trans (.swap t x l)
theorem insT_sort {t : Tmr} (ht : Tok t) : ∀ {l : List Tmr}, (∀ x ∈ l, Tok x) → (∀ x ∈ l, ¬ (x.peer = t.peer ∧ x.kind = t.kind)) → l.Pairwise (fun a b => lessT a b = true) → (insT t l).Pairwise (fun a b => lessT a b = true)
  | [], _, _, _ => by simp [insT]
  | x :: l, hT, hn, h => by
    obtain ⟨h1, h2⟩ := List.pairwise_cons.1 h
    obtain ⟨i, hi, hti⟩ := ht
    obtain ⟨j, hj, hxj⟩ := hT x (by simp)
    have hxn := hn x (by simp)
    simp only [insT]; split
    · rename_i hlt
      refine List.pairwise_cons.2 ⟨fun y hy => ?_, h⟩
      rcases List.mem_cons.1 hy with rfl | hy
      · exact hlt
      · obtain ⟨k, hk, hyk⟩ := hT y (by simp [hy])
        have := h1 y hy
        rw [lessT_iff hj hk hxj hyk] at this
        rw [lessT_iff hi hj hti hxj] at hlt
        rw [lessT_iff hi hk hti hyk]
        omega
    · rename_i hlt
      refine List.pairwise_cons.2 ⟨fun y hy => ?_, insT_sort ⟨i, hi, hti⟩ (fun z hz => hT z (by simp [hz])) (fun z hz => hn z (by simp [hz])) h2⟩
      rcases List.mem_cons.1 ((insT_perm t l).mem_iff.1 hy) with rfl | hy
      · rw [lessT_iff hi hj hti hxj] at hlt
        rw [lessT_iff hj hi hxj hti]
        have hne : ¬ (j = i ∧ x.kind = y.kind) := fun e => hxn ⟨by rw [hxj, hti, e.1], e.2⟩
        omega
      · exact h1 y hy
structure TisOk' (d : Dmn) (l : List Tmr) (m : Nat) : Prop where
  so : l.Pairwise (fun a b => lessT a b = true)
  rg : ∀ t ∈ l, 2 ≤ t.kind ∧ t.kind ≤ 5 ∧ d.now < t.at_ ∧ t.at_ ≤ 4398046511104 ∧ ∃ i, ∃ h : i < d.peers.length, t.peer = kOf i ∧ (t.kind = 4 → d.peers[i].kal ≠ 0)
  un : l.Pairwise (fun a b => ¬ (b.peer = a.peer ∧ b.kind = a.kind))
  len : l.length ≤ m
theorem TisOk'.toT {d : Dmn} {m : Nat} (hm : m ≤ 1000) (h : TisOk' d d.timers m) : TisOk d where
  so := fun i hi => List.pairwise_iff_getElem.1 h.so i (i + 1) (by omega) hi (by omega)
  rg := h.rg
  un := fun i j hi hj hij => List.pairwise_iff_getElem.1 h.un i j hi hj hij
  len := Nat.le_trans h.len hm
theorem mem_cancelT {l : List Tmr} {k : Key} {n : Int} {x : Tmr} (h : x ∈ cancelT l k n) : x ∈ l ∧ ¬ (x.peer = k ∧ x.kind = n) := by
  obtain ⟨h1, h2⟩ := List.mem_filter.1 h
  refine ⟨h1, fun e => ?_⟩
  simp [notT, e.1, e.2] at h2
theorem TisOk'.set {d : Dmn} {l : List Tmr} {m : Nat} (h : TisOk' d l m) (hp : d.peers.length ≤ 3) {t : Tmr} (k1 : 2 ≤ t.kind) (k2 : t.kind ≤ 5) (a1 : d.now < t.at_) (a2 : t.at_ ≤ 4398046511104) {i : Nat} (hi : i < d.peers.length) (ht : t.peer = kOf i) (h4 : t.kind = 4 → d.peers[i].kal ≠ 0) : TisOk' d (setT l t) (m + 1) := by
  have hTok : ∀ x ∈ l, Tok x := fun x hx => by obtain ⟨_, _, _, _, j, hj, e, _⟩ := h.rg x hx; exact ⟨j, by omega, e⟩
  have htk : Tok t := ⟨i, by omega, ht⟩
  rw [setT_eq]
  have hc : ∀ x ∈ cancelT l t.peer t.kind, x ∈ l ∧ ¬ (x.peer = t.peer ∧ x.kind = t.kind) := fun x hx => mem_cancelT hx
  have hperm := insT_perm t (cancelT l t.peer t.kind)
  constructor
  · exact insT_sort htk (fun x hx => hTok x (hc x hx).1) (fun x hx => (hc x hx).2) (h.so.filter _)
  · intro x hx
    rcases List.mem_cons.1 (hperm.mem_iff.1 hx) with rfl | hx
    · exact ⟨k1, k2, a1, a2, i, hi, ht, h4⟩
    · exact h.rg x (hc x hx).1
  · have hsym : ∀ {a b : Tmr}, ¬ (b.peer = a.peer ∧ b.kind = a.kind) → ¬ (a.peer = b.peer ∧ a.kind = b.kind) := fun hn e => hn ⟨e.1.symm, e.2.symm⟩
    refine (hperm.pairwise_iff hsym).2 (List.pairwise_cons.2 ⟨fun x hx => (hc x hx).2, h.un.filter _⟩)
  · rw [hperm.length_eq, List.length_cons]
    have : (cancelT l t.peer t.kind).length ≤ l.length := List.length_filter_le _ _
    have := h.len
    omega
/-- a made daemon, with a bound for its timers -/
structure VM (d : Dmn) (m : Nat) : Prop where
  vd : VD d
  ti : TisOk' d d.timers m
theorem SesOk.of {d e : Dmn} (hn : e.now = d.now) (hr : e.rules = d.rules) {s : Ses} (h : SesOk d s) : SesOk e s := by
  obtain ⟨h1, h2, h3, h4, h5, h6⟩ := h
  exact ⟨h1, by rw [hn]; exact h2, by rw [hr]; exact h3, h4, h5, h6⟩
theorem PlcOk.of {d e : Dmn} (hn : e.now = d.now) (hr : e.rules = d.rules) {s : Plc} (h : PlcOk d s) : PlcOk e s := by
  rcases h with ⟨h1, h2⟩ | h
  · exact Or.inl ⟨h1, h2.of hn hr⟩
  · exact Or.inr h
theorem PlcOk.z (d : Dmn) : PlcOk d zPlc := Or.inr ⟨rfl, rfl⟩
theorem PlcOk.cln {d : Dmn} {p : Plc} (h : PlcOk d p) : PlcOk d (cln p) := by
  unfold Ab.cln; split
  · exact h
  · exact .z d
theorem PerOk.of {d e : Dmn} (hn : e.now = d.now) (hr : e.rules = d.rules) {p : Per} (h : PerOk d p) : PerOk e p := by
  obtain ⟨h1, h2, h3, h4, h5, h6, h7, h8, h9, h10, h11, h12⟩ := h
  exact ⟨h1, h2, h3, h4, h5, h6, h7, h8, h9, h10.of hn hr, h11.of hn hr, h12.of hn hr⟩
theorem PerOk.pR {d : Dmn} {p : Per} (h : PerOk d p) {r : Rng} (h1 : PlcOk d r.p) (h2 : PlcOk d r.c) (h3 : PlcOk d r.n) : PerOk d (pR p r) := by
  obtain ⟨g1, g2, g3, g4, g5, g6, g7, g8, g9, g10, g11, g12⟩ := h
  exact ⟨g1, g2, g3, g4, g5, g6, g7, g8, g9, h1, h2, h3⟩
theorem inst_plc {d : Dmn} {p : Per} (h : PerOk d p) {s : Ses} (hs : SesOk d s) (own : Bool) : PlcOk d (instR p.ring s own).p ∧ PlcOk d (instR p.ring s own).c ∧ PlcOk d (instR p.ring s own).n := by
  have hnew : PlcOk d ⟨true, s⟩ := Or.inl ⟨rfl, hs⟩
  unfold instR; split
  · unfold beginR; split
    · exact ⟨h.rn, hnew, .z d⟩
    · exact ⟨h.rc.cln, hnew, .z d⟩
  · exact ⟨.z d, h.rc, hnew⟩
theorem VM.inst {d : Dmn} {m : Nat} (h : VM d m) (hm : m ≤ 999) {i : Nat} (hi : i < d.peers.length) {s : Ses} (hs : SesOk d s) (h1 : 1 ≤ s.loc) (hfr : ∀ x ∈ d.slots, x.index ≠ s.loc) (own : Bool) : VM (instD d i hi s own) (m + 1) := by
  obtain ⟨v, t⟩ := h
  have hpl := v.pks.1
  have hki : d.peers[i].pub = kOf i := v.pks.2 i hi
  have hlen : (instD d i hi s own).peers.length = d.peers.length := List.length_set
  have hpi := inst_plc (v.per _ (List.getElem_mem hi)) hs own
  obtain ⟨q1, q2, q3, q4, q5, q6, q7, q8, q9, q10, q11, _⟩ := v.ru
  have hn0 := v.n0
  have hn1 := v.n1
  have hget : ∀ (j : Nat) (hj : j < d.peers.length) (hj' : j < (instD d i hi s own).peers.length), (instD d i hi s own).peers[j].pub = d.peers[j].pub ∧ (instD d i hi s own).peers[j].kal = d.peers[j].kal := by
    intro j hj hj'
    simp only [instD, List.getElem_set]
    split
    · rename_i e; subst e; exact ⟨rfl, rfl⟩
    · exact ⟨rfl, rfl⟩
  have ht0 := t.set hpl (t := ⟨d.now + 3 * d.rules.rejt, kOf i, 5⟩) (by show (2 : Int) ≤ 5; omega) (by show (5 : Int) ≤ 5; omega) (by show d.now < d.now + 3 * d.rules.rejt; omega) (by show d.now + 3 * d.rules.rejt ≤ 4398046511104; omega) hi rfl (fun e => absurd e (by show ¬ (5 : Int) = 4; omega))
  have ht1 : TisOk' (instD d i hi s own) (instD d i hi s own).timers (m + 1) := by
    obtain ⟨a, b, c, e⟩ := ht0
    refine ⟨a, fun x hx => ?_, c, e⟩
    obtain ⟨r1, r2, r3, r4, j, hj, r5, r6⟩ := b x hx
    exact ⟨r1, r2, r3, r4, j, by rw [hlen]; exact hj, r5, fun hk => by rw [(hget j hj _).2]; exact r6 hk⟩
  refine ⟨?_, ht1⟩
  constructor
  · exact v.ru
  · exact v.n0
  · exact v.n1
  · exact v.p0
  · exact v.p1
  · exact v.bad
  · refine ⟨by rw [hlen]; exact hpl, fun j hj => ?_⟩
    rw [(hget j (by rw [hlen] at hj; exact hj) hj).1]
    exact v.pks.2 j _
  · intro p hp
    have hp' : p ∈ d.peers.set i (Ab.pR d.peers[i] (instR d.peers[i].ring s own)) := hp
    refine PerOk.of (d := d) (e := instD d i hi s own) rfl rfl ?_
    rcases List.mem_or_eq_of_mem_set hp' with hp | rfl
    · exact v.per p hp
    · exact (v.per _ (List.getElem_mem hi)).pR hpi.1 hpi.2.1 hpi.2.2
  · exact v.rts
  · rw [hlen]; exact v.rtl
  · exact v.sls.inst hi hki h1 hfr own
  · exact ht1.toT (by omega)
  · exact v.s0
  · exact v.s1
  · exact v.rcn
  · exact v.buc
end Go.Ab
