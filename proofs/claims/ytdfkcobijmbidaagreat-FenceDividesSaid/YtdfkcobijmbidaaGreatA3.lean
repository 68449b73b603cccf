/- Each acting operation and each call does what its abstract reading says. No condition. -/
import Derived.Test.YtdfkcobijmbidaaGreatA2
import Derived.Laws.Append
import Derived.Laws.IdiomStrings
import Derived.OrdersIn
import Derived.RangeFuncSeq
import Derived.RangeFuncLeaves
import Derived.RangeFuncRecord
import Derived.MapKept
set_option linter.all false
namespace Go.Ab
variable [Tabs]
variable {P : Program} {nt : Nat} {ds : List Deferred} {s : St} {Γ : Cx} {a : Act} {w : World}
structure WF (w w' : World) : Prop where
  os : w'.os = w.os
  tape : w'.tape = w.tape
  output : w'.output = w.output
theorem WF.refl (w : World) : WF w w := ⟨rfl, rfl, rfl⟩
theorem WF.trans {a b c : World} (h : WF a b) (k : WF b c) : WF a c := ⟨k.os.trans h.os, k.tape.trans h.tape, k.output.trans h.output⟩
theorem RepV.monoC {Γ Γ' : Cx} (hle : LeC Γ Γ') : ∀ {p : PV} {v : Value}, RepV Γ p v → RepV Γ' p v := by
  have h1 : ∀ {p : PV} {v : Value}, RepV1 Γ p v → RepV1 Γ' p v := by
    intro p v h
    cases p
    case un => trivial
    case st w l => obtain ⟨cs, h1, h2⟩ := h; exact ⟨cs, h1, h2.monoC hle⟩
    case ar sz n l => obtain ⟨cs, h1, h2⟩ := h; exact ⟨cs, h1, h2.monoC hle⟩
    all_goals exact RepL.monoC hle h
  have h2 : ∀ {l : List PV} {vs : List Value}, AllV Γ l vs → AllV Γ' l vs := by
    intro l
    induction l with
    | nil => intro vs h; cases vs <;> simp_all [AllV]
    | cons p l ih =>
      intro vs h
      cases vs with
      | nil => simp [AllV] at h
      | cons v vs => simp only [AllV] at h ⊢; exact ⟨h1 h.1, ih h.2⟩
  intro p
  induction p using PV.rec (motive_2 := fun _ => True) with
  | gd b p ih => intro v h; rw [RepV] at h ⊢; exact ⟨fun hb => ih (h.1 hb), h.2⟩
  | tup l => intro v h; simp only [RepV] at h ⊢; obtain ⟨vs, e, h⟩ := h; exact ⟨vs, e, h2 h⟩
  | un => intro v h; simp [RepV]
  | st w l => intro v h; obtain ⟨cs, e, h⟩ := h; exact ⟨cs, e, h.monoC hle⟩
  | ar sz n l => intro v h; obtain ⟨cs, e, h⟩ := h; exact ⟨cs, e, h.monoC hle⟩
  | nil => trivial
  | cons => trivial
  | _ => intro v h; exact RepL.monoC hle h
theorem Blk.Rep.monoC {Γ Γ' : Cx} (hle : LeC Γ Γ') {ob : Option Nat} {blk : Blk} (hh : ∀ b, ob = some b → Γ'.heap[b]? = Γ.heap[b]?) (h : blk.Rep Γ ob) : blk.Rep Γ' ob := by
  cases blk with
  | box v =>
    obtain ⟨b, c, e, h1, h2, h3⟩ := h
    exact ⟨b, c, e, h1, by rw [hh b h1]; exact h2, h3.monoC hle⟩
  | arr sz l =>
    obtain ⟨h1, h2, h3⟩ := h
    refine ⟨h1, h2, ?_⟩
    cases ob with
    | none => exact h3
    | some b =>
      obtain ⟨c, e, cs, rest, h4, h5, h6⟩ := h3
      exact ⟨c, e, cs, rest, by rw [hh b rfl]; exact h4, h5, h6.monoC hle⟩
  | map b ks vs l =>
    obtain ⟨h1, h2⟩ := h
    exact ⟨h1, by rw [hh b h1]; exact h2⟩
theorem RepV.mono {Γ Γ' : Cx} (hle : Le Γ Γ') {p : PV} {v : Value} (h : RepV Γ p v) : RepV Γ' p v := h.monoC hle.c
theorem Blk.Rep.mono {Γ Γ' : Cx} (hle : Le Γ Γ') {ob : Option Nat} {blk : Blk} (hh : ∀ b, ob = some b → Γ'.heap[b]? = Γ.heap[b]?) (h : blk.Rep Γ ob) : blk.Rep Γ' ob := h.monoC hle.c hh
theorem lt_of_get {h : Array Obj} {b : Nat} {o : Obj} (e : h[b]? = some o) : b < h.size := (Array.getElem?_eq_some_iff.1 e).1
theorem Blk.Rep.lt {blk : Blk} {b : Nat} (h : blk.Rep Γ (some b)) : b < Γ.heap.size := by
  cases blk with
  | box v => obtain ⟨b', c, e, h1, h2, h3⟩ := h; cases h1; exact lt_of_get h2
  | arr sz l => obtain ⟨_, _, c, e, cs, rest, h4, _⟩ := h; exact lt_of_get h4
  | map b0 ks vs l => obtain ⟨h1, es, clock, h2, _⟩ := h; cases h1; exact lt_of_get h2
theorem Mem.lt (hm : Mem Γ) {b : Nat} (h : Γ.mutb b) : b < Γ.heap.size := by
  obtain ⟨k, blk, hg, hb⟩ := h
  have := hm.blk k blk hg
  rw [hb] at this
  exact this.lt
theorem Mem.not_own_new (hm : Mem Γ) : ¬ Γ.own Γ.heap.size := by
  rintro (h | h)
  · exact Nat.lt_irrefl _ (hm.lt h)
  · exact Nat.lt_irrefl _ (hm.prot _ h)
def Cx.push (Γ : Cx) (o : Obj) : Cx := { Γ with heap := Γ.heap.push o }
def Cx.ext (Γ : Cx) (o : Obj) (k : Nat) (blk : Blk) : Cx :=
  { heap := Γ.heap.push o, ι := fun i => if i = k then some Γ.heap.size else Γ.ι i, bx := put Γ.bx k blk, prot := Γ.prot }
def Cx.virt (Γ : Cx) (k : Nat) (blk : Blk) : Cx :=
  { Γ with ι := fun i => if i = k then none else Γ.ι i, bx := put Γ.bx k blk }
theorem push_old (h : Array Obj) (o : Obj) {b : Nat} (hb : b < h.size) : (h.push o)[b]? = h[b]? := by
  rw [Array.getElem?_push, if_neg (by omega)]
theorem le_push (Γ : Cx) (o : Obj) : Le Γ (Γ.push o) where
  heap b hb _ := push_old _ _ hb
  mutb b _ h := h
  prot := rfl
  size := by simp [Cx.push]
  ref k blk h := ⟨blk, h, Nat.le_refl _, fun _ => ⟨rfl, fun b _ cs e hc => ⟨cs, by rw [← hc]; exact push_old _ _ (lt_of_get hc), rfl⟩⟩⟩
theorem le_ext (Γ : Cx) (o : Obj) {k : Nat} (blk : Blk) (hk : get Γ.bx k = none) : Le Γ (Γ.ext o k blk) where
  heap b hb _ := push_old _ _ hb
  mutb b hb h := by
    obtain ⟨i, bl, hg, hi⟩ := h
    simp only [Cx.ext] at hg hi
    by_cases hik : i = k
    · subst hik; simp at hi; omega
    · rw [if_neg hik] at hi
      rw [get_put_ne _ _ _ _ (fun h => hik h.symm)] at hg
      exact ⟨i, bl, hg, hi⟩
  prot := rfl
  size := by simp [Cx.ext]
  ref i bl h := by
    have hik : i ≠ k := by intro h'; subst h'; rw [hk] at h; simp at h
    refine ⟨bl, by simp only [Cx.ext]; rw [get_put_ne _ _ _ _ (fun h => hik h.symm)]; exact h, Nat.le_refl _, fun _ => ⟨by simp [Cx.ext, hik], fun b _ cs e hc => ⟨cs, by rw [← hc]; exact push_old _ _ (lt_of_get hc), rfl⟩⟩⟩
theorem le_virt (Γ : Cx) {k : Nat} (blk : Blk) (hk : get Γ.bx k = none) : Le Γ (Γ.virt k blk) where
  heap b hb _ := rfl
  mutb b hb h := by
    obtain ⟨i, bl, hg, hi⟩ := h
    simp only [Cx.virt] at hg hi
    by_cases hik : i = k
    · subst hik; simp at hi
    · rw [if_neg hik] at hi
      rw [get_put_ne _ _ _ _ (fun h => hik h.symm)] at hg
      exact ⟨i, bl, hg, hi⟩
  prot := rfl
  size := Nat.le_refl _
  ref i bl h := by
    have hik : i ≠ k := by intro h'; subst h'; rw [hk] at h; simp at h
    exact ⟨bl, by simp only [Cx.virt]; rw [get_put_ne _ _ _ _ (fun h => hik h.symm)]; exact h, Nat.le_refl _, fun _ => ⟨by simp [Cx.virt, hik], fun b _ cs e hc => ⟨cs, hc, rfl⟩⟩⟩
theorem Mem.tab_le {Γ Γ' : Cx} (hm : Mem Γ) (hl : Le Γ Γ') (b : Nat) (cs : Array Value) (h : Tabs.tab b = some cs) : ¬ Γ'.mutb b ∧ ∃ e x, Γ'.heap[b]? = some (.cells cs e x) := by
  obtain ⟨h1, e, x, h2⟩ := hm.tab b cs h
  refine ⟨fun hb => h1 (hl.mutb b (lt_of_get h2) hb), e, x, ?_⟩
  rw [hl.heap b (lt_of_get h2) h1]; exact h2
theorem mem_push (hm : Mem Γ) (o : Obj) : Mem (Γ.push o) where
  blk k blk h := by
    have := hm.blk k blk h
    exact this.mono (le_push Γ o) (fun b hb => by
      rw [show (Γ.push o).ι k = Γ.ι k from rfl] at hb
      rw [hb] at this; exact push_old _ _ this.lt)
  inj := hm.inj
  prot b h := by have := hm.prot b h; simp only [Cx.push, Array.size_push]; omega
  apart := hm.apart
  tab := hm.tab_le (le_push Γ o)
theorem mem_ext (hm : Mem Γ) {o : Obj} {k : Nat} {blk : Blk} (hk : get Γ.bx k = none) (hr : blk.Rep (Γ.ext o k blk) (some Γ.heap.size)) : Mem (Γ.ext o k blk) where
  blk i bl h := by
    by_cases hik : i = k
    · subst hik
      simp only [Cx.ext, get_put_same, Option.some.injEq] at h
      subst h
      have : (Γ.ext o i blk).ι i = some Γ.heap.size := by simp [Cx.ext]
      rw [this]; exact hr
    · simp only [Cx.ext] at h
      rw [get_put_ne _ _ _ _ (fun h => hik h.symm)] at h
      have := hm.blk i bl h
      have e : (Γ.ext o k blk).ι i = Γ.ι i := by simp [Cx.ext, hik]
      rw [e]
      exact this.mono (le_ext Γ o blk hk) (fun b hb => by rw [hb] at this; exact push_old _ _ this.lt)
  inj i j b hi hj h1 h2 := by
    simp only [Cx.ext, get_put] at hi hj h1 h2
    by_cases hik : i = k <;> by_cases hjk : j = k
    · rw [hik, hjk]
    · rw [if_pos hik] at h1
      rw [if_neg hjk] at h2
      rw [if_neg (fun h => hjk h.symm)] at hj
      obtain ⟨bl, hbl⟩ := Option.isSome_iff_exists.1 hj
      have := hm.lt ⟨j, bl, hbl, h2⟩
      simp at h1; omega
    · rw [if_neg hik] at h1
      rw [if_pos hjk] at h2
      rw [if_neg (fun h => hik h.symm)] at hi
      obtain ⟨bl, hbl⟩ := Option.isSome_iff_exists.1 hi
      have := hm.lt ⟨i, bl, hbl, h1⟩
      simp at h2; omega
    · rw [if_neg hik] at h1
      rw [if_neg hjk] at h2
      rw [if_neg (fun h => hik h.symm)] at hi
      rw [if_neg (fun h => hjk h.symm)] at hj
      exact hm.inj i j b hi hj h1 h2
  prot b h := by have := hm.prot b h; simp only [Cx.ext, Array.size_push]; omega
  apart b h hp := by
    have hlt := hm.prot b hp
    exact hm.apart b ((le_ext Γ o blk hk).mutb b hlt h) hp
  tab := hm.tab_le (le_ext Γ o blk hk)
theorem mem_virt (hm : Mem Γ) {k : Nat} {blk : Blk} (hk : get Γ.bx k = none) (hr : blk.Rep (Γ.virt k blk) none) : Mem (Γ.virt k blk) where
  blk i bl h := by
    by_cases hik : i = k
    · subst hik
      simp only [Cx.virt, get_put_same, Option.some.injEq] at h
      subst h
      have : (Γ.virt i blk).ι i = none := by simp [Cx.virt]
      rw [this]; exact hr
    · simp only [Cx.virt] at h
      rw [get_put_ne _ _ _ _ (fun h => hik h.symm)] at h
      have := hm.blk i bl h
      have e : (Γ.virt k blk).ι i = Γ.ι i := by simp [Cx.virt, hik]
      rw [e]
      exact this.mono (le_virt Γ blk hk) (fun b hb => rfl)
  inj i j b hi hj h1 h2 := by
    simp only [Cx.virt, get_put] at hi hj h1 h2
    by_cases hik : i = k
    · rw [if_pos hik] at h1; simp at h1
    · by_cases hjk : j = k
      · rw [if_pos hjk] at h2; simp at h2
      · rw [if_neg hik] at h1
        rw [if_neg hjk] at h2
        rw [if_neg (fun h => hik h.symm)] at hi
        rw [if_neg (fun h => hjk h.symm)] at hj
        exact hm.inj i j b hi hj h1 h2
  prot b h := hm.prot b h
  apart b h hp := by
    have hlt := hm.prot b hp
    exact hm.apart b ((le_virt Γ blk hk).mutb b hlt h) hp
  tab := hm.tab_le (le_virt Γ blk hk)
def Cx.upd (Γ : Cx) (b : Nat) (o : Obj) (k : Nat) (blk : Blk) : Cx :=
  { Γ with heap := Γ.heap.setIfInBounds b o, bx := put Γ.bx k blk }
theorem le_upd {k b : Nat} {blk blk' : Blk} {c c' : Array Value} {e : TypeId} (hg : get Γ.bx k = some blk) (hb : Γ.ι k = some b) (hc : Γ.heap[b]? = some (.cells c e (0, 0))) (hs : c'.size = c.size) (ht : blk.tot ≤ blk'.tot) :
    Le Γ (Γ.upd b (.cells c' e (0, 0)) k blk') where
  heap b' hb' hne := by
    have : b ≠ b' := by intro h; subst h; exact hne ⟨k, blk, hg, hb⟩
    simp only [Cx.upd]
    rw [Array.getElem?_setIfInBounds_ne this]
  mutb b' hb' h := by
    obtain ⟨i, bl, hgi, hi⟩ := h
    simp only [Cx.upd, get_put] at hgi hi
    by_cases hik : k = i
    · subst hik; exact ⟨k, blk, hg, hi⟩
    · rw [if_neg hik] at hgi; exact ⟨i, bl, hgi, hi⟩
  prot := rfl
  size := by simp [Cx.upd]
  ref i bl h := by
    have keep : ∀ b2, Γ.ι i = some b2 → ∀ cs e', Γ.heap[b2]? = some (.cells cs e' (0, 0)) → ∃ cs', (Γ.upd b (.cells c' e (0, 0)) k blk').heap[b2]? = some (.cells cs' e' (0, 0)) ∧ cs'.size = cs.size := by
      intro b2 hb2 cs e' hcs
      by_cases hbb : b = b2
      · subst hbb
        rw [hc] at hcs
        simp only [Option.some.injEq, Obj.cells.injEq] at hcs
        obtain ⟨rfl, rfl, _⟩ := hcs
        exact ⟨c', by simp only [Cx.upd]; rw [Array.getElem?_setIfInBounds_self_of_lt (lt_of_get hc)], hs⟩
      · exact ⟨cs, by simp only [Cx.upd]; rw [Array.getElem?_setIfInBounds_ne hbb]; exact hcs, rfl⟩
    by_cases hik : k = i
    · subst hik
      rw [hg] at h; cases h
      exact ⟨blk', by simp [Cx.upd, get_put_same], ht, fun _ => ⟨rfl, keep⟩⟩
    · exact ⟨bl, by simp only [Cx.upd]; rw [get_put_ne _ _ _ _ hik]; exact h, Nat.le_refl _, fun _ => ⟨rfl, keep⟩⟩
theorem mem_upd (hm : Mem Γ) {k b : Nat} {blk blk' : Blk} {c c' : Array Value} {e : TypeId} (hg : get Γ.bx k = some blk) (hb : Γ.ι k = some b) (hc : Γ.heap[b]? = some (.cells c e (0, 0))) (hs : c'.size = c.size) (ht : blk.tot ≤ blk'.tot)
    (hr : blk'.Rep (Γ.upd b (.cells c' e (0, 0)) k blk') (some b)) : Mem (Γ.upd b (.cells c' e (0, 0)) k blk') where
  blk i bl h := by
    by_cases hik : k = i
    · subst hik
      simp only [Cx.upd, get_put_same, Option.some.injEq] at h
      subst h
      have : (Γ.upd b (.cells c' e (0, 0)) k blk').ι k = some b := hb
      rw [this]; exact hr
    · simp only [Cx.upd] at h
      rw [get_put_ne _ _ _ _ hik] at h
      have := hm.blk i bl h
      exact this.mono (le_upd hg hb hc hs ht) (fun b2 hb2 => by
        have hne : b ≠ b2 := by
          intro h'; subst h'
          exact hik (hm.inj k i b (by simp [hg]) (by simp [h]) hb hb2)
        simp only [Cx.upd]; rw [Array.getElem?_setIfInBounds_ne hne])
  inj i j b2 hi hj h1 h2 := by
    refine hm.inj i j b2 ?_ ?_ h1 h2
    · simp only [Cx.upd, get_put] at hi; split at hi
      · subst_vars; simp [hg]
      · exact hi
    · simp only [Cx.upd, get_put] at hj; split at hj
      · subst_vars; simp [hg]
      · exact hj
  prot b2 h := by have := hm.prot b2 h; simpa [Cx.upd] using this
  apart b2 h hp := hm.apart b2 ((le_upd hg hb hc hs ht).mutb b2 (hm.prot b2 hp) h) hp
  tab := hm.tab_le (le_upd hg hb hc hs ht)
end Go.Ab
namespace Go.Ab
variable [Tabs]
variable {P : Program} {nt : Nat} {ds : List Deferred} {s : St} {Γ : Cx} {a : Act} {w : World}
theorem oneCell_eq (v : Value) : v.oneCell' = oneCell v := by cases v <;> rfl
theorem setCell_heap {b o : Nat} {c : Array Value} {e : TypeId} {v : Value} (h : w.heap[b]? = some (.cells c e (0, 0))) :
    (w.setCell ⟨b, o, none⟩ v).heap = w.heap.setIfInBounds b (.cells (c.setIfInBounds o v) e (0, 0)) := by
  have hb := lt_of_get h
  have he : w.heap[b] = .cells c e (0, 0) := (Array.getElem?_eq_some_iff.1 h).2
  simp only [World.setCell]
  apply Array.ext
  · simp
  · intro i h1 h2
    rw [Array.getElem_modify, Array.getElem_setIfInBounds]
    split
    · subst_vars; simp [he]
    · rfl
theorem WF.setCell (w : World) (ad : Addr) (v : Value) : WF w (w.setCell ad v) := ⟨rfl, rfl, rfl⟩
theorem run_store_in {b o : Nat} {c : Array Value} {e : TypeId} {v : Value} (h : w.heap[b]? = some (.cells c e (0, 0))) (ho : o < c.size) (hv : oneCell v = true) :
    (store ⟨b, o, none⟩ v).run P w = .ok () (w.setCell ⟨b, o, none⟩ v) := by
  rw [run_store P w _ v _ (by rw [oneCell_eq]; exact hv)]
  rw [cell?_eq]
  simp [cell, h, ho, World.frozen?]
theorem run_storeCells : ∀ (vs : List Value) (w : World) (b o i : Nat) (c : Array Value) (e : TypeId), w.heap[b]? = some (.cells c e (0, 0)) → o + i + vs.length ≤ c.size → (∀ v ∈ vs, oneCell v = true) →
    ∃ w', (storeCells ⟨b, o, none⟩ vs i).run P w = .ok () w' ∧ w'.heap = w.heap.setIfInBounds b (.cells (splice c.toList (o + i) vs).toArray e (0, 0)) ∧ WF w w'
  | [], w, b, o, i, c, e, h, hl, hv => by
    refine ⟨w, rfl, ?_, WF.refl w⟩
    have : (splice c.toList (o + i) []).toArray = c := by simp [splice]
    rw [this]
    have he : w.heap[b]? = some (.cells c e (0, 0)) := h
    apply Array.ext
    · simp
    · intro j h1 h2
      rw [Array.getElem_setIfInBounds]
      split
      · subst_vars; exact (Array.getElem?_eq_some_iff.1 he).2
      · rfl
  | v :: vs, w, b, o, i, c, e, h, hl, hv => by
    simp only [List.length_cons] at hl
    have hb := lt_of_get h
    have h1 := run_store_in (P := P) h (show o + i < c.size by omega) (hv v (by simp))
    have hh := setCell_heap (v := v) (o := o + i) h
    have hget : (w.setCell ⟨b, o + i, none⟩ v).heap[b]? = some (.cells (c.setIfInBounds (o + i) v) e (0, 0)) := by
      rw [hh, Array.getElem?_setIfInBounds_self_of_lt hb]
    obtain ⟨w', h2, h3, h4⟩ := run_storeCells vs (w.setCell ⟨b, o + i, none⟩ v) b o (i + 1) (c.setIfInBounds (o + i) v) e hget (by simp; omega) (fun x hx => hv x (by simp [hx]))
    refine ⟨w', ?_, ?_, (WF.setCell w _ v).trans h4⟩
    · simp only [storeCells, Sem.run_bind, add_addr, h1, Result.andThen_ok]
      exact h2
    · rw [h3, hh]
      have hsp : splice (c.setIfInBounds (o + i) v).toList (o + (i + 1)) vs = splice c.toList (o + i) (v :: vs) := by
        rw [Array.toList_setIfInBounds]
        have hlt : o + i < c.toList.length := by simp; omega
        obtain ⟨A, x, B, hA, hcells⟩ : ∃ A x B, A.length = o + i ∧ c.toList = A ++ x :: B :=
          ⟨c.toList.take (o + i), c.toList[o + i], c.toList.drop (o + i + 1), by rw [List.length_take]; omega, by rw [List.getElem_cons_drop, List.take_append_drop]⟩
        rw [hcells, ← hA, List.set_append_right (h := Nat.le_refl _)]
        rw [show o + (i + 1) = A.length + 1 by omega]
        simp only [Nat.sub_self, List.set_cons_zero, splice, List.length_cons]
        have e1 : (A ++ v :: B).take (A.length + 1) = A ++ [v] := by rw [List.take_append, List.take_of_length_le (by omega)]; simp
        have e2 : (A ++ v :: B).drop (A.length + 1 + vs.length) = B.drop vs.length := by
          rw [List.drop_append, List.drop_eq_nil_of_le (by omega), show A.length + 1 + vs.length - A.length = vs.length + 1 by omega]; simp
        have e3 : (A ++ x :: B).drop (A.length + (vs.length + 1)) = B.drop vs.length := by
          rw [← List.drop_drop]; simp
        rw [e1, e2, e3]
        simp
      rw [hsp]
      simp
theorem run_storeVar {t : TypeId} {b o n : Nat} {c : Array Value} {e : TypeId} {v : Value} (h : w.heap[b]? = some (.cells c e (0, 0))) (hn : szOf P t = some n) (hs : v.cells.size = n) (ho : o + n ≤ c.size) (hv : ∀ x ∈ v.cells.toList, oneCell x = true) :
    ∃ w', (storeVar t ⟨b, o, none⟩ v).run P w = .ok () w' ∧ w'.heap = w.heap.setIfInBounds b (.cells (splice c.toList o v.cells.toList).toArray e (0, 0)) ∧ WF w w' := by
  obtain ⟨w', h1, h2, h3⟩ := run_storeCells (P := P) v.cells.toList w b o 0 c e h (by simp; omega) hv
  refine ⟨w', ?_, by simpa using h2, h3⟩
  simp only [storeVar, Sem.run_bind, run_sizeOf hn, Result.andThen_ok]
  rw [if_neg (by simp [hs])]
  exact h1
def Shows (w : World) (size n : Nat) (v : Value) (cs : List Value) : Prop :=
  (∃ ad rc, v = .slice ad n rc ∧ (0 < n → ∃ b o, ad = some ⟨b, o, none⟩ ∧ ∀ i c, cs[i]? = some c → cell w.heap b (o + i) = some c)) ∨
  (∃ str, v = .string str ∧ n = str.size ∧ size = 1 ∧ cs = str.data.toList.map fun b => .int .u8 b.toNat)
theorem run_firstCells {size n : Nat} {v : Value} {cs : List Value} (h : Shows w size n v cs) (hl : cs.length = n * size) : (Builtin.firstCells size n v).run P w = .ok cs.toArray w := by
  rcases h with ⟨ad, rc, rfl, h⟩ | ⟨str, rfl, rfl, rfl, rfl⟩
  · cases ad with
    | none =>
      have : n = 0 := by
        rcases Nat.eq_zero_or_pos n with h0 | h0
        · exact h0
        · obtain ⟨b, o, h1, _⟩ := h h0; simp at h1
      subst this
      have : cs = [] := List.eq_nil_of_length_eq_zero (by simpa using hl)
      subst this; rfl
    | some ad =>
      simp only [Builtin.firstCells]
      rw [← hl]
      by_cases h0 : 0 < n
      · obtain ⟨b, o, h1, h2⟩ := h h0
        simp only [Option.some.injEq] at h1; subst h1
        exact run_loadCells_list w _ cs (fun j v hj => by rw [add_addr, cell?_eq]; exact h2 j v hj)
      · have : n = 0 := by omega
        subst this
        have : cs = [] := List.eq_nil_of_length_eq_zero (by simpa using hl)
        subst this; rfl
  · simp only [Builtin.firstCells, Sem.run_pure]
    congr 1
    apply Array.ext'
    rw [Array.toList_map]
    congr 2
    have : str.extract 0 str.size = str := by simp
    rw [this]
theorem run_lenOf {size n : Nat} {v : Value} {cs : List Value} (h : Shows w size n v cs) : (Builtin.lenOf v).run P w = .ok n w := by
  rcases h with ⟨ad, rc, rfl, _⟩ | ⟨str, rfl, rfl, _⟩ <;> rfl
theorem zeroCells_length (z : Array Value) (n : Nat) : (Builtin.zeroCells z n).size = n * z.size := by simp [Builtin.zeroCells]
theorem run_append_room' {t u e : TypeId} {d : TypeDesc} {i : TypeInfo} {ty : TypeId} (ht : P.underlying t = some (.slice e)) (hu : P.underlying u = some d) (hd : (∃ x, d = .slice x) ∨ d = .string) (hi : P.info? e = some i)
    {b o sLen sCap n : Nat} {y : Value} {news : List Value} {c : Array Value} {ce : TypeId} (hy : Shows w i.size n y news) (hl : news.length = n * i.size) (h1 : ∀ v ∈ news, oneCell v = true) (hroom : sLen + n ≤ sCap)
    (hb : w.heap[b]? = some (.cells c ce (0, 0))) (hin : o + sLen * i.size + n * i.size ≤ c.size) :
    ∃ w', (Builtin.append_ #[t, u] ty #[.slice (some ⟨b, o, none⟩) sLen sCap, y]).run P w = .ok (.slice (some ⟨b, o, none⟩) (sLen + n) sCap) w' ∧
      w'.heap = w.heap.setIfInBounds b (.cells (splice c.toList (o + sLen * i.size) news).toArray ce (0, 0)) ∧ WF w w' := by
  obtain ⟨w', g1, g2, g3⟩ := run_storeCells (P := P) news w b (o + sLen * i.size) 0 c ce hb (by omega) h1
  refine ⟨w', ?_, by simpa using g2, g3⟩
  have hf := run_firstCells (P := P) hy hl
  have hlen := run_lenOf (P := P) hy
  rcases hd with ⟨x, rfl⟩ | rfl
  · simp [Builtin.append_, run_underlying ht, run_underlying hu, sizeOf, typeInfo, hi, hlen, hroom, hf, add_addr, g1]
  · simp [Builtin.append_, run_underlying ht, run_underlying hu, sizeOf, typeInfo, hi, hlen, hroom, hf, add_addr, g1]
theorem run_append_none' {t u e : TypeId} {d : TypeDesc} {i : TypeInfo} {ty : TypeId} (ht : P.underlying t = some (.slice e)) (hu : P.underlying u = some d) (hd : (∃ x, d = .slice x) ∨ d = .string) (hi : P.info? e = some i)
    {ad : Option Addr} {sLen sCap : Nat} {y : Value} (hy : Shows w i.size 0 y []) (hle : sLen ≤ sCap) :
    (Builtin.append_ #[t, u] ty #[.slice ad sLen sCap, y]).run P w = .ok (.slice ad sLen sCap) w := by
  have hf := run_firstCells (P := P) hy (by simp)
  have hlen := run_lenOf (P := P) hy
  rcases hd with ⟨x, rfl⟩ | rfl
  · cases ad <;> simp [Builtin.append_, run_underlying ht, run_underlying hu, sizeOf, typeInfo, hi, hlen, hle, hf, storeCells]
  · cases ad <;> simp [Builtin.append_, run_underlying ht, run_underlying hu, sizeOf, typeInfo, hi, hlen, hle, hf, storeCells]
theorem run_append_grow' {t u e : TypeId} {d : TypeDesc} {i : TypeInfo} {z : Value} {ty : TypeId} (ht : P.underlying t = some (.slice e)) (hu : P.underlying u = some d) (hd : (∃ x, d = .slice x) ∨ d = .string) (hi : P.info? e = some i) (hz : i.zero = some z)
    {ad : Option Addr} {sLen sCap n : Nat} {y : Value} {olds news : List Value} (hs : Shows w i.size sLen (.slice ad sLen sCap) olds) (hlo : olds.length = sLen * i.size)
    (hy : Shows w i.size n y news) (hl : news.length = n * i.size) (hg : sCap < sLen + n) (h63 : sLen + n ≤ 9223372036854775807) (hfit : (sLen + n) * i.bytes ≤ 140737488355328) :
    ∃ w' cap, (Builtin.append_ #[t, u] ty #[.slice ad sLen sCap, y]).run P w = .ok (.slice (some ⟨w.heap.size, 0, none⟩) (sLen + n) cap) w' ∧ sLen + n ≤ cap ∧
      w'.heap = w.heap.push (.cells (olds ++ news ++ (Builtin.zeroCells z.cells (cap - (sLen + n))).toList).toArray e (0, 0)) ∧ WF w w' := by
  have hn : ¬ (sLen + n ≤ sCap) := by omega
  have h63' : ¬ (9223372036854775807 < ((sLen : Int) + (n : Int))) := by omega
  have h48' : ¬ (281474976710656 < Builtin.nextslicecap (sLen + n) sCap * i.bytes) := by have := growslice_fits hg hfit; omega
  have hs' : Shows w.drew i.size sLen (.slice ad sLen sCap) olds := hs
  have hy' : Shows w.drew i.size n y news := hy
  have hfo := run_firstCells (P := P) hs' hlo
  have hf := run_firstCells (P := P) hy' hl
  have hlen := run_lenOf (P := P) hy
  refine ⟨w.drew.alloc (.cells (olds ++ news ++ (Builtin.zeroCells z.cells (grownCap w (sLen + n) sCap e - (sLen + n))).toList).toArray e), grownCap w (sLen + n) sCap e, ?_, grownCap_ge w _ _ _, rfl, ⟨rfl, rfl, rfl⟩⟩
  rcases hd with ⟨x, rfl⟩ | rfl
  · simp [Builtin.append_, run_underlying ht, run_underlying hu, sizeOf, typeInfo, zeroValue, hi, hz, hlen, hn, h63', h48', Question.forced, hf, hfo, newRow, grownCap]
    congr 2
    apply Array.ext'
    simp
  · simp [Builtin.append_, run_underlying ht, run_underlying hu, sizeOf, typeInfo, zeroValue, hi, hz, hlen, hn, h63', h48', Question.forced, hf, hfo, newRow, grownCap]
    congr 2
    apply Array.ext'
    simp
theorem run_copy' {t u e : TypeId} {ty : TypeId} {sz : Nat} (ht : P.underlying t = some (.slice e)) (hsz : szOf P e = some sz)
    {b o dLen dCap n : Nat} {y : Value} {news : List Value} {c : Array Value} {ce : TypeId} {ysz : Nat} (hy : Shows w sz ysz y news) (hl : news.length = ysz * sz) (hn : n = min ysz dLen) (h1 : ∀ v ∈ news, oneCell v = true)
    (hb : w.heap[b]? = some (.cells c ce (0, 0))) (hin : o + n * sz ≤ c.size) :
    ∃ w', (Builtin.copy_ #[t, u] ty #[.slice (some ⟨b, o, none⟩) dLen dCap, y]).run P w = .ok (.int .i64 n) w' ∧
      w'.heap = w.heap.setIfInBounds b (.cells (splice c.toList o (news.take (n * sz))).toArray ce (0, 0)) ∧ WF w w' := by
  have hlt : (news.take (n * sz)).length = n * sz := by
    rw [List.length_take, hl]
    exact Nat.min_eq_left (Nat.mul_le_mul_right _ (by omega))
  obtain ⟨w', g1, g2, g3⟩ := run_storeCells (P := P) (news.take (n * sz)) w b o 0 c ce hb (by omega) (fun v hv => h1 v (List.mem_of_mem_take hv))
  refine ⟨w', ?_, by simpa using g2, g3⟩
  have hlen := run_lenOf (P := P) hy
  have hf : (Builtin.firstCells sz n y).run P w = .ok (news.take (n * sz)).toArray w := by
    rcases hy with ⟨ad, rc, rfl, h⟩ | ⟨str, rfl, h2, rfl, rfl⟩
    · by_cases h0 : 0 < n
      · obtain ⟨b', o', h3, h4⟩ := h (by omega)
        subst h3
        simp only [Builtin.firstCells]
        have := run_loadCells_list (P := P) w ⟨b', o', none⟩ (news.take (n * sz)) (fun j v hj => by
          rw [add_addr, cell?_eq]
          rw [List.getElem?_take] at hj
          split at hj
          · exact h4 j v hj
          · simp at hj)
        rw [hlt] at this
        exact this
      · have : n = 0 := by omega
        rw [this]
        cases ad <;> simp [Builtin.firstCells, loadCells, loadCellsFrom]
    · simp only [Builtin.firstCells, Sem.run_pure]
      congr 1
      apply Array.ext'
      rw [Array.toList_map]
      simp [ByteArray.data_extract]
  have hn' : Nat.min ysz dLen = n := hn.symm
  simp [Builtin.copy_, run_underlying ht, run_sizeOf hsz, hlen, hn', hf, g1, goInt]
end Go.Ab
namespace Go.Ab
variable [Tabs]
variable {P : Program} {nt : Nat} {ds : List Deferred} {s : St} {Γ : Cx} {a : Act} {w : World}
def St.put (s : St) (d : Option Nat) (p : PV) : St :=
  match d with
  | some d => { s with env := Ab.put s.env d p }
  | none => s
mutual
def wk : PV → PV
  | .sl sz l _ => .sl sz (wkL l) false
  | .st w l => .st w (wkL l)
  | .ar z n l => .ar z n (wkL l)
  | .tup l => .tup (wkL l)
  | p => p
def wkL : List PV → List PV
  | [] => []
  | p :: l => wk p :: wkL l
end
def wkb : Blk → PV → PV
  | .arr _ _, v => wk v
  | .box _, v => v
  | .map .., v => v
def u8 (b : UInt8) : PV := .int .u8 b.toNat
def exAppend (s : St) (d : Option Nat) (sz bytes : Nat) (p : PV) (ys : List PV) (K : St → Prop) : Prop :=
  match d with
  | none => False
  | some d => match p with
    | .sl sz0 l true => (get s.bx d = none ∧ (l = [] ∨ (sz0 = sz ∧ ys ≠ [])) ∧ (l.length + ys.length) * bytes ≤ 140737488355328 ∧ l.length + ys.length ≤ 9223372036854775807) ∧
        K { env := put s.env d (.rs d [] 0 (l.length + ys.length) (l.length + ys.length) sz .tip), bx := put s.bx d (.arr sz (l ++ ys)) }
    | .rs k [] 0 len tot sz' .tip => (match get s.bx k with
      | some (.arr sz'' l) => (tot = l.length ∧ len = l.length ∧ sz' = sz ∧ sz'' = sz ∧ (l.length + ys.length) * bytes ≤ 140737488355328 ∧ l.length + ys.length ≤ 9223372036854775807) ∧
        K { env := put s.env d (.rs k [] 0 (l.length + ys.length) (l.length + ys.length) sz .tip), bx := put s.bx k (.arr sz (l ++ ys)) }
      | _ => False)
    | .rs k p off len tot sz' .clip => content s (.rs k p off len tot sz' .clip) fun sz'' l => (get s.bx d = none ∧ sz'' = sz ∧ ys ≠ [] ∧ (l.length + ys.length) * bytes ≤ 140737488355328 ∧ l.length + ys.length ≤ 9223372036854775807) ∧
        K { env := put s.env d (.rs d [] 0 (l.length + ys.length) (l.length + ys.length) sz .tip), bx := put s.bx d (.arr sz (l ++ ys)) }
    | _ => False
def src (s : St) (str : Bool) (sz : Nat) (q : PV) (K : List PV → Prop) : Prop :=
  if str then (match q with | .str bs => sz = 1 ∧ K (bs.map u8) | _ => False)
  else content s q fun sz' ys => (ys = [] ∨ sz' = sz) ∧ K ys
def exCopy (s : St) (d : Option Nat) (sz : Nat) (p : PV) (ys : List PV) (K : St → Prop) : Prop :=
  match p with
  | .rs k pth off len tot sz' _ => (match get s.bx k with
    | some (.arr sz'' l) => (tot = l.length ∧ pth = [] ∧ sz' = sz ∧ sz'' = sz ∧ off + len ≤ l.length) ∧
        K ({ s with bx := put s.bx k (.arr sz (l.take off ++ ys.take (min ys.length len) ++ l.drop (off + min ys.length len))) }.put d (.int .i64 (min ys.length len : Nat)))
    | some (.box v) => (match getP v pth with
      | some (.ar sz'' n l) => (match setP v pth (.ar sz'' n (l.take off ++ ys.take (min ys.length len) ++ l.drop (off + min ys.length len))) with
        | some v' => (tot = 0 ∧ sz' = sz ∧ sz'' = sz ∧ off + len ≤ n) ∧ K ({ s with bx := put s.bx k (.box v') }.put d (.int .i64 (min ys.length len : Nat)))
        | none => False)
      | _ => False)
    | _ => False)
  | _ => False
def exFill (s : St) (d : Option Nat) (sz : Nat) (z p : PV) (K : St → Prop) : Prop :=
  d = none ∧ match p with
  | .rs k pth off len tot sz' c => exCopy s none sz (.rs k pth off len tot sz' c) (List.replicate len z) K
  | _ => False
def lkp (p : PV) : List (PV × PV) → Option PV
  | [] => none
  | (k, v) :: r => if PV.beq p k = true then some v else lkp p r
def mupd (p v : PV) : List (PV × PV) → List (PV × PV)
  | [] => [(p, v)]
  | (k, w) :: r => if PV.beq p k = true then (p, v) :: r else (k, w) :: mupd p v r
def ex (s : St) (d : Option Nat) : AK → (St → Prop) → Prop
  | .alloc z, K => (match d with
    | some k => get s.bx k = none ∧ K { env := put s.env k (.pt k [] 0), bx := put s.bx k (.box z) }
    | none => False)
  | .box x, K => (match d with
    | some k => vg true s x fun p => (get s.bx k = none ∧ p.cellular = true) ∧ K { env := put s.env k (.pt k [] 0), bx := put s.bx k (.box p) }
    | none => False)
  | .buildSlice own sz z n parts, K => vgp true s parts fun ps => (match setParts (List.replicate n z) (ps.map fun x => (x.1, wk x.2)) with
    | some l => if own = true then (match d with
        | some k => get s.bx k = none ∧ K { env := put s.env k (.rs k [] 0 n n sz .tip), bx := put s.bx k (.arr sz l) }
        | none => False) else K (s.put d (.sl sz l true))
    | none => False)
  | .makeSlice sz bytes z len cap, K => vg true s len fun p => intK p fun l => vg true s cap fun q => intK q fun c =>
    (match d with
    | some k => (get s.bx k = none ∧ 0 ≤ l ∧ l ≤ c ∧ c * bytes ≤ 281474976710656 ∧ c ≤ 9223372036854775807) ∧
        K { env := put s.env k (.rs k [] 0 l.toNat l.toNat sz .tip), bx := put s.bx k (.arr sz (List.replicate l.toNat z)) }
    | none => False)
  | .store n x y, K => vg true s x fun p => vg true s y fun v => (match p with
    | .pt k pth tot => (match get s.bx k with
      | some blk => (match setB blk pth (wkb blk v) with
        | some blk' => (tot = blk.tot ∧ v.width = n ∧ v.cellular = true) ∧ K { s with bx := put s.bx k blk' }
        | none => False)
      | none => False)
    | _ => False)
  | .isNil ng x, K => vg true s x fun p => (match p with
    | .sl _ l _ => ∀ b : Bool, (b = true → l = []) → K (s.put d (.bl (b != ng)))
    | .rs k _ _ len tot _ _ => (match get s.bx k with | some blk => tot = blk.tot ∧ ∀ b : Bool, (b = true → len = 0) → K (s.put d (.bl (b != ng))) | none => False)
    | _ => False)
  | .append sz bytes str x y, K => vg true s x fun p => vg true s y fun q => src s str sz q fun ys => exAppend s d sz bytes p ys K
  | .copy sz x y, K => vg true s x fun p => vg true s y fun q => (match q with
    | .str _ => src s true sz q fun ys => exCopy s d sz p ys K
    | _ => src s false sz q fun ys => exCopy s d sz p ys K)
  | .fill sz z x, K => vg true s x fun p => exFill s d sz z p K
  | .mkMap ks vs, K => (match d with
    | some k => get s.bx k = none ∧ ∀ b : Nat, K { env := put s.env k (.mp k b), bx := put s.bx k (.map b ks vs []) }
    | none => False)
  | .mapGet ks vs z ok m x, K => vg true s m fun pm => vg true s x fun p => (match pm with
    | .mp k b => (match get s.bx k with
      | some (.map b' ks' vs' l) => (b' = b ∧ ks' = ks ∧ vs' = vs ∧ fits ks p = true) ∧ K (s.put d (if ok = true then .tup [(lkp p l).getD z, .bl (lkp p l).isSome] else (lkp p l).getD z))
      | _ => False)
    | _ => False)
  | .mapSet ks vs m x y, K => vg true s m fun pm => vg true s x fun p => vg true s y fun v => (match pm with
    | .mp k b => (match get s.bx k with
      | some (.map b' ks' vs' l) => (d = none ∧ b' = b ∧ ks' = ks ∧ vs' = vs ∧ fits ks p = true ∧ fits vs v = true) ∧ K { s with bx := put s.bx k (.map b' ks' vs' (mupd p v l)) }
      | _ => False)
    | _ => False)
  | .convB x, K => vg true s x fun p => (match p with | .str bs => K (s.put d (.sl 1 (bs.map u8) false)) | _ => False)
  | _, _ => False
def Stepd (P : Program) (nt : Nat) (ds : List Deferred) (o : Oper) (a : Act) (w : World) (Γ : Cx) (K : St → Prop) : Prop :=
  ∃ nx v w' s' Γ', (execOp a.eval o).run P w = .ok nx w' ∧ (nx = .value v ∨ nx = .skip ∧ v = undef) ∧ Sim nt ds s' Γ' (a.put o.dst v) ∧ w'.heap = Γ'.heap ∧ Le Γ Γ' ∧ WF w w' ∧ K s'
theorem Sim.put (hs : Sim nt ds s Γ a) {d : Option Nat} (hd : ∀ k, d = some k → k < nt) {p : PV} {v : Value} (hr : RepV Γ p v) : Sim nt ds (s.put d p) Γ (a.put d v) := by
  cases d with
  | none => exact hs
  | some d =>
    refine ⟨hs.bx, by simp [Act.put, hs.size], hs.defers, fun k q hk => ?_, hs.mem⟩
    simp only [St.put, get_put] at hk
    have hlt := hd d rfl
    split at hk
    · rename_i hdk
      simp only [Option.some.injEq] at hk; subst hk hdk
      simp only [Act.put]
      have : (a.tmps.setIfInBounds d v).getD d undef = v := by
        rw [Array.getD_eq_getD_getElem?, Array.getElem?_setIfInBounds_self_of_lt (by rw [hs.size]; exact hlt)]; rfl
      rw [this]; exact hr
    · rename_i hne
      have := hs.env k q hk
      simp only [Act.put]
      rw [Array.getD_eq_getD_getElem?, Array.getElem?_setIfInBounds_ne hne, ← Array.getD_eq_getD_getElem?]
      exact this
theorem Sim.le (hs : Sim nt ds s Γ a) {Γ' : Cx} {bx' : List (Nat × Blk)} (hle : Le Γ Γ') (hm : Mem Γ') (hb : Γ'.bx = bx') : Sim nt ds { s with bx := bx' } Γ' a :=
  ⟨hb, hs.size, hs.defers, fun k p h => (hs.env k p h).mono hle, hm⟩
theorem repV_pt {k : Nat} {b : Nat} {v : PV} (hb : get Γ.bx k = some (.box v)) (hι : Γ.ι k = some b) : RepV Γ (.pt k [] 0) (.pointer (some ⟨b, 0, none⟩)) :=
  RepV.mkpt hb rfl hι rfl
theorem step_box {o : Oper} {k : Nat} {p : PV} {cs : Array Value} {e : TypeId} {K : St → Prop} (hs : Sim nt ds s Γ a) (hw : w.heap = Γ.heap) (hk : o.dst = some k) (hlt : k < nt) (hfree : get s.bx k = none)
    (hr : RepL Γ [p] cs.toList) (hrun : (execOp a.eval o).run P w = .ok (.value (.pointer (some ⟨w.heap.size, 0, none⟩))) (w.alloc (.cells cs e))) (hK : K { env := put s.env k (.pt k [] 0), bx := put s.bx k (.box p) }) :
    Stepd P nt ds o a w Γ K := by
  rw [← hs.bx] at hfree
  have hle := le_ext Γ (.cells cs e) (k := k) (.box p) hfree
  have hmem : Mem (Γ.ext (.cells cs e) k (.box p)) := mem_ext hs.mem hfree ⟨Γ.heap.size, cs, e, rfl, by simp [Cx.ext], hr.mono hle⟩
  have h1 := hs.le hle hmem (bx' := put s.bx k (.box p)) (by simp [Cx.ext, hs.bx])
  have h2 : RepV (Γ.ext (.cells cs e) k (.box p)) (.pt k [] 0) (.pointer (some ⟨w.heap.size, 0, none⟩)) := by
    rw [hw]; exact repV_pt (v := p) (by simp [Cx.ext, get_put_same]) (by simp [Cx.ext])
  have h3 := h1.put (d := some k) (fun j hj => by cases hj; exact hlt) h2
  exact ⟨_, _, _, _, _, hrun, .inl rfl, by rw [hk]; exact h3, by simp [World.alloc, Cx.ext, hw], hle, ⟨rfl, rfl, rfl⟩, hK⟩
theorem step_arr {o : Oper} {k sz : Nat} {l : List PV} {cs rest : List Value} {e : TypeId} {cap : Nat} {w' : World} {K : St → Prop} (hs : Sim nt ds s Γ a) (hw : w.heap = Γ.heap) (hk : o.dst = some k) (hlt : k < nt) (hfree : get s.bx k = none) (hsz : 0 < sz)
    (hr : RepL Γ l cs) (hwd : ∀ x ∈ l, x.width = sz) (hcap : cap * sz = (cs ++ rest).length) (hle' : l.length ≤ cap)
    (hrun : (execOp a.eval o).run P w = .ok (.value (.slice (some ⟨w.heap.size, 0, none⟩) l.length cap)) w') (hheap : w'.heap = w.heap.push (.cells (cs ++ rest).toArray e (0, 0))) (hwf : WF w w')
    (hK : K { env := put s.env k (.rs k [] 0 l.length l.length sz .tip), bx := put s.bx k (.arr sz l) }) : Stepd P nt ds o a w Γ K := by
  rw [← hs.bx] at hfree
  have hle := le_ext Γ (.cells (cs ++ rest).toArray e (0, 0)) (k := k) (.arr sz l) hfree
  have hh : (Γ.ext (.cells (cs ++ rest).toArray e (0, 0)) k (.arr sz l)).heap[Γ.heap.size]? = some (.cells (cs ++ rest).toArray e (0, 0)) := by simp [Cx.ext]
  have hmem : Mem (Γ.ext (.cells (cs ++ rest).toArray e (0, 0)) k (.arr sz l)) := mem_ext hs.mem hfree ⟨hwd, hsz, _, e, cs, rest, hh, rfl, hr.mono hle⟩
  have h1 := hs.le hle hmem (bx' := put s.bx k (.arr sz l)) (by simp [Cx.ext, hs.bx])
  have h2 : RepV (Γ.ext (.cells (cs ++ rest).toArray e (0, 0)) k (.arr sz l)) (.rs k [] 0 l.length l.length sz .tip) (.slice (some ⟨w.heap.size, 0, none⟩) l.length cap) := by
    rw [hw]
    simp only [RepV]
    refine .rs k [] 0 _ _ sz _ _ (.arr sz l) ⟨by simp [Cx.ext, get_put_same], by simp [Blk.tot]⟩ rfl (fun _ => ⟨_, _, rfl, ?_⟩) .nil
    unfold RsOk
    have : (Γ.ext (.cells (cs ++ rest).toArray e (0, 0)) k (.arr sz l)).ι k = some Γ.heap.size := by simp [Cx.ext]
    rw [this]
    exact ⟨hle', .inr (by simp [poff]), by simp, fun _ => ⟨rfl, _, e, hh, by simpa using hcap⟩⟩
  have h3 := h1.put (d := some k) (fun j hj => by cases hj; exact hlt) h2
  exact ⟨_, _, _, _, _, hrun, .inl rfl, by rw [hk]; exact h3, by rw [hheap, hw]; rfl, hle, hwf, hK⟩
theorem step_virt {o : Oper} {k sz : Nat} {ad : Option Addr} {K : St → Prop} (hs : Sim nt ds s Γ a) (hw : w.heap = Γ.heap) (hk : o.dst = some k) (hlt : k < nt) (hfree : get s.bx k = none) (hsz : 0 < sz)
    (hrun : (execOp a.eval o).run P w = .ok (.value (.slice ad 0 0)) w)
    (hK : K { env := put s.env k (.rs k [] 0 0 0 sz .tip), bx := put s.bx k (.arr sz []) }) : Stepd P nt ds o a w Γ K := by
  rw [← hs.bx] at hfree
  have hle := le_virt Γ (k := k) (.arr sz []) hfree
  have hmem : Mem (Γ.virt k (.arr sz [])) := mem_virt hs.mem hfree ⟨by simp, hsz, trivial⟩
  have h1 := hs.le hle hmem (bx' := put s.bx k (.arr sz [])) (by simp [Cx.virt, hs.bx])
  have h2 : RepV (Γ.virt k (.arr sz [])) (.rs k [] 0 0 0 sz .tip) (.slice ad 0 0) := by
    simp only [RepV]
    refine .rs k [] 0 _ _ sz _ _ (.arr sz []) ⟨by simp [Cx.virt, get_put_same], by simp [Blk.tot]⟩ rfl (fun _ => ⟨_, _, rfl, ?_⟩) .nil
    unfold RsOk
    have : (Γ.virt k (.arr sz [])).ι k = none := by simp [Cx.virt]
    rw [this]; exact ⟨rfl, rfl⟩
  have h3 := h1.put (d := some k) (fun j hj => by cases hj; exact hlt) h2
  exact ⟨_, _, _, _, Γ.virt k (.arr sz []), hrun, .inl rfl, by rw [hk]; exact h3, hw, hle, WF.refl w, hK⟩
theorem step_quiet {o : Oper} {p : PV} {v : Value} {w' : World} {Γ' : Cx} {K : St → Prop} (hs : Sim nt ds s Γ a) (hd : ∀ k, o.dst = some k → k < nt) (hle : Le Γ Γ') (hm : Mem Γ') (hb : Γ'.bx = Γ.bx)
    (hrun : (execOp a.eval o).run P w = .ok (.value v) w') (hh : w'.heap = Γ'.heap) (hwf : WF w w') (hr : RepV Γ' p v) (hK : K (s.put o.dst p)) : Stepd P nt ds o a w Γ K := by
  have h1 := hs.le hle hm (bx' := s.bx) (by rw [hb, hs.bx])
  exact ⟨_, v, w', _, _, hrun, .inl rfl, h1.put hd hr, hh, hle, hwf, hK⟩
theorem wk_width (p : PV) : (wk p).width = p.width := by cases p <;> simp [wk, PV.width]
theorem wkL_length (l : List PV) : (wkL l).length = l.length := by induction l <;> simp [wkL, *]
theorem wkL_eq (l : List PV) : wkL l = l.map wk := by induction l <;> simp [wkL, *]
theorem wkL_mem {l : List PV} {q : PV} (h : q ∈ wkL l) : ∃ p ∈ l, q = wk p := by
  rw [wkL_eq] at h; obtain ⟨p, hp, e⟩ := List.mem_map.1 h; exact ⟨p, hp, e.symm⟩
theorem wkL_width {l : List PV} {sz : Nat} (h : ∀ x ∈ l, x.width = sz) : ∀ x ∈ wkL l, x.width = sz := by
  intro x hx; obtain ⟨p, hp, rfl⟩ := wkL_mem hx; rw [wk_width]; exact h p hp
theorem RepL.wkL {l : List PV} {cs : List Value} (h : RepL Γ l cs) : RepL Γ (wkL l) cs := by
  induction h with
  | nil => exact .nil
  | un h hr ih => simp only [Ab.wkL, Ab.wk]; exact .un h ih
  | bl x hr ih => simp only [Ab.wkL, Ab.wk]; exact .bl x ih
  | int k n hr ih => simp only [Ab.wkL, Ab.wk]; exact .int k n ih
  | str l s h hr ih => simp only [Ab.wkL, Ab.wk]; exact .str l s h ih
  | st w l hl hw hr ihl ih => simp only [Ab.wkL, Ab.wk]; exact .st w _ ihl hw ih
  | ar sz n l hl hn hs hr ihl ih => simp only [Ab.wkL, Ab.wk]; exact .ar sz n _ ihl (by rw [wkL_length]; exact hn) (wkL_width hs) ih
  | sl sz l clip a rcap hl hw hc hk hb hr ihl ih =>
    simp only [Ab.wkL, Ab.wk]
    have := RepL.sl sz (Ab.wkL l) false a rcap ihl (wkL_width hw) (by rw [wkL_length]; exact hc) (by simp) (fun hne => hb (fun he => hne (by rw [he]; rfl))) ih
    rwa [wkL_length] at this
  | rs k p off len tot sz c v blk hg h1 hv hr ih => simp only [Ab.wkL, Ab.wk]; exact .rs k p off len tot sz c v blk hg h1 hv ih
  | np hr ih => simp only [Ab.wkL, Ab.wk]; exact .np ih
  | pt k p tot v blk hg h1 hv hr ih => simp only [Ab.wkL, Ab.wk]; exact .pt k p tot v blk hg h1 hv ih
  | fp sz l p b o hl hw hm hc hr ihl ih => simp only [Ab.wkL, Ab.wk]; exact .fp sz l p b o hl hw hm hc ih
  | fn f first cap h1 h2 h3 h4 hr i1 i2 ih => simp only [Ab.wkL, Ab.wk]; exact .fn f first cap h1 h2 h3 h4 ih
  | nf hr ih => simp only [Ab.wkL, Ab.wk]; exact .nf ih
  | ifc t v h1 h2 hr i1 ih => simp only [Ab.wkL, Ab.wk]; exact .ifc t v h1 h2 ih
  | ni hr ih => simp only [Ab.wkL, Ab.wk]; exact .ni ih
  | mp k b hr ih => simp only [Ab.wkL, Ab.wk]; exact .mp k b ih
theorem RepL.wk {p : PV} {cs : List Value} (h : RepL Γ [p] cs) : RepL Γ [wk p] cs := by
  have := h.wkL; simpa [Ab.wkL] using this
theorem RepV1.wk {p : PV} {v : Value} (h : RepV1 Γ p v) : RepV1 Γ (wk p) v := by
  cases p
  case st w l => obtain ⟨cs, h1, h2⟩ := h; simp only [Ab.wk]; exact ⟨cs, h1, by simpa [Ab.wk] using RepL.wk h2⟩
  case ar z n l => obtain ⟨cs, h1, h2⟩ := h; simp only [Ab.wk]; exact ⟨cs, h1, by simpa [Ab.wk] using RepL.wk h2⟩
  case sl z l c => have := RepL.wk (show RepL Γ [.sl z l c] [v] from h); simp only [Ab.wk] at this ⊢; exact this
  case tup l => have := RepL.wk (show RepL Γ [.tup l] [v] from h); cases h
  all_goals (simp only [Ab.wk]; exact h)
theorem AllV.wkL : ∀ {l : List PV} {vs : List Value}, AllV Γ l vs → AllV Γ (Ab.wkL l) vs
  | [], [], _ => trivial
  | [], _ :: _, h => by simp [AllV] at h
  | _ :: _, [], h => by simp [AllV] at h
  | p :: l, v :: vs, h => by simp only [AllV, Ab.wkL] at h ⊢; exact ⟨h.1.wk, AllV.wkL h.2⟩
theorem RepV.wk {p : PV} {v : Value} (h : RepV Γ p v) : RepV Γ (wk p) v := by
  cases p
  case st w l => obtain ⟨cs, h1, h2⟩ := h; simp only [Ab.wk]; exact ⟨cs, h1, by simpa [Ab.wk] using RepL.wk h2⟩
  case ar z n l => obtain ⟨cs, h1, h2⟩ := h; simp only [Ab.wk]; exact ⟨cs, h1, by simpa [Ab.wk] using RepL.wk h2⟩
  case sl z l c => simp only [RepV, Ab.wk] at h ⊢; simpa [Ab.wk] using RepL.wk h
  case tup l => simp only [RepV, Ab.wk] at h ⊢; obtain ⟨vs, e, h⟩ := h; exact ⟨vs, e, h.wkL⟩
  all_goals (simp only [Ab.wk]; exact h)
theorem snd_alloc {o : Oper} {t : TypeId} {z : PV} {K : St → Prop} (ho : o.op = .alloc t) (hz : zeroOf P t = some z) (hs : Sim nt ds s Γ a) (hw : w.heap = Γ.heap) (hd : ∀ k, o.dst = some k → k < nt) (he : ex s o.dst (.alloc z) K) :
    Stepd P nt ds o a w Γ K := by
  simp only [ex] at he
  split at he
  · rename_i k hk
    obtain ⟨v, hv, hr, _, _, _⟩ := zeroOf_rep (Γ := Γ) hz
    refine step_box (cs := v.cells) (e := t) hs hw hk (hd k hk) he.1 hr ?_ he.2
    simp only [execOp, ho, Instr.alloc, Sem.run_bind, hv, Result.andThen_ok, newVar, newRow]
    rfl
  · exact he.elim
theorem snd_box {o : Oper} {t : TypeId} {x : Operand} {y : AX} {K : St → Prop} (ho : o.op = .box t x) (hx : trX x = some y) (hs : Sim nt ds s Γ a) (hw : w.heap = Γ.heap) (hd : ∀ k, o.dst = some k → k < nt) (he : ex s o.dst (.box y) K) :
    Stepd P nt ds o a w Γ K := by
  simp only [ex] at he
  split at he
  · rename_i k hk
    obtain ⟨p, ⟨⟨h1, h2⟩, h3⟩, hr⟩ := vg_rep hx hs rfl he
    refine step_box (cs := (a.eval x).cells) (e := t) hs hw hk (hd k hk) h1 (hr.to_cells h2) ?_ h3
    simp only [execOp, ho, Instr.box, Sem.run_bind, newVar, newRow]
    rfl
  · exact he.elim
theorem repL_replicate {z : PV} {cs : List Value} (h : RepL Γ [z] cs) : ∀ n, RepL Γ (List.replicate n z) (List.replicate n cs).flatten
  | 0 => .nil
  | n + 1 => by rw [List.replicate_succ, List.replicate_succ, List.flatten_cons]; exact h.cons (repL_replicate h n)
theorem replicate_cells (z : Array Value) (n : Nat) : ((Array.range (n * z.size)).map (z[· % z.size]!)).toList = (List.replicate n z.toList).flatten := by
  induction n with
  | zero => simp
  | succ n ih =>
    have e : (n + 1) * z.size = n * z.size + z.size := by rw [Nat.add_mul]; omega
    rw [List.replicate_succ', List.flatten_append, ← ih, e]
    simp only [Array.toList_map, Array.toList_range, List.range_add, List.map_append, List.map_map, List.flatten_cons, List.flatten_nil, List.append_nil]
    congr 1
    apply List.ext_getElem?
    intro i
    by_cases hi : i < z.size
    · simp [hi, Nat.mod_eq_of_lt hi, Nat.add_mod, Nat.mul_mod_left]
    · simp [hi]
end Go.Ab
namespace Go.Ab
variable [Tabs]
variable {P : Program} {nt : Nat} {ds : List Deferred} {s : St} {Γ : Cx} {a : Act} {w : World}
theorem snd_buildSlice {o : Oper} {t e : TypeId} {n sz : Nat} {parts : Array (Nat × Operand)} {ps : List (Nat × AX)} {z : PV} {own : Bool} {K : St → Prop} (ho : o.op = .buildSlice t n parts) (hu : P.underlying t = some (.slice e))
    (hp : trParts parts.toList = some ps) (hz : zeroOf P e = some z) (hsz : szOf P e = some sz) (hpos : 0 < sz) (hlim : n * sz ≤ 2 ^ 24)
    (hs : Sim nt ds s Γ a) (hw : w.heap = Γ.heap) (hd : ∀ k, o.dst = some k → k < nt) (he : ex s o.dst (.buildSlice own sz z n ps) K) : Stepd P nt ds o a w Γ K := by
  simp only [ex] at he
  obtain ⟨qs, hq, hlen, hall⟩ := vgp_rep hs rfl hp he
  obtain ⟨zv, hzv, hzr, hzsz, _, hzs⟩ := zeroOf_rep (Γ := Γ) hz
  have hzw : z.width = sz := by rw [hsz] at hzsz; exact (Option.some.inj hzsz).symm
  split at hq
  · rename_i l hl
    have hzc : zv.cells.size = sz := by rw [hzs, hzw]
    have hinit : RepL Γ (List.replicate n z) ((Array.range (n * sz)).map (zv.cells[· % zv.cells.size]!)).toList := by
      have := replicate_cells zv.cells n
      rw [hzc] at this ⊢
      rw [this]
      exact repL_replicate hzr n
    have hwr : ∀ x ∈ List.replicate n z, x.width = sz := by intro x hx; rw [(List.mem_replicate.1 hx).2]; exact hzw
    obtain ⟨cells, h1, h2⟩ := fill_rep (Γ := Γ) (qs.map fun x => (x.1, wk x.2)) (parts.toList.map fun p => (p.1, a.eval p.2)) (fun i => some (i * sz, sz)) (List.replicate n z) l _ hinit hl (by simp [hlen])
      (fun i j p k u h3 h4 => by
        rw [List.getElem?_map, Option.map_eq_some_iff] at h3 h4
        obtain ⟨⟨k', x⟩, h5, h6⟩ := h4
        obtain ⟨⟨j', q⟩, h7, h8⟩ := h3
        simp only [Prod.mk.injEq] at h6 h8
        obtain ⟨rfl, rfl⟩ := h6
        obtain ⟨rfl, rfl⟩ := h8
        have := hall i j' q k' x h7 h5
        exact ⟨this.1, this.2.wk⟩)
      (fun i q hi => by
        have hil := (List.getElem?_eq_some_iff.1 hi).1
        rw [widths_take hwr (by omega), hwr q (List.mem_of_getElem? hi)])
    have hll : l.length = n := by rw [snd_build.setParts_length hl]; simp
    have hlw := snd_build.setParts_width hl hwr
    have hcs : cells.toList.length = n * sz := by rw [h2.length, widths_const hlw, hll]
    have hlt : ¬ n * sz > 2 ^ 24 := by omega
    have hfill : Instr.fill (fun i => some (i * sz, sz)) ((Array.range (n * sz)).map ((if n * sz = 0 then #[] else zv.cells)[· % (if n * sz = 0 then #[] else zv.cells).size]!)) (parts.map fun p => (p.1, a.eval p.2)).toList = some cells := by
      have e1 : (parts.map fun p => (p.1, a.eval p.2)).toList = parts.toList.map fun p => (p.1, a.eval p.2) := by simp
      rw [e1]
      by_cases h0 : n * sz = 0
      · rw [if_pos h0]
        rw [h0] at h1 ⊢
        have em : ∀ f : Nat → Value, Array.map f (Array.range 0) = #[] := fun f => by apply Array.ext'; simp
        rw [em] at h1 ⊢
        exact h1
      · rw [if_neg h0]; exact h1
    have hb : (Instr.buildSlice t n (parts.map fun p => (p.1, a.eval p.2))).run P w = .ok (.slice (some ⟨w.heap.size, 0, none⟩) n n) (w.alloc (.cells cells e)) := by
      simp only [Instr.buildSlice, Sem.run_bind, run_underlying hu, Result.andThen_ok, run_sizeOf hsz]
      rw [if_neg hlt]
      by_cases h0 : n * sz = 0
      · rw [if_pos h0]
        rw [if_pos h0] at hfill
        simp only [Sem.run_bind, Sem.run_pure, Result.andThen_ok]
        rw [hfill]
        rfl
      · rw [if_neg h0]
        rw [if_neg h0] at hfill
        simp only [Sem.run_bind, hzv, Sem.run_pure, Result.andThen_ok]
        rw [hfill]
        rfl
    have hrun : (execOp a.eval o).run P w = .ok (.value (.slice (some ⟨w.heap.size, 0, none⟩) n n)) (w.alloc (.cells cells e)) := by
      have e2 : execOp a.eval o = (do Pure.pure (Next.value (← Instr.buildSlice t n (parts.map fun p => (p.1, a.eval p.2))))) := by unfold execOp; rw [ho]
      rw [e2, Sem.run_bind, hb]; rfl
    split at hq
    · rename_i hown
      split at hq
      · rename_i k hk
        refine step_arr (P := P) (cs := cells.toList) (rest := []) (e := e) (cap := n) (w' := w.alloc (.cells cells e)) hs hw hk (hd k hk) hq.1 hpos h2 hlw (by rw [List.append_nil]; exact hcs.symm) (by omega) (by rw [hll]; exact hrun) (by rw [List.append_nil]; rfl) ⟨rfl, rfl, rfl⟩ (by rw [hll]; exact hq.2)
      · exact hq.elim
    · refine step_quiet hs hd (le_push Γ (.cells cells e)) (mem_push hs.mem _) rfl hrun (by show w.heap.push _ = Γ.heap.push _; rw [hw]) ⟨rfl, rfl, rfl⟩ ?_ hq
      simp only [RepV]
      have := RepL.sl (Γ := Γ.push (.cells cells e)) sz l true (some ⟨w.heap.size, 0, none⟩) n (h2.mono (le_push Γ _)) hlw (by omega) (fun _ => hll.symm) (fun _ => ⟨w.heap.size, 0, rfl, by simp [Cx.push, hw], by
        rw [hw]
        have := hs.mem.not_own_new
        exact this, fun i c hc => by
          have hi := (List.getElem?_eq_some_iff.1 hc).1
          simp only [cell, Cx.push, hw, Nat.zero_add, Array.getElem?_push_size]
          rw [← Array.getElem?_toList]; exact hc⟩) .nil
      rw [hll] at this
      exact this
  · exact hq.elim
theorem snd_makeSlice {o : Oper} {t e : TypeId} {i : TypeInfo} {ln cp : Operand} {ln' cp' : AX} {z : PV} {K : St → Prop} (ho : o.op = .makeSlice t ln cp) (hu : P.underlying t = some (.slice e)) (hl : trX ln = some ln') (hc : trX cp = some cp')
    (hz : zeroOf P e = some z) (hi : P.info? e = some i) (hpos : 0 < i.size)
    (hs : Sim nt ds s Γ a) (hw : w.heap = Γ.heap) (hd : ∀ k, o.dst = some k → k < nt) (he : ex s o.dst (.makeSlice i.size i.bytes z ln' cp') K) : Stepd P nt ds o a w Γ K := by
  simp only [ex] at he
  obtain ⟨p, hp, hr1⟩ := vg_rep hl hs rfl he
  obtain ⟨k1, l, hv1, hp⟩ := intK_rep hp hr1
  obtain ⟨q, hq, hr2⟩ := vg_rep hc hs rfl hp
  obtain ⟨k2, c, hv2, hK⟩ := intK_rep hq hr2
  obtain ⟨zv, hzv, hzr, hzsz, _, hzs⟩ := zeroOf_rep (Γ := Γ) hz
  have hzw : z.width = i.size := by rw [szOf_some hi] at hzsz; exact (Option.some.inj hzsz).symm
  have hzc : zv.cells.size = i.size := by rw [hzs, hzw]
  split at hK
  · rename_i k hk
    obtain ⟨⟨h1, h2, h3, h4, h5⟩, hK⟩ := hK
    have hwl : IntKind.i64.wrap l = l := by
      have e1 : (2 : Int) ^ IntKind.i64.bits = 18446744073709551616 := by decide
      have e2 : (2 : Int) ^ (IntKind.i64.bits - 1) = 9223372036854775808 := by decide
      simp only [IntKind.wrap, e1, e2]
      have : l % 18446744073709551616 = l := Int.emod_eq_of_lt h2 (by omega)
      rw [this]
      rw [if_neg (by simp; intro _; omega)]
    have hwc : IntKind.i64.wrap c = c := by
      have e1 : (2 : Int) ^ IntKind.i64.bits = 18446744073709551616 := by decide
      have e2 : (2 : Int) ^ (IntKind.i64.bits - 1) = 9223372036854775808 := by decide
      simp only [IntKind.wrap, e1, e2]
      have : c % 18446744073709551616 = c := Int.emod_eq_of_lt (by omega) (by omega)
      rw [this]
      rw [if_neg (by simp; intro _; omega)]
    have hcells : ((Array.range (c.toNat * i.size)).map (zv.cells[· % zv.cells.size]!)).toList = (List.replicate c.toNat zv.cells.toList).flatten := by
      have := replicate_cells zv.cells c.toNat
      rw [hzc] at this ⊢
      exact this
    have hsplit : (List.replicate c.toNat zv.cells.toList).flatten = (List.replicate l.toNat zv.cells.toList).flatten ++ (List.replicate (c.toNat - l.toNat) zv.cells.toList).flatten := by
      rw [← List.flatten_append, List.replicate_append_replicate, show l.toNat + (c.toNat - l.toNat) = c.toNat by omega]
    refine step_arr (P := P) (l := List.replicate l.toNat z) (cs := (List.replicate l.toNat zv.cells.toList).flatten) (rest := (List.replicate (c.toNat - l.toNat) zv.cells.toList).flatten) (e := e) (cap := c.toNat) (w' := w.alloc (.cells ((Array.range (c.toNat * i.size)).map (zv.cells[· % zv.cells.size]!)) e)) hs hw hk (hd k hk) h1 hpos (repL_replicate hzr _)
      (by intro x hx; rw [(List.mem_replicate.1 hx).2]; exact hzw) ?_ (by simp; omega) ?_ ?_ ⟨rfl, rfl, rfl⟩ (by simpa using hK)
    · rw [← hsplit, ← hcells]; simp
    · simp only [List.length_replicate]
      have hb : ¬ ((i.bytes : Int) * c > 2 ^ 48) := by
        have : (2 : Int) ^ 48 = 281474976710656 := by decide
        rw [this, Int.mul_comm]; omega
      have hm : (Instr.makeSlice t (a.eval ln) (a.eval cp)).run P w = .ok (.slice (some ⟨w.heap.size, 0, none⟩) l.toNat c.toNat) (w.alloc (.cells ((Array.range (c.toNat * i.size)).map (zv.cells[· % zv.cells.size]!)) e)) := by
        have hcond : ((decide (c < 0) || decide ((i.bytes : Int) * c > 2 ^ 48)) || decide (l < 0) || decide (l > c)) = false := by
          have e1 : decide (c < 0) = false := decide_eq_false (by omega)
          have e2 : decide ((i.bytes : Int) * c > 2 ^ 48) = false := decide_eq_false hb
          have e3 : decide (l < 0) = false := decide_eq_false (by omega)
          have e4 : decide (l > c) = false := decide_eq_false (by omega)
          rw [e1, e2, e3, e4]; rfl
        have hsz := szOf_some hi
        have hti : (typeInfo e).run P w = .ok i w := by simp [typeInfo, hi]
        simp only [Instr.makeSlice, Sem.run_bind, run_underlying hu, Result.andThen_ok, hv1, hv2, asInt, asIntOf, Sem.run_pure, hti, hwl, hwc]
        rw [if_neg (by rw [hcond]; simp)]
        simp only [Sem.run_bind, run_askRoom, Result.andThen_ok, run_sizeOf hsz]
        by_cases h0 : c.toNat * i.size = 0
        · rw [if_pos h0]
          have em : ∀ f : Nat → Value, Array.map f (Array.range (c.toNat * i.size)) = #[] := by intro f; rw [h0]; apply Array.ext'; simp
          simp only [Sem.run_bind, Sem.run_pure, Result.andThen_ok, em]
          rfl
        · rw [if_neg h0]
          simp only [Sem.run_bind, hzv, Result.andThen_ok, Sem.run_pure]
          rfl
      have e2 : execOp a.eval o = (do Pure.pure (Next.value (← Instr.makeSlice t (a.eval ln) (a.eval cp)))) := by unfold execOp; rw [ho]
      rw [e2, Sem.run_bind, hm]; rfl
    · rw [← hsplit, ← hcells]; rfl
  · exact hK.elim
theorem u8_cells (l : List UInt8) : RepL Γ (l.map u8) (l.map fun b => Value.int .u8 b.toNat) := by
  induction l with
  | nil => exact .nil
  | cons b l ih => exact .int .u8 _ ih
theorem snd_convB {o : Oper} {t d e : TypeId} {x : Operand} {x' : AX} {K : St → Prop} (ho : o.op = .convert t d x) (h1 : P.underlying t = some .string) (h2 : P.underlying d = some (.slice e)) (h3 : P.underlying e = some (.int .u8))
    (hx : trX x = some x') (hs : Sim nt ds s Γ a) (hw : w.heap = Γ.heap) (hd : ∀ k, o.dst = some k → k < nt) (he : ex s o.dst (.convB x') K) : Stepd P nt ds o a w Γ K := by
  simp only [ex] at he
  obtain ⟨p, hp, hr⟩ := vg_rep hx hs rfl he
  cases p <;> simp only at hp <;> first | exact hp.elim | skip
  rename_i l
  simp only [RepV] at hr
  obtain ⟨bs, hv, hl⟩ : ∃ bs : ByteArray, a.eval x = .string bs ∧ bs.data.toList = l := by
    generalize a.eval x = v at hr
    cases hr with
    | str l s h _ => exact ⟨s, rfl, h⟩
  subst hl
  have hrun0 := run_bytes_of_string (P := P) w t d e bs h1 h2 h3
  generalize hC : bytesRow bs (grownCap w bs.size 0 e) = C at hrun0
  have hrun : (execOp a.eval o).run P w = .ok (.value (.slice (some ⟨w.heap.size, 0, none⟩) bs.size (grownCap w bs.size 0 e))) (w.drew.alloc (.cells C e (C.size, C.size + 1))) := by
    have e2 : execOp a.eval o = (do Pure.pure (Next.value (← convert t d (a.eval x)))) := by unfold execOp; rw [ho]
    rw [e2, Sem.run_bind, hv, hrun0]; rfl
  refine step_quiet hs hd (le_push Γ (.cells C e (C.size, C.size + 1))) (mem_push hs.mem _) rfl hrun (by show w.heap.push _ = Γ.heap.push _; rw [hw]) ⟨rfl, rfl, rfl⟩ ?_ hp
  simp only [RepV]
  have hsz : (bs.data.toList.map u8).length = bs.size := by rw [List.length_map, Array.length_toList]; rfl
  have := RepL.sl (Γ := Γ.push (.cells C e (C.size, C.size + 1))) 1 (bs.data.toList.map u8) false (some ⟨w.heap.size, 0, none⟩) (grownCap w bs.size 0 e) (u8_cells _) (by
      intro x hx
      obtain ⟨b, _, rfl⟩ := List.mem_map.1 hx
      rfl) (by rw [hsz]; have := grownCap_ge w bs.size 0 e; omega) (by simp) (fun _ => ⟨w.heap.size, 0, rfl, by simp [Cx.push, hw], by
        rw [hw]
        exact hs.mem.not_own_new, fun i c hc => by
          simp only [cell, Cx.push, hw, Nat.zero_add, Array.getElem?_push_size]
          rw [← hC]
          simp only [bytesRow]
          have hi := (List.getElem?_eq_some_iff.1 hc).1
          rw [Array.getElem?_append_left (by simpa using hi)]
          rw [← hc]
          simp⟩) .nil
  rw [hsz] at this
  exact this
end Go.Ab
namespace Go.Ab
variable [Tabs]
variable {P : Program} {nt : Nat} {ds : List Deferred} {s : St} {Γ : Cx} {a : Act} {w : World}
theorem setB_rep (hm : Mem Γ) {k b : Nat} {blk blk' : Blk} {pth : List Step} {x : PV} {us : List Value} (hg : get Γ.bx k = some blk) (hb : Γ.ι k = some b) (hx : RepL Γ [x] us) (hset : setB blk pth x = some blk') :
    ∃ c e, Γ.heap[b]? = some (.cells c e (0, 0)) ∧ poff pth + us.length ≤ c.size ∧ blk'.tot = blk.tot ∧
      ∀ c', c'.toList = splice c.toList (poff pth) us → blk'.Rep (Γ.upd b (.cells c' e (0, 0)) k blk') (some b) := by
  have h := hm.blk k blk hg
  cases blk with
  | box v =>
    obtain ⟨b', c, e, h1, h2, h3⟩ := h
    rw [hb] at h1; cases h1
    simp only [setB] at hset
    split at hset
    · rename_i v' hv'
      simp only [Option.some.injEq] at hset; subst hset
      obtain ⟨g1, g2, g3⟩ := setP_rep hx pth h3 hv'
      refine ⟨c, e, h2, by simpa using g1, rfl, fun c' hc' => ?_⟩
      have hsz : c'.size = c.size := by rw [← Array.length_toList, hc', splice_length g1, Array.length_toList]
      refine ⟨b, c', e, rfl, by simp only [Cx.upd]; rw [Array.getElem?_setIfInBounds_self_of_lt (lt_of_get h2)], ?_⟩
      rw [hc']
      exact g3.mono (le_upd (blk' := .box v') hg hb h2 hsz (Nat.le_refl _))
    · simp at hset
  | arr sz l =>
    obtain ⟨h1, h2, h3⟩ := h
    rw [hb] at h3
    obtain ⟨c, e, cs, rest, h4, h5, h6⟩ := h3
    cases pth with
    | nil => simp [setB] at hset
    | cons st r =>
    cases st with
    | f => simp [setB] at hset
    | i j sz'' =>
      simp only [setB] at hset
      split at hset
      · rename_i hs; subst hs
        split at hset
        · rename_i cj hc
          split at hset
          · rename_i c2 hc2
            simp only [Option.some.injEq] at hset; subst hset
            have r3 := h6.at hc
            obtain ⟨g4, g5, g6⟩ := setP_rep hx r r3 hc2
            have g7 := r3.width1
            have := setL_rep h6 hc (by omega) g5 g6
            have hj := (List.getElem?_eq_some_iff.1 hc).1
            rw [widths_take h1 (by omega)] at this
            have hle : poff (Step.i j sz'' :: r) + us.length ≤ cs.length := by simp only [poff]; exact this.1
            have hcsz : c.size = cs.length + rest.length := by rw [← Array.length_toList, h5]; simp
            refine ⟨c, e, h4, by omega, by simp [Blk.tot], fun c' hc' => ?_⟩
            have hsz : c'.size = c.size := by rw [← Array.length_toList, hc', splice_length (by simp; omega), Array.length_toList]
            have hle2 := le_upd (Γ := Γ) (blk' := .arr sz'' (l.set j c2)) hg hb h4 hsz (by simp [Blk.tot])
            refine ⟨mem_set_width h1 (by rw [g5]; exact h1 cj (List.mem_of_getElem? hc)), h2, c', e, splice cs (poff (Step.i j sz'' :: r)) us, rest, by simp only [Cx.upd]; rw [Array.getElem?_setIfInBounds_self_of_lt (lt_of_get h4)], ?_, ?_⟩
            · rw [hc', h5]; exact splice_append hle
            · exact (by simpa only [poff] using this.2 : RepL Γ _ _).mono hle2
          · simp at hset
        · simp at hset
      · simp at hset
    | w o n s => simp [setB] at hset
  | map b0 ks vs l => simp [setB] at hset
where
  splice_append {cs rest us : List Value} {o : Nat} (h : o + us.length ≤ cs.length) : splice (cs ++ rest) o us = splice cs o us ++ rest := by
    simp only [splice]
    rw [List.take_append_of_le_length (by omega), List.drop_append_of_le_length (by omega)]
    simp
theorem snd_store {o : Oper} {t : TypeId} {n : Nat} {x y : Operand} {x' y' : AX} {K : St → Prop} (ho : o.op = .store t x y) (hn : szOf P t = some n) (hx : trX x = some x') (hy : trX y = some y')
    (hs : Sim nt ds s Γ a) (hw : w.heap = Γ.heap) (hd : o.dst = none) (he : ex s o.dst (.store n x' y') K) : Stepd P nt ds o a w Γ K := by
  simp only [ex] at he
  obtain ⟨p, hp, hr1⟩ := vg_rep hx hs rfl he
  obtain ⟨v, hv, hr2⟩ := vg_rep hy hs rfl hp
  split at hv
  · rename_i k pth tot
    split at hv
    · rename_i blk hg
      split at hv
      · rename_i blk' hset
        obtain ⟨⟨h1, h2, h3⟩, hK⟩ := hv
        rw [← hs.bx] at hg
        obtain ⟨b, hι, hpv⟩ := hr1.pt hg h1
        have hcells := hr2.to_cells h3
        have hcells' : RepL Γ [wkb blk v] (a.eval y).cells.toList := by
          cases blk
          · exact hcells
          · exact hcells.wk
          · exact hcells
        obtain ⟨c, e, g1, g2, g3, g4⟩ := setB_rep hs.mem hg hι hcells' hset
        have hvs : (a.eval y).cells.size = n := by rw [← h2, ← hcells.width1]; simp
        obtain ⟨w', r1, r2, r3⟩ := run_storeVar (P := P) (w := w) (t := t) (b := b) (o := poff pth) (c := c) (e := e) (v := a.eval y) (by rw [hw]; exact g1) hn hvs (by have := g2; simp at this; omega) (fun z hz => hcells.one z hz)
        have hsz : (splice c.toList (poff pth) (a.eval y).cells.toList).toArray.size = c.size := by simp [splice_length (show poff pth + (a.eval y).cells.toList.length ≤ c.toList.length by simpa using g2)]
        have hle := le_upd (Γ := Γ) (blk' := blk') hg hι g1 hsz (by omega)
        have hmem := mem_upd (Γ := Γ) (blk' := blk') hs.mem hg hι g1 hsz (by omega) (g4 _ (by simp))
        have h1 := hs.le hle hmem (bx' := put s.bx k blk') (by simp [Cx.upd, hs.bx])
        refine ⟨.skip, undef, w', _, _, ?_, .inr ⟨rfl, rfl⟩, by rw [hd]; exact h1, by rw [r2, hw]; rfl, hle, r3, hK⟩
        have e2 : execOp a.eval o = (do Instr.storeAt t (a.eval x) (a.eval y); Pure.pure Next.skip) := by unfold execOp; rw [ho]
        rw [e2, Sem.run_bind]
        simp only [Instr.storeAt, hpv, Instr.sureAddr, Sem.run_bind, Sem.run_pure, Result.andThen_ok, r1]
      · exact hv.elim
    · exact hv.elim
  · exact hv.elim
theorem Blk.tot_le (a b : List PV) (sz : Nat) : (Blk.arr sz a).tot ≤ (Blk.arr sz (a ++ b)).tot := by simp [Blk.tot]
theorem src_rep {str : Bool} {sz : Nat} {q : PV} {v : Value} {K : List PV → Prop} (hs : Sim nt ds s Γ a) (hw : w.heap = Γ.heap) (h : src s str sz q K) (hr : RepV Γ q v) :
    ∃ ys news, K ys ∧ Shows w sz ys.length v news ∧ RepL Γ ys news ∧ (∀ x ∈ ys, x.width = sz) := by
  unfold src at h
  split at h
  · split at h
    · rename_i bs
      obtain ⟨st, hv, hd⟩ := hr.str
      obtain ⟨rfl, hK⟩ := h
      have hlen : bs.length = st.size := by rw [← hd]; exact Array.length_toList
      refine ⟨_, _, hK, .inr ⟨st, hv, by simp [hlen], rfl, rfl⟩, ?_, ?_⟩
      · rw [hd]
        clear hK hlen hd hv hr
        induction bs with
        | nil => exact .nil
        | cons b bs ih => exact .int _ _ ih
      · intro x hx; obtain ⟨b, _, rfl⟩ := List.mem_map.1 hx; rfl
    · exact h.elim
  · obtain ⟨sz', l, cs, ad, rcap, ⟨h1, hK⟩, hv, hl, hcell, hle, hwd⟩ := content_rep hs h hr
    refine ⟨l, cs, hK, .inl ⟨ad, rcap, hv, fun hpos => ?_⟩, hl, fun x hx => ?_⟩
    · obtain ⟨b, o, e1, e2⟩ := hcell (by intro h; subst h; simp at hpos)
      exact ⟨b, o, e1, by rw [hw]; exact e2⟩
    · rcases h1 with rfl | rfl
      · simp at hx
      · exact hwd x hx
end Go.Ab
namespace Go.Ab
variable [Tabs]
variable {P : Program} {nt : Nat} {ds : List Deferred} {s : St} {Γ : Cx} {a : Act} {w : World}
theorem le_move (Γ : Cx) (o : Obj) {k : Nat} {blk blk' : Blk} (hk : get Γ.bx k = some blk) (ht : blk.tot < blk'.tot) : Le Γ (Γ.ext o k blk') where
  heap b hb _ := push_old _ _ hb
  mutb b hb h := by
    obtain ⟨i, bl, hg, hi⟩ := h
    simp only [Cx.ext] at hg hi
    by_cases hik : i = k
    · subst hik; simp at hi; omega
    · rw [if_neg hik] at hi
      rw [get_put_ne _ _ _ _ (fun h => hik h.symm)] at hg
      exact ⟨i, bl, hg, hi⟩
  prot := rfl
  size := by simp [Cx.ext]
  ref i bl h := by
    by_cases hik : i = k
    · subst hik
      rw [hk] at h; cases h
      exact ⟨blk', by simp [Cx.ext, get_put_same], by omega, fun e => by omega⟩
    · exact ⟨bl, by simp only [Cx.ext]; rw [get_put_ne _ _ _ _ (fun h => hik h.symm)]; exact h, Nat.le_refl _, fun _ => ⟨by simp [Cx.ext, hik], fun b _ cs e hc => ⟨cs, by rw [← hc]; exact push_old _ _ (lt_of_get hc), rfl⟩⟩⟩
theorem mem_move (hm : Mem Γ) {o : Obj} {k : Nat} {blk blk' : Blk} (hk : get Γ.bx k = some blk) (ht : blk.tot < blk'.tot) (hr : blk'.Rep (Γ.ext o k blk') (some Γ.heap.size)) : Mem (Γ.ext o k blk') where
  blk i bl h := by
    by_cases hik : i = k
    · subst hik
      simp only [Cx.ext, get_put_same, Option.some.injEq] at h
      subst h
      have : (Γ.ext o i blk').ι i = some Γ.heap.size := by simp [Cx.ext]
      rw [this]; exact hr
    · simp only [Cx.ext] at h
      rw [get_put_ne _ _ _ _ (fun h => hik h.symm)] at h
      have := hm.blk i bl h
      have e : (Γ.ext o k blk').ι i = Γ.ι i := by simp [Cx.ext, hik]
      rw [e]
      exact this.mono (le_move Γ o hk ht) (fun b hb => by rw [hb] at this; exact push_old _ _ this.lt)
  inj i j b hi hj h1 h2 := by
    simp only [Cx.ext, get_put] at hi hj h1 h2
    by_cases hik : i = k <;> by_cases hjk : j = k
    · rw [hik, hjk]
    · rw [if_pos hik] at h1
      rw [if_neg hjk] at h2
      rw [if_neg (fun h => hjk h.symm)] at hj
      obtain ⟨bl, hbl⟩ := Option.isSome_iff_exists.1 hj
      have := hm.lt ⟨j, bl, hbl, h2⟩
      simp at h1; omega
    · rw [if_neg hik] at h1
      rw [if_pos hjk] at h2
      rw [if_neg (fun h => hik h.symm)] at hi
      obtain ⟨bl, hbl⟩ := Option.isSome_iff_exists.1 hi
      have := hm.lt ⟨i, bl, hbl, h1⟩
      simp at h2; omega
    · rw [if_neg hik] at h1
      rw [if_neg hjk] at h2
      rw [if_neg (fun h => hik h.symm)] at hi
      rw [if_neg (fun h => hjk h.symm)] at hj
      exact hm.inj i j b hi hj h1 h2
  prot b h := by have := hm.prot b h; simp only [Cx.ext, Array.size_push]; omega
  apart b h hp := by
    have hlt := hm.prot b hp
    exact hm.apart b ((le_move Γ o hk ht).mutb b hlt h) hp
  tab := hm.tab_le (le_move Γ o hk ht)
theorem le_bx {bx : List (Nat × Blk)} (h : ∀ i, get bx i = get Γ.bx i) : Le Γ { Γ with bx := bx } where
  heap _ _ _ := rfl
  mutb b _ hm := by obtain ⟨k, blk, hg, hk⟩ := hm; exact ⟨k, blk, by rw [← h]; exact hg, hk⟩
  prot := rfl
  size := Nat.le_refl _
  ref k blk hg := ⟨blk, by show get bx k = _; rw [h]; exact hg, Nat.le_refl _, fun _ => ⟨rfl, fun _ _ cs _ hc => ⟨cs, hc, rfl⟩⟩⟩
theorem mem_bx (hm : Mem Γ) {bx : List (Nat × Blk)} (h : ∀ i, get bx i = get Γ.bx i) : Mem { Γ with bx := bx } where
  blk k blk hg := (hm.blk k blk (by rw [← h]; exact hg)).mono (le_bx h) (fun _ _ => rfl)
  inj i j b hi hj h1 h2 := hm.inj i j b (by rw [← h]; exact hi) (by rw [← h]; exact hj) h1 h2
  prot := hm.prot
  apart b hb := hm.apart b ((le_bx h).mutb b (hm.lt (by obtain ⟨k, blk, hg, hk⟩ := hb; exact ⟨k, blk, by rw [← h]; exact hg, hk⟩)) hb)
  tab := hm.tab_le (le_bx h)
theorem get_put_self {α : Type} {l : List (Nat × α)} {k : Nat} {x : α} (h : get l k = some x) : ∀ i, get (put l k x) i = get l i := by
  intro i
  rw [get_put]
  split
  · subst_vars; exact h.symm
  · rfl
theorem step_move {o : Oper} {k d sz : Nat} {blk : Blk} {l : List PV} {cs rest : List Value} {e : TypeId} {cap : Nat} {w' : World} {K : St → Prop} (hs : Sim nt ds s Γ a) (hw : w.heap = Γ.heap) (hk : o.dst = some d) (hlt : d < nt) (hg : get s.bx k = some blk)
    (ht : blk.tot < l.length) (hsz : 0 < sz) (hr : RepL Γ l cs) (hwd : ∀ x ∈ l, x.width = sz) (hcap : cap * sz = (cs ++ rest).length) (hle' : l.length ≤ cap)
    (hrun : (execOp a.eval o).run P w = .ok (.value (.slice (some ⟨w.heap.size, 0, none⟩) l.length cap)) w') (hheap : w'.heap = w.heap.push (.cells (cs ++ rest).toArray e (0, 0))) (hwf : WF w w')
    (hK : K { env := put s.env d (.rs k [] 0 l.length l.length sz .tip), bx := put s.bx k (.arr sz l) }) : Stepd P nt ds o a w Γ K := by
  rw [← hs.bx] at hg
  have hle := le_move Γ (.cells (cs ++ rest).toArray e (0, 0)) (k := k) (blk' := .arr sz l) hg (by simpa [Blk.tot] using ht)
  have hh : (Γ.ext (.cells (cs ++ rest).toArray e (0, 0)) k (.arr sz l)).heap[Γ.heap.size]? = some (.cells (cs ++ rest).toArray e (0, 0)) := by simp [Cx.ext]
  have hmem : Mem (Γ.ext (.cells (cs ++ rest).toArray e (0, 0)) k (.arr sz l)) := mem_move hs.mem hg (by simpa [Blk.tot] using ht) ⟨hwd, hsz, _, e, cs, rest, hh, rfl, hr.mono hle⟩
  have h1 := hs.le hle hmem (bx' := put s.bx k (.arr sz l)) (by simp [Cx.ext, hs.bx])
  have h2 : RepV (Γ.ext (.cells (cs ++ rest).toArray e (0, 0)) k (.arr sz l)) (.rs k [] 0 l.length l.length sz .tip) (.slice (some ⟨w.heap.size, 0, none⟩) l.length cap) := by
    rw [hw]
    simp only [RepV]
    refine .rs k [] 0 _ _ sz _ _ (.arr sz l) ⟨by simp [Cx.ext, get_put_same], by simp [Blk.tot]⟩ rfl (fun _ => ⟨_, _, rfl, ?_⟩) .nil
    unfold RsOk
    have : (Γ.ext (.cells (cs ++ rest).toArray e (0, 0)) k (.arr sz l)).ι k = some Γ.heap.size := by simp [Cx.ext]
    rw [this]
    exact ⟨hle', .inr (by simp [poff]), by simp, fun _ => ⟨rfl, _, e, hh, by simpa using hcap⟩⟩
  have h3 := h1.put (d := some d) (fun j hj => by cases hj; exact hlt) h2
  exact ⟨_, _, _, _, _, hrun, .inl rfl, by rw [hk]; exact h3, by rw [hheap, hw]; rfl, hle, hwf, hK⟩
theorem exec_builtin2 {o : Oper} {b : Builtin} {x y : Operand} {t u : TypeId} {f : Array TypeId → TypeId → Array Value → Sem Value} (ho : o.op = .call { callee := .builtin b, args := #[x, y], argTypes := #[t, u] })
    (hb : ∀ {c : Array Bool} {args : Array Value}, builtin b #[t, u] o.type c args = (do Pure.pure (Next.value (← f #[t, u] o.type args)))) :
    execOp a.eval o = (do Pure.pure (Next.value (← f #[t, u] o.type #[a.eval x, a.eval y]))) := by
  have e1 : Array.map a.eval #[x, y] = #[a.eval x, a.eval y] := by simp
  rw [← e1, ← hb (c := (#[x, y] : Array Operand).map fun | .const _ => true | _ => false)]
  unfold execOp
  rw [ho]
  rfl
theorem exec_append {o : Oper} {x y : Operand} {t u : TypeId} (ho : o.op = .call { callee := .builtin .append, args := #[x, y], argTypes := #[t, u] }) {r : Value} {w' : World}
    (h : (Builtin.append_ #[t, u] o.type #[a.eval x, a.eval y]).run P w = .ok r w') : (execOp a.eval o).run P w = .ok (.value r) w' := by
  have e2 : execOp a.eval o = (do Pure.pure (Next.value (← Builtin.append_ #[t, u] o.type #[a.eval x, a.eval y]))) := exec_builtin2 ho rfl
  rw [e2, Sem.run_bind, h]; rfl
theorem snd_append {o : Oper} {t u e : TypeId} {d : TypeDesc} {i : TypeInfo} {z : Value} {x y : Operand} {x' y' : AX} {str : Bool} {K : St → Prop} (ho : o.op = .call { callee := .builtin .append, args := #[x, y], argTypes := #[t, u] })
    (ht : P.underlying t = some (.slice e)) (hu : P.underlying u = some d) (hdd : (∃ x, d = .slice x) ∨ d = .string) (hi : P.info? e = some i) (hz : i.zero = some z) (hzs : z.cells.size = i.size) (hpos : 0 < i.size)
    (hx : trX x = some x') (hy : trX y = some y') (hs : Sim nt ds s Γ a) (hw : w.heap = Γ.heap) (hd : ∀ k, o.dst = some k → k < nt) (he : ex s o.dst (.append i.size i.bytes str x' y') K) : Stepd P nt ds o a w Γ K := by
  simp only [ex] at he
  obtain ⟨p, hp, hr1⟩ := vg_rep hx hs rfl he
  obtain ⟨q, hq, hr2⟩ := vg_rep hy hs rfl hp
  obtain ⟨ys, news, hA, hsh, hnl, hnw⟩ := src_rep hs hw hq hr2
  have hnlen : news.length = ys.length * i.size := by rw [hnl.length, widths_const hnw]
  have hnone := hnl.one
  -- a fresh array out of what is there and what comes
  have fresh : ∀ {k : Nat} {ad : Option Addr} {l : List PV} {cs : List Value} {rcap : Nat}, o.dst = some k → a.eval x = .slice ad l.length rcap → rcap < l.length + ys.length → RepL Γ l cs → (∀ x ∈ l, x.width = i.size) →
      (l ≠ [] → ∃ b o, ad = some ⟨b, o, none⟩ ∧ ∀ i c, cs[i]? = some c → cell Γ.heap b (o + i) = some c) → (l.length + ys.length) * i.bytes ≤ 140737488355328 → l.length + ys.length ≤ 9223372036854775807 →
      ∃ w' cap, (execOp a.eval o).run P w = .ok (.value (.slice (some ⟨w.heap.size, 0, none⟩) (l ++ ys).length cap)) w' ∧ (l ++ ys).length ≤ cap ∧ WF w w' ∧
        w'.heap = w.heap.push (.cells ((cs ++ news) ++ (Builtin.zeroCells z.cells (cap - (l.length + ys.length))).toList).toArray e (0, 0)) ∧ cap * i.size = ((cs ++ news) ++ (Builtin.zeroCells z.cells (cap - (l.length + ys.length))).toList).length := by
    intro k ad l cs rcap hk hv hlt hl hwd hcell hb h63
    have hcl : cs.length = l.length * i.size := by rw [hl.length, widths_const hwd]
    obtain ⟨w', cap, r1, r2, r3, r4⟩ := run_append_grow' (P := P) (w := w) (ty := o.type) ht hu hdd hi hz (ad := ad) (sLen := l.length) (sCap := rcap) (n := ys.length) (y := a.eval y) (olds := cs) (news := news)
      (.inl ⟨ad, rcap, rfl, fun hpos => by rw [hw]; exact hcell (by intro h; subst h; simp at hpos)⟩) hcl hsh hnlen hlt h63 hb
    refine ⟨w', cap, ?_, by simpa using r2, r4, by simpa using r3, ?_⟩
    · rw [← hv] at r1
      rw [List.length_append]
      exact exec_append ho r1
    · simp only [List.length_append, Array.length_toList, zeroCells_length, hzs, hcl, hnlen, ← Nat.add_mul]
      congr 1; omega
  unfold exAppend at hA
  split at hA
  · exact hA.elim
  · rename_i k hk
    split at hA
    · rename_i sz0 l
      obtain ⟨⟨h1, h2, h3, h4⟩, hK⟩ := hA
      obtain ⟨ad, rcap, cs, hv, hl, hwd, hc, hclip, hb⟩ := hr1.sl
      have hrc := hclip rfl
      subst hrc
      by_cases hys : ys = []
      · subst hys
        have hl0 : l = [] := by rcases h2 with h2 | h2; exact h2; exact absurd rfl h2.2
        subst hl0
        have hn0 : news = [] := List.eq_nil_of_length_eq_zero (by simpa using hnlen)
        subst hn0
        have := run_append_none' (P := P) (w := w) (ty := o.type) ht hu hdd hi (ad := ad) (sLen := 0) (sCap := 0) hsh (Nat.le_refl _)
        rw [show Value.slice ad 0 0 = a.eval x from hv.symm] at this
        exact step_virt (ad := ad) hs hw hk (hd k hk) h1 hpos (by rw [exec_append ho this, hv]; rfl) hK
      · have hwd' : ∀ x ∈ l, x.width = i.size := by
          rcases h2 with h2 | h2
          · subst h2; simp
          · rw [← h2.1]; exact hwd
        have hpos' : 0 < ys.length := List.length_pos_iff.2 hys
        obtain ⟨w', cap, r1, r2, r3, r4, r5⟩ := fresh hk hv (by omega) hl hwd' (fun hne => let ⟨b, o, g1, _, _, g4⟩ := hb hne; ⟨b, o, g1, g4⟩) h3 h4
        exact step_arr hs hw hk (hd k hk) h1 hpos (hl.append hnl) (fun x hx => (List.mem_append.1 hx).elim (hwd' x) (hnw x)) r5 r2 r1 r4 r3 (by rw [List.length_append]; exact hK)
    · rename_i k2 len tot sz'
      split at hA
      · rename_i sz'' l hg
        obtain ⟨⟨h1, h2, h3, h4, h5, h6⟩, hK⟩ := hA
        subst h1 h2 h3 h4
        have hg' := hg
        rw [← hs.bx] at hg'
        obtain ⟨ad, rcap, hv, hok⟩ := hr1.rs hg' rfl
        obtain ⟨hwd, _, hblk⟩ := hs.mem.blk k2 _ hg'
        unfold RsOk at hok
        cases hι : Γ.ι k2 with
        | none =>
          rw [hι] at hok
          have hl0 : l = [] := List.eq_nil_of_length_eq_zero hok.1
          subst hl0
          obtain ⟨_, rfl⟩ := hok
          by_cases hys : ys = []
          · subst hys
            have hn0 : news = [] := List.eq_nil_of_length_eq_zero (by simpa using hnlen)
            subst hn0
            have := run_append_none' (P := P) (w := w) (ty := o.type) ht hu hdd hi (ad := ad) (sLen := 0) (sCap := 0) hsh (Nat.le_refl _)
            rw [show Value.slice ad 0 0 = a.eval x from hv.symm] at this
            have hself := get_put_self hg'
            have q1 := hs.le (le_bx hself) (mem_bx hs.mem hself) (bx' := put s.bx k2 (.arr i.size [])) (by rw [hs.bx])
            have q2 := (hr1.mono (le_bx hself))
            have q3 := q1.put (d := some k) (fun j hj => by cases hj; exact hd k hk) q2
            exact ⟨_, _, w, _, { Γ with bx := put Γ.bx k2 (.arr i.size []) }, exec_append ho this, .inl rfl, by rw [hk]; exact q3, hw, le_bx hself, WF.refl w, hK⟩
          · have hpos' : 0 < ys.length := List.length_pos_iff.2 hys
            obtain ⟨w', cap, r1, r2, r3, r4, r5⟩ := fresh (l := []) (cs := []) hk hv (by simpa using hpos') .nil (by simp) (by simp) (by simpa using h5) (by simpa using h6)
            exact step_move (l := [] ++ ys) hs hw hk (hd k hk) hg (by simpa [Blk.tot] using hpos') hpos (RepL.nil.append hnl) (by simpa using hnw) r5 r2 r1 r4 r3 (by rw [List.length_append]; exact hK)
        | some b =>
          rw [hι] at hok hblk
          obtain ⟨o1, o2, _, o4⟩ := hok
          obtain ⟨_, cs0, e0, q1, q2⟩ := o4 rfl
          obtain ⟨c, ce, cs, rest, h7, h8, h9⟩ := hblk
          rw [q1] at h7
          simp only [Option.some.injEq, Obj.cells.injEq] at h7
          obtain ⟨rfl, rfl, _⟩ := h7
          have hcl : cs.length = l.length * i.size := by rw [h9.length, widths_const hwd]
          have hcsz : cs0.size = cs.length + rest.length := by rw [← Array.length_toList, h8]; simp
          simp only [Nat.zero_add] at q2
          by_cases hroom : l.length + ys.length ≤ rcap
          · by_cases hz0 : rcap = 0
            · have hl0 : l = [] := List.eq_nil_of_length_eq_zero (by omega)
              have hy0 : ys = [] := List.eq_nil_of_length_eq_zero (by omega)
              subst hl0 hy0 hz0
              have hn0 : news = [] := List.eq_nil_of_length_eq_zero (by simpa using hnlen)
              subst hn0
              have := run_append_none' (P := P) (w := w) (ty := o.type) ht hu hdd hi (ad := ad) (sLen := 0) (sCap := 0) hsh (Nat.le_refl _)
              rw [show Value.slice ad 0 0 = a.eval x from hv.symm] at this
              have hself := get_put_self hg'
              have q1 := hs.le (le_bx hself) (mem_bx hs.mem hself) (bx' := put s.bx k2 (.arr i.size [])) (by rw [hs.bx])
              have q2 := (hr1.mono (le_bx hself))
              have q3 := q1.put (d := some k) (fun j hj => by cases hj; exact hd k hk) q2
              exact ⟨_, _, w, _, { Γ with bx := put Γ.bx k2 (.arr i.size []) }, exec_append ho this, .inl rfl, by rw [hk]; exact q3, hw, le_bx hself, WF.refl w, hK⟩
            · rcases o2 with o2 | rfl
              · exact absurd o2 hz0
              simp only [poff, Nat.zero_mul, Nat.add_zero] at hv
              have hin : 0 + l.length * i.size + ys.length * i.size ≤ cs0.size := by
                rw [← q2, Nat.zero_add, ← Nat.add_mul]; exact Nat.mul_le_mul_right _ hroom
              obtain ⟨w', r1, r2, r3⟩ := run_append_room' (P := P) (w := w) (ty := o.type) ht hu hdd hi (b := b) (o := 0) (sLen := l.length) (sCap := rcap) (n := ys.length) (c := cs0) (ce := e0) hsh hnlen hnone hroom (by rw [hw]; exact q1) hin
              rw [← hv] at r1
              have hspl : splice cs0.toList (0 + l.length * i.size) news = (cs ++ news) ++ rest.drop news.length := by
                rw [h8, Nat.zero_add, ← hcl]
                simp only [splice]
                rw [List.take_left, ← List.drop_drop, List.drop_left]
              have hsz' : (splice cs0.toList (0 + l.length * i.size) news).toArray.size = cs0.size := by
                have := splice_length (cs := cs0.toList) (us := news) (o := 0 + l.length * i.size) (by rw [hnlen]; simpa using hin)
                simpa using this
              have hle := le_upd (Γ := Γ) (blk' := .arr i.size (l ++ ys)) hg' hι q1 hsz' (by simp [Blk.tot])
              have hrep : (Blk.arr i.size (l ++ ys)).Rep (Γ.upd b (.cells (splice cs0.toList (0 + l.length * i.size) news).toArray e0 (0, 0)) k2 (.arr i.size (l ++ ys))) (some b) :=
                ⟨fun x hx => (List.mem_append.1 hx).elim (hwd x) (hnw x), hpos, _, e0, cs ++ news, rest.drop news.length, by simp only [Cx.upd]; rw [Array.getElem?_setIfInBounds_self_of_lt (lt_of_get q1)], by simpa using hspl, (h9.append hnl).mono hle⟩
              have hmem := mem_upd (Γ := Γ) (blk' := .arr i.size (l ++ ys)) hs.mem hg' hι q1 hsz' (by simp [Blk.tot]) hrep
              have t1 := hs.le hle hmem (bx' := put s.bx k2 (.arr i.size (l ++ ys))) (by simp [Cx.upd, hs.bx])
              have t2 : RepV (Γ.upd b (.cells (splice cs0.toList (0 + l.length * i.size) news).toArray e0 (0, 0)) k2 (.arr i.size (l ++ ys))) (.rs k2 [] 0 (l.length + ys.length) (l.length + ys.length) i.size .tip) (.slice (some ⟨b, 0, none⟩) (l.length + ys.length) rcap) := by
                simp only [RepV]
                refine .rs k2 [] 0 _ _ i.size _ _ (.arr i.size (l ++ ys)) ⟨by simp [Cx.upd, get_put_same], by simp [Blk.tot]⟩ rfl (fun _ => ⟨_, _, rfl, ?_⟩) .nil
                unfold RsOk
                rw [show (Γ.upd b (.cells (splice cs0.toList (0 + l.length * i.size) news).toArray e0 (0, 0)) k2 (.arr i.size (l ++ ys))).ι k2 = some b from hι]
                refine ⟨hroom, .inr (by simp [poff]), by simp, fun _ => ⟨rfl, _, e0, by simp only [Cx.upd]; rw [Array.getElem?_setIfInBounds_self_of_lt (lt_of_get q1)], by rw [hsz', Nat.zero_add]; exact q2⟩⟩
              have t3 := t1.put (d := some k) (fun j hj => by cases hj; exact hd k hk) t2
              exact ⟨_, _, w', _, _, exec_append ho r1, .inl rfl, by rw [hk]; exact t3, by rw [r2, hw]; rfl, hle, r3, hK⟩
          · have hcell : l ≠ [] → ∃ b o, ad = some ⟨b, o, none⟩ ∧ ∀ i c, cs[i]? = some c → cell Γ.heap b (o + i) = some c := by
              intro hne
              have := List.length_pos_iff.2 hne
              rcases o2 with o2 | rfl
              · omega
              exact ⟨b, _, rfl, by simpa [poff] using cells_block q1 cs rest h8⟩
            obtain ⟨w', cap, r1, r2, r3, r4, r5⟩ := fresh hk hv (by omega) h9 hwd hcell h5 h6
            have hy0 : 0 < ys.length := by omega
            exact step_move (l := l ++ ys) hs hw hk (hd k hk) hg (by simp [Blk.tot]; omega) hpos (h9.append hnl) (fun x hx => (List.mem_append.1 hx).elim (hwd x) (hnw x)) r5 r2 r1 r4 r3 (by rw [List.length_append]; exact hK)
      · exact hA.elim
    · rename_i k2 p off len tot sz'
      obtain ⟨sz'', l, cs, ad, rcap, ⟨⟨h1, rfl, h3, h4, h5⟩, hK⟩, hv, hl, hcell, hle, hwd⟩ := content_rep hs hA hr1
      have hrc : rcap = l.length := by
        have hA' := hA
        simp only [content] at hA'
        split at hA'
        · rename_i hb
          rw [← hs.bx] at hb
          obtain ⟨ad2, rcap2, hv2, hok⟩ := hr1.rs hb (by simpa [Blk.tot] using hA'.1.1)
          rw [hv] at hv2
          simp only [Value.slice.injEq] at hv2
          obtain ⟨rfl, hle2, rfl⟩ := hv2
          unfold RsOk at hok
          split at hok
          · omega
          · have := hok.2.2.1 rfl; omega
        · rename_i hb
          split at hA'
          · rw [← hs.bx] at hb
            obtain ⟨ad2, rcap2, hv2, hok⟩ := hr1.rs hb (by simpa [Blk.tot] using hA'.1.1)
            rw [hv] at hv2
            simp only [Value.slice.injEq] at hv2
            obtain ⟨rfl, hle2, rfl⟩ := hv2
            unfold RsOk at hok
            split at hok
            · omega
            · have := hok.2.2.1 rfl; omega
          · exact hA'.elim
        · exact hA'.elim
      have hpos' : 0 < ys.length := List.length_pos_iff.2 h3
      obtain ⟨w', cap, r1, r2, r3, r4, r5⟩ := fresh hk hv (by omega) hl hwd hcell h4 h5
      exact step_arr hs hw hk (hd k hk) h1 hpos (hl.append hnl) (fun x hx => (List.mem_append.1 hx).elim (hwd x) (hnw x)) r5 r2 r1 r4 r3 (by rw [List.length_append]; exact hK)
    · exact hA.elim
end Go.Ab
namespace Go.Ab
variable [Tabs]
variable {P : Program} {nt : Nat} {ds : List Deferred} {s : St} {Γ : Cx} {a : Act} {w : World}
theorem RepL.takeU {l : List PV} {cs : List Value} {sz : Nat} (h : RepL Γ l cs) (hw : ∀ x ∈ l, x.width = sz) (n : Nat) (hn : n ≤ l.length) : RepL Γ (l.take n) (cs.take (n * sz)) := by
  have e1 : l = l.take n ++ l.drop n := by rw [List.take_append_drop]
  rw [e1] at h
  obtain ⟨c1, v1, rfl, r1, r2⟩ := h.split
  have l1 : c1.length = n * sz := by rw [r1.length, widths_take hw hn]
  rw [← l1, List.take_left]; exact r1
theorem RepL.dropU {l : List PV} {cs : List Value} {sz : Nat} (h : RepL Γ l cs) (hw : ∀ x ∈ l, x.width = sz) (n : Nat) (hn : n ≤ l.length) : RepL Γ (l.drop n) (cs.drop (n * sz)) := by
  have e1 : l = l.take n ++ l.drop n := by rw [List.take_append_drop]
  rw [e1] at h
  obtain ⟨c1, v1, rfl, r1, r2⟩ := h.split
  have l1 : c1.length = n * sz := by rw [r1.length, widths_take hw hn]
  rw [← l1, List.drop_left]; exact r2
theorem RepL.over {l ys : List PV} {cs news : List Value} {sz : Nat} (h : RepL Γ l cs) (hw : ∀ x ∈ l, x.width = sz) (hy : RepL Γ ys news) (hyw : ∀ x ∈ ys, x.width = sz) (off n : Nat) (hn : n ≤ ys.length) (ho : off + n ≤ l.length) :
    RepL Γ (l.take off ++ ys.take n ++ l.drop (off + n)) (splice cs (off * sz) (news.take (n * sz))) := by
  have hl : (news.take (n * sz)).length = n * sz := by
    rw [List.length_take, hy.length, widths_const hyw]; exact Nat.min_eq_left (Nat.mul_le_mul_right _ hn)
  simp only [splice, hl]
  rw [show off * sz + n * sz = (off + n) * sz by rw [Nat.add_mul]]
  exact ((h.takeU hw off (by omega)).append (hy.takeU hyw n hn)).append (h.dropU hw (off + n) ho)
theorem snd_copy {o : Oper} {t u e : TypeId} {sz : Nat} {x y : Operand} {x' y' : AX} {K : St → Prop} (ho : o.op = .call { callee := .builtin .copy, args := #[x, y], argTypes := #[t, u] })
    (ht : P.underlying t = some (.slice e)) (hsz : szOf P e = some sz) (hx : trX x = some x') (hy : trX y = some y') (hs : Sim nt ds s Γ a) (hw : w.heap = Γ.heap) (hd : ∀ k, o.dst = some k → k < nt) (he : ex s o.dst (.copy sz x' y') K) : Stepd P nt ds o a w Γ K := by
  simp only [ex] at he
  obtain ⟨p, hp, hr1⟩ := vg_rep hx hs rfl he
  obtain ⟨q, hq, hr2⟩ := vg_rep hy hs rfl hp
  have hA : ∃ ys news, exCopy s o.dst sz p ys K ∧ Shows w sz ys.length (a.eval y) news ∧ RepL Γ ys news ∧ (∀ x ∈ ys, x.width = sz) := by
    split at hq
    · exact src_rep hs hw hq hr2
    · exact src_rep hs hw hq hr2
  obtain ⟨ys, news, hA, hsh, hnl, hnw⟩ := hA
  have hnlen : news.length = ys.length * sz := by rw [hnl.length, widths_const hnw]
  have hexec : ∀ {r : Value} {w' : World}, (Builtin.copy_ #[t, u] o.type #[a.eval x, a.eval y]).run P w = .ok r w' → (execOp a.eval o).run P w = .ok (.value r) w' := by
    intro r w' h
    rw [exec_builtin2 ho rfl, Sem.run_bind, h]; rfl
  -- nothing copied
  have none : ∀ {ad : Option Addr} {len cap : Nat}, a.eval x = .slice ad len cap → min ys.length len = 0 → (execOp a.eval o).run P w = .ok (.value (.int .i64 0)) w := by
    intro ad len cap hv h0
    refine hexec ?_
    have hlen := run_lenOf (P := P) hsh
    have hf : (Builtin.firstCells sz 0 (a.eval y)).run P w = .ok #[] w := by
      rcases hsh with ⟨ad2, rc, hv2, h⟩ | ⟨str, hv2, h2, rfl, rfl⟩
      · rw [hv2]; cases ad2 <;> simp [Builtin.firstCells, loadCells, loadCellsFrom]
      · rw [hv2]; simp [Builtin.firstCells]
    have hn' : Nat.min ys.length len = 0 := h0
    rw [hv]
    cases ad <;> simp [Builtin.copy_, run_underlying ht, run_sizeOf hsz, hlen, hn', hf, goInt, storeCells]
  unfold exCopy at hA
  split at hA
  · rename_i k pth off len tot sz' ck
    split at hA
    · rename_i sz'' l hg
      obtain ⟨⟨h1, rfl, rfl, rfl, h4⟩, hK⟩ := hA
      have hg' := hg
      rw [← hs.bx] at hg'
      obtain ⟨ad, rcap, hv, hok⟩ := hr1.rs hg' (by simpa [Blk.tot] using h1)
      obtain ⟨hwd, hpos, hblk⟩ := hs.mem.blk k _ hg'
      by_cases h0 : min ys.length len = 0
      · rw [h0] at hK
        have hself : ∀ i, get (put Γ.bx k (.arr sz'' (l.take off ++ ys.take 0 ++ l.drop (off + 0)))) i = get Γ.bx i := get_put_self (by simpa using hg')
        have q1 := hs.le (le_bx hself) (mem_bx hs.mem hself) (bx' := put s.bx k (.arr sz'' (l.take off ++ ys.take 0 ++ l.drop (off + 0)))) (by rw [hs.bx])
        have q3 := q1.put (p := .int .i64 0) (v := .int .i64 0) hd repV_int
        exact ⟨_, _, w, _, _, none hv h0, .inl rfl, q3, hw, le_bx hself, WF.refl w, hK⟩
      · unfold RsOk at hok
        cases hι : Γ.ι k with
        | none => rw [hι] at hok; omega
        | some b =>
          rw [hι] at hok hblk
          obtain ⟨o1, o2, _, _⟩ := hok
          rcases o2 with o2 | rfl
          · omega
          obtain ⟨c, ce, cs, rest, h7, h8, h9⟩ := hblk
          have hcl : cs.length = l.length * sz'' := by rw [h9.length, widths_const hwd]
          have hcsz : c.size = cs.length + rest.length := by rw [← Array.length_toList, h8]; simp
          have hin : off * sz'' + (min ys.length len) * sz'' ≤ cs.length := by
            rw [hcl, ← Nat.add_mul]; exact Nat.mul_le_mul_right _ (by omega)
          simp only [poff, Nat.zero_add] at hv
          obtain ⟨w', r1, r2, r3⟩ := run_copy' (P := P) (w := w) (u := u) (ty := o.type) ht hsz (b := b) (o := off * sz'') (dLen := len) (dCap := rcap) (n := min ys.length len) (c := c) (ce := ce) hsh hnlen rfl hnl.one (by rw [hw]; exact h7) (by omega)
          rw [← hv] at r1
          have hlt : (news.take (min ys.length len * sz'')).length = min ys.length len * sz'' := by rw [List.length_take, hnlen]; exact Nat.min_eq_left (Nat.mul_le_mul_right _ (by omega))
          have hspl : splice c.toList (off * sz'') (news.take (min ys.length len * sz'')) = splice cs (off * sz'') (news.take (min ys.length len * sz'')) ++ rest := by
            rw [h8]; exact setB_rep.splice_append (by omega)
          have hsz2 : (splice c.toList (off * sz'') (news.take (min ys.length len * sz''))).toArray.size = c.size := by
            have := splice_length (cs := c.toList) (us := news.take (min ys.length len * sz'')) (o := off * sz'') (by simp only [Array.length_toList]; omega)
            simpa using this
          have htot : (Blk.arr sz'' (l.take off ++ ys.take (min ys.length len) ++ l.drop (off + min ys.length len))).tot = (Blk.arr sz'' l).tot := by simp [Blk.tot]; omega
          have hle := le_upd (Γ := Γ) (blk' := .arr sz'' (l.take off ++ ys.take (min ys.length len) ++ l.drop (off + min ys.length len))) hg' hι h7 hsz2 (by omega)
          have hmem := mem_upd (Γ := Γ) (blk' := .arr sz'' (l.take off ++ ys.take (min ys.length len) ++ l.drop (off + min ys.length len))) hs.mem hg' hι h7 hsz2 (by omega)
            ⟨fun x hx => by
              rcases List.mem_append.1 hx with hx | hx
              · rcases List.mem_append.1 hx with hx | hx
                · exact hwd x (List.mem_of_mem_take hx)
                · exact hnw x (List.mem_of_mem_take hx)
              · exact hwd x (List.mem_of_mem_drop hx), hpos, _, ce, _, rest, by simp only [Cx.upd]; rw [Array.getElem?_setIfInBounds_self_of_lt (lt_of_get h7)], by simpa using hspl,
              (h9.over hwd hnl hnw off (min ys.length len) (by omega) (by omega)).mono hle⟩
          have t1 := hs.le hle hmem (bx' := put s.bx k (.arr sz'' (l.take off ++ ys.take (min ys.length len) ++ l.drop (off + min ys.length len)))) (by simp [Cx.upd, hs.bx])
          have t3 := t1.put (p := .int .i64 (min ys.length len : Nat)) (v := .int .i64 (min ys.length len : Nat)) hd repV_int
          exact ⟨_, _, w', _, _, hexec r1, .inl rfl, t3, by rw [r2, hw]; rfl, hle, r3, hK⟩
    · rename_i v hg
      split at hA
      · rename_i sz'' n l hgp
        split at hA
        · rename_i v' hsp
          obtain ⟨⟨h1, rfl, rfl, h4⟩, hK⟩ := hA
          have hg' := hg
          rw [← hs.bx] at hg'
          obtain ⟨ad, rcap, hv, hok⟩ := hr1.rs hg' (by simpa [Blk.tot] using h1)
          unfold RsOk at hok
          obtain ⟨b, c, ce, hι, h7, h8⟩ := hs.mem.blk k _ hg'
          rw [hι] at hok
          obtain ⟨o1, o2, _, _⟩ := hok
          obtain ⟨g1, g2⟩ := getP_rep pth h8 hgp
          obtain ⟨hl, hn, hwd⟩ := g2.ar_inv
          have harw : PV.width (.ar sz'' n l) = n * sz'' := rfl
          rw [harw] at g1 g2 hl
          have hover := hl.over hwd hnl hnw off (min ys.length len) (by omega) (by omega)
          have hlt : (news.take (min ys.length len * sz'')).length = min ys.length len * sz'' := by rw [List.length_take, hnlen]; exact Nat.min_eq_left (Nat.mul_le_mul_right _ (by omega))
          have hin : off * sz'' + (min ys.length len) * sz'' ≤ n * sz'' := by rw [← Nat.add_mul]; exact Nat.mul_le_mul_right _ (by omega)
          have hx2 : RepL Γ [.ar sz'' n (l.take off ++ ys.take (min ys.length len) ++ l.drop (off + min ys.length len))] (splice ((c.toList.drop (poff pth)).take (n * sz'')) (off * sz'') (news.take (min ys.length len * sz''))) :=
            hover.ar1 (by simp; omega) (fun x hx => by
              rcases List.mem_append.1 hx with hx | hx
              · rcases List.mem_append.1 hx with hx | hx
                · exact hwd x (List.mem_of_mem_take hx)
                · exact hnw x (List.mem_of_mem_take hx)
              · exact hwd x (List.mem_of_mem_drop hx))
          obtain ⟨c2, e2, k1, k2, k3, k4⟩ := setB_rep (blk' := .box v') (pth := pth) hs.mem hg' hι hx2 (by simp only [setB, hsp])
          rw [h7] at k1
          simp only [Option.some.injEq, Obj.cells.injEq] at k1
          obtain ⟨rfl, rfl, _⟩ := k1
          have hss := splice_splice (cs := c.toList) (us := news.take (min ys.length len * sz'')) (o := poff pth) (m := n * sz'') (p := off * sz'') g1 (by omega)
          by_cases h0 : min ys.length len = 0
          · rw [h0] at hK
            have hnil : news.take (min ys.length len * sz'') = [] := by rw [h0]; simp
            have hsame : (splice c.toList (poff pth) (splice ((c.toList.drop (poff pth)).take (n * sz'')) (off * sz'') (news.take (min ys.length len * sz'')))) = c.toList := by
              rw [hss, hnil]; simp [splice]
            have hle := le_upd (Γ := Γ) (c' := c) (blk' := .box v') hg' hι h7 rfl (Nat.le_refl _)
            have hmem := mem_upd (Γ := Γ) (c' := c) (blk' := .box v') hs.mem hg' hι h7 rfl (Nat.le_refl _) (k4 c hsame.symm)
            have t1 := hs.le hle hmem (bx' := put s.bx k (.box v')) (by simp [Cx.upd, hs.bx])
            have t3 := t1.put (p := .int .i64 0) (v := .int .i64 0) hd repV_int
            refine ⟨_, _, w, _, _, none hv h0, .inl rfl, t3, ?_, hle, WF.refl w, hK⟩
            simp only [Cx.upd]
            rw [hw]
            apply Array.ext_getElem?
            intro j
            by_cases hj : b = j
            · subst hj; rw [Array.getElem?_setIfInBounds_self_of_lt (lt_of_get h7)]; exact h7
            · rw [Array.getElem?_setIfInBounds_ne hj]
          · rcases o2 with o2 | rfl
            · omega
            obtain ⟨w', r1, r2, r3⟩ := run_copy' (P := P) (w := w) (u := u) (ty := o.type) ht hsz (b := b) (o := poff pth + off * sz'') (dLen := len) (dCap := rcap) (n := min ys.length len) (c := c) (ce := ce) hsh hnlen rfl hnl.one (by rw [hw]; exact h7) (by simp only [Array.length_toList] at g1; omega)
            rw [← hv] at r1
            rw [← hss] at r2
            have hsz2 : (splice c.toList (poff pth) (splice ((c.toList.drop (poff pth)).take (n * sz'')) (off * sz'') (news.take (min ys.length len * sz'')))).toArray.size = c.size := by
              rw [hss]
              have := splice_length (cs := c.toList) (us := news.take (min ys.length len * sz'')) (o := poff pth + off * sz'') (by simp only [Array.length_toList] at g1 ⊢; omega)
              simpa using this
            have hle := le_upd (Γ := Γ) (blk' := .box v') hg' hι h7 hsz2 (Nat.le_refl _)
            have hmem := mem_upd (Γ := Γ) (blk' := .box v') hs.mem hg' hι h7 hsz2 (Nat.le_refl _) (k4 _ (by simp))
            have t1 := hs.le hle hmem (bx' := put s.bx k (.box v')) (by simp [Cx.upd, hs.bx])
            have t3 := t1.put (p := .int .i64 (min ys.length len : Nat)) (v := .int .i64 (min ys.length len : Nat)) hd repV_int
            exact ⟨_, _, w', _, _, hexec r1, .inl rfl, t3, by rw [r2, hw]; rfl, hle, r3, hK⟩
        · exact hA.elim
      · exact hA.elim
    · exact hA.elim
  · exact hA.elim
theorem zeroCells_rep {z : PV} {zv : Value} (h : RepL Γ [z] zv.cells.toList) (n : Nat) : RepL Γ (List.replicate n z) (Builtin.zeroCells zv.cells n).toList := by
  have e : (Builtin.zeroCells zv.cells n).toList = (List.replicate n zv.cells.toList).flatten := replicate_cells zv.cells n
  rw [e]; exact repL_replicate h n
theorem run_clear' {t e : TypeId} {ty : TypeId} {zv : Value} (ht : P.underlying t = some (.slice e)) (hzv : ∀ w, (zeroValue e).run P w = .ok zv w)
    {b o dLen dCap m : Nat} {news : List Value} {c : Array Value} {ce : TypeId} (hm : news.take m = news) (h0 : 0 < dLen) (hn : news = (Builtin.zeroCells zv.cells dLen).toList) (h1 : ∀ v ∈ news, oneCell v = true)
    (hb : w.heap[b]? = some (.cells c ce (0, 0))) (hin : o + news.length ≤ c.size) :
    ∃ w', (Builtin.clear_ #[t] ty #[.slice (some ⟨b, o, none⟩) dLen dCap]).run P w = .ok (.tuple #[]) w' ∧
      w'.heap = w.heap.setIfInBounds b (.cells (splice c.toList o (news.take m)).toArray ce (0, 0)) ∧ WF w w' := by
  rw [hm]
  obtain ⟨w', g1, g2, g3⟩ := run_storeCells (P := P) news w b o 0 c ce hb (by omega) h1
  refine ⟨w', ?_, by simpa using g2, g3⟩
  obtain ⟨m, rfl⟩ : ∃ m, dLen = m + 1 := ⟨dLen - 1, by omega⟩
  rw [hn] at g1
  simp [Builtin.clear_, run_underlying ht, hzv, g1]
theorem snd_fill {o : Oper} {t e : TypeId} {sz : Nat} {z : PV} {x : Operand} {x' : AX} {K : St → Prop} (ho : o.op = .call { callee := .builtin .clear, args := #[x], argTypes := #[t] })
    (ht : P.underlying t = some (.slice e)) (hsz : szOf P e = some sz) (hz : zeroOf P e = some z) (hx : trX x = some x') (hs : Sim nt ds s Γ a) (hw : w.heap = Γ.heap) (he : ex s o.dst (.fill sz z x') K) : Stepd P nt ds o a w Γ K := by
  simp only [ex] at he
  obtain ⟨p, hp, hr1⟩ := vg_rep hx hs rfl he
  obtain ⟨hdn, hp⟩ := hp
  split at hp
  case h_2 => exact hp.elim
  rename_i k pth off len tot sz' ck
  obtain ⟨zv, hzv, hzr, hzsz, _, hzs⟩ := zeroOf_rep (Γ := Γ) hz
  have hzw : z.width = sz := by rw [hsz] at hzsz; exact (Option.some.inj hzsz).symm
  obtain ⟨ys, hys⟩ : ∃ ys, ys = List.replicate len z := ⟨_, rfl⟩
  obtain ⟨news, hnews⟩ : ∃ news, news = (Builtin.zeroCells zv.cells len).toList := ⟨_, rfl⟩
  have hnl : RepL Γ ys news := by rw [hys, hnews]; exact zeroCells_rep hzr len
  have hnw : ∀ x ∈ ys, x.width = sz := by rw [hys]; intro x hx; rw [List.eq_of_mem_replicate hx]; exact hzw
  have hnlen : news.length = ys.length * sz := by rw [hnl.length, widths_const hnw]
  have hyl0 : ys.length = len := by rw [hys]; simp
  have hA : exCopy s none sz (.rs k pth off len tot sz' ck) ys K := by rw [hys]; exact hp
  have hexec : ∀ {r : Value} {w' : World}, (Builtin.clear_ #[t] o.type #[a.eval x]).run P w = .ok r w' → (execOp a.eval o).run P w = .ok (.value r) w' := by
    intro r w' h
    have e1 : execOp a.eval o = (do Pure.pure (Next.value (← Builtin.clear_ #[t] o.type #[a.eval x]))) := by
      have e0 : Array.map a.eval #[x] = #[a.eval x] := by simp
      rw [← e0]
      have hb : builtin .clear #[t] o.type ((#[x] : Array Operand).map fun | .const _ => true | _ => false) (Array.map a.eval #[x]) = (do Pure.pure (Next.value (← Builtin.clear_ #[t] o.type (Array.map a.eval #[x])))) := rfl
      rw [← hb]
      unfold execOp
      rw [ho]
      rfl
    rw [e1, Sem.run_bind, h]; rfl
  have none : ∀ {ad : Option Addr} {len cap : Nat}, a.eval x = .slice ad len cap → len = 0 → (execOp a.eval o).run P w = .ok (.value (.tuple #[])) w := by
    intro ad len cap hv h0
    refine hexec ?_
    rw [hv, h0]
    cases ad <;> simp [Builtin.clear_, run_underlying ht]
  unfold Stepd
  rw [hdn]
  have hyl : min ys.length len = len := by rw [hyl0, Nat.min_self]
  have htk : news.take (min ys.length len * sz) = news := List.take_of_length_le (by rw [hnlen, hyl, hyl0]; exact Nat.le_refl _)
  unfold exCopy at hA
  simp only at hA
  · skip
    split at hA
    · rename_i sz'' l hg
      obtain ⟨⟨h1, rfl, rfl, rfl, h4⟩, hK⟩ := hA
      have hg' := hg
      rw [← hs.bx] at hg'
      obtain ⟨ad, rcap, hv, hok⟩ := hr1.rs hg' (by simpa [Blk.tot] using h1)
      obtain ⟨hwd, hpos, hblk⟩ := hs.mem.blk k _ hg'
      by_cases h0 : min ys.length len = 0
      · rw [h0] at hK
        have hself : ∀ i, get (put Γ.bx k (.arr sz'' (l.take off ++ ys.take 0 ++ l.drop (off + 0)))) i = get Γ.bx i := get_put_self (by simpa using hg')
        have q1 := hs.le (le_bx hself) (mem_bx hs.mem hself) (bx' := put s.bx k (.arr sz'' (l.take off ++ ys.take 0 ++ l.drop (off + 0)))) (by rw [hs.bx])
        exact ⟨_, _, w, _, _, none hv (by omega), .inl rfl, q1, hw, le_bx hself, WF.refl w, hK⟩
      · unfold RsOk at hok
        cases hι : Γ.ι k with
        | none => rw [hι] at hok; omega
        | some b =>
          rw [hι] at hok hblk
          obtain ⟨o1, o2, _, _⟩ := hok
          rcases o2 with o2 | rfl
          · omega
          obtain ⟨c, ce, cs, rest, h7, h8, h9⟩ := hblk
          have hcl : cs.length = l.length * sz'' := by rw [h9.length, widths_const hwd]
          have hcsz : c.size = cs.length + rest.length := by rw [← Array.length_toList, h8]; simp
          have hin : off * sz'' + (min ys.length len) * sz'' ≤ cs.length := by
            rw [hcl, ← Nat.add_mul]; exact Nat.mul_le_mul_right _ (by omega)
          simp only [poff, Nat.zero_add] at hv
          obtain ⟨w', r1, r2, r3⟩ := run_clear' (P := P) (w := w) (ty := o.type) ht hzv (b := b) (o := off * sz'') (dLen := len) (dCap := rcap) (m := min ys.length len * sz'') (c := c) (ce := ce) htk (by omega) hnews hnl.one (by rw [hw]; exact h7) (by rw [hnlen, hyl0]; rw [hyl] at hin; omega)
          rw [← hv] at r1
          have hlt : (news.take (min ys.length len * sz'')).length = min ys.length len * sz'' := by rw [List.length_take, hnlen]; exact Nat.min_eq_left (Nat.mul_le_mul_right _ (by omega))
          have hspl : splice c.toList (off * sz'') (news.take (min ys.length len * sz'')) = splice cs (off * sz'') (news.take (min ys.length len * sz'')) ++ rest := by
            rw [h8]; exact setB_rep.splice_append (by omega)
          have hsz2 : (splice c.toList (off * sz'') (news.take (min ys.length len * sz''))).toArray.size = c.size := by
            have := splice_length (cs := c.toList) (us := news.take (min ys.length len * sz'')) (o := off * sz'') (by simp only [Array.length_toList]; omega)
            simpa using this
          have htot : (Blk.arr sz'' (l.take off ++ ys.take (min ys.length len) ++ l.drop (off + min ys.length len))).tot = (Blk.arr sz'' l).tot := by simp [Blk.tot]; omega
          have hle := le_upd (Γ := Γ) (blk' := .arr sz'' (l.take off ++ ys.take (min ys.length len) ++ l.drop (off + min ys.length len))) hg' hι h7 hsz2 (by omega)
          have hmem := mem_upd (Γ := Γ) (blk' := .arr sz'' (l.take off ++ ys.take (min ys.length len) ++ l.drop (off + min ys.length len))) hs.mem hg' hι h7 hsz2 (by omega)
            ⟨fun x hx => by
              rcases List.mem_append.1 hx with hx | hx
              · rcases List.mem_append.1 hx with hx | hx
                · exact hwd x (List.mem_of_mem_take hx)
                · exact hnw x (List.mem_of_mem_take hx)
              · exact hwd x (List.mem_of_mem_drop hx), hpos, _, ce, _, rest, by simp only [Cx.upd]; rw [Array.getElem?_setIfInBounds_self_of_lt (lt_of_get h7)], by simpa using hspl,
              (h9.over hwd hnl hnw off (min ys.length len) (by omega) (by omega)).mono hle⟩
          have t1 := hs.le hle hmem (bx' := put s.bx k (.arr sz'' (l.take off ++ ys.take (min ys.length len) ++ l.drop (off + min ys.length len)))) (by simp [Cx.upd, hs.bx])
          exact ⟨_, _, w', _, _, hexec r1, .inl rfl, t1, by rw [r2, hw]; rfl, hle, r3, hK⟩
    · rename_i v hg
      split at hA
      · rename_i sz'' n l hgp
        split at hA
        · rename_i v' hsp
          obtain ⟨⟨h1, rfl, rfl, h4⟩, hK⟩ := hA
          have hg' := hg
          rw [← hs.bx] at hg'
          obtain ⟨ad, rcap, hv, hok⟩ := hr1.rs hg' (by simpa [Blk.tot] using h1)
          unfold RsOk at hok
          obtain ⟨b, c, ce, hι, h7, h8⟩ := hs.mem.blk k _ hg'
          rw [hι] at hok
          obtain ⟨o1, o2, _, _⟩ := hok
          obtain ⟨g1, g2⟩ := getP_rep pth h8 hgp
          obtain ⟨hl, hn, hwd⟩ := g2.ar_inv
          have harw : PV.width (.ar sz'' n l) = n * sz'' := rfl
          rw [harw] at g1 g2 hl
          have hover := hl.over hwd hnl hnw off (min ys.length len) (by omega) (by omega)
          have hlt : (news.take (min ys.length len * sz'')).length = min ys.length len * sz'' := by rw [List.length_take, hnlen]; exact Nat.min_eq_left (Nat.mul_le_mul_right _ (by omega))
          have hin : off * sz'' + (min ys.length len) * sz'' ≤ n * sz'' := by rw [← Nat.add_mul]; exact Nat.mul_le_mul_right _ (by omega)
          have hx2 : RepL Γ [.ar sz'' n (l.take off ++ ys.take (min ys.length len) ++ l.drop (off + min ys.length len))] (splice ((c.toList.drop (poff pth)).take (n * sz'')) (off * sz'') (news.take (min ys.length len * sz''))) :=
            hover.ar1 (by simp; omega) (fun x hx => by
              rcases List.mem_append.1 hx with hx | hx
              · rcases List.mem_append.1 hx with hx | hx
                · exact hwd x (List.mem_of_mem_take hx)
                · exact hnw x (List.mem_of_mem_take hx)
              · exact hwd x (List.mem_of_mem_drop hx))
          obtain ⟨c2, e2, k1, k2, k3, k4⟩ := setB_rep (blk' := .box v') (pth := pth) hs.mem hg' hι hx2 (by simp only [setB, hsp])
          rw [h7] at k1
          simp only [Option.some.injEq, Obj.cells.injEq] at k1
          obtain ⟨rfl, rfl, _⟩ := k1
          have hss := splice_splice (cs := c.toList) (us := news.take (min ys.length len * sz'')) (o := poff pth) (m := n * sz'') (p := off * sz'') g1 (by omega)
          by_cases h0 : min ys.length len = 0
          · rw [h0] at hK
            have hnil : news.take (min ys.length len * sz'') = [] := by rw [h0]; simp
            have hsame : (splice c.toList (poff pth) (splice ((c.toList.drop (poff pth)).take (n * sz'')) (off * sz'') (news.take (min ys.length len * sz'')))) = c.toList := by
              rw [hss, hnil]; simp [splice]
            have hle := le_upd (Γ := Γ) (c' := c) (blk' := .box v') hg' hι h7 rfl (Nat.le_refl _)
            have hmem := mem_upd (Γ := Γ) (c' := c) (blk' := .box v') hs.mem hg' hι h7 rfl (Nat.le_refl _) (k4 c hsame.symm)
            have t1 := hs.le hle hmem (bx' := put s.bx k (.box v')) (by simp [Cx.upd, hs.bx])
            refine ⟨_, _, w, _, _, none hv (by omega), .inl rfl, t1, ?_, hle, WF.refl w, hK⟩
            simp only [Cx.upd]
            rw [hw]
            apply Array.ext_getElem?
            intro j
            by_cases hj : b = j
            · subst hj; rw [Array.getElem?_setIfInBounds_self_of_lt (lt_of_get h7)]; exact h7
            · rw [Array.getElem?_setIfInBounds_ne hj]
          · rcases o2 with o2 | rfl
            · omega
            obtain ⟨w', r1, r2, r3⟩ := run_clear' (P := P) (w := w) (ty := o.type) ht hzv (b := b) (o := poff pth + off * sz'') (dLen := len) (dCap := rcap) (m := min ys.length len * sz'') (c := c) (ce := ce) htk (by omega) hnews hnl.one (by rw [hw]; exact h7) (by simp only [Array.length_toList] at g1; rw [hnlen, hyl0]; rw [hyl] at hin; omega)
            rw [← hv] at r1
            rw [← hss] at r2
            have hsz2 : (splice c.toList (poff pth) (splice ((c.toList.drop (poff pth)).take (n * sz'')) (off * sz'') (news.take (min ys.length len * sz'')))).toArray.size = c.size := by
              rw [hss]
              have := splice_length (cs := c.toList) (us := news.take (min ys.length len * sz'')) (o := poff pth + off * sz'') (by simp only [Array.length_toList] at g1 ⊢; omega)
              simpa using this
            have hle := le_upd (Γ := Γ) (blk' := .box v') hg' hι h7 hsz2 (Nat.le_refl _)
            have hmem := mem_upd (Γ := Γ) (blk' := .box v') hs.mem hg' hι h7 hsz2 (Nat.le_refl _) (k4 _ (by simp))
            have t1 := hs.le hle hmem (bx' := put s.bx k (.box v')) (by simp [Cx.upd, hs.bx])
            exact ⟨_, _, w', _, _, hexec r1, .inl rfl, t1, by rw [r2, hw]; rfl, hle, r3, hK⟩
        · exact hA.elim
      · exact hA.elim
    · exact hA.elim
end Go.Ab
namespace Go.Ab
variable [Tabs]
variable {P : Program} {nt : Nat} {ds : List Deferred} {s : St} {Γ : Cx} {a : Act} {w : World}
theorem isNil_inv {own ng : Bool} {op : BinOp} {t yt : TypeId} {x y : Operand} {p : AX} (hk : trK P own (.binOp op t x y yt) = some (.isNil ng p)) :
    (op = .eql ∨ op = .neq) ∧ (∃ e, P.underlying t = some (.slice e)) ∧ y = .const (.slice none 0 0) ∧ ng = decide (op = .neq) ∧ trX x = some p := by
  simp only [trK] at hk
  split at hk
  · rename_i q r hx hy
    split at hk
    · rename_i ho
      split at hk
      · simp at hk
      · simp at hk
      · simp at hk
      · simp at hk
      · rename_i e hu
        split at hk
        · simp only [Option.some.injEq, AK.isNil.injEq] at hk
          exact ⟨ho, ⟨e, hu⟩, rfl, hk.1.symm, by rw [hx, hk.2]⟩
        · simp at hk
      · split at hk
        · split at hk <;> simp at hk
        · simp at hk
      · split at hk
        · split at hk <;> simp at hk
        · simp at hk
      · simp at hk
    · simp at hk
  · simp at hk
theorem RepV.slnil {sz : Nat} {l : List PV} {c : Bool} {v : Value} (h : RepV Γ (.sl sz l c) v) : ∃ ad n rc, v = .slice ad n rc ∧ (ad.isNone = true → l = []) := by
  simp only [RepV] at h
  cases h with
  | sl _ _ _ ad rcap h1 h2 h3 h4 h5 _ =>
    refine ⟨ad, _, rcap, rfl, fun hn => ?_⟩
    by_cases hl : l = []
    · exact hl
    · obtain ⟨b, o, e, _⟩ := h5 hl
      rw [e] at hn; simp at hn
theorem RepV.rsnil {k off len tot sz : Nat} {p : List Step} {c : CapK} {v : Value} {blk : Blk} (h : RepV Γ (.rs k p off len tot sz c) v) (hb : get Γ.bx k = some blk) (ht : tot = blk.tot) : ∃ ad n rc, v = .slice ad n rc ∧ (ad.isNone = true → len = 0) := by
  simp only [RepV] at h
  cases h with
  | rs _ _ _ _ _ _ _ _ blk' h1 h2 h3 _ =>
    rw [hb] at h1
    obtain ⟨h1, _⟩ := h1
    cases h1
    obtain ⟨ad, rc, rfl, hr⟩ := h3 ht
    refine ⟨ad, _, rc, rfl, fun hn => ?_⟩
    unfold RsOk at hr
    split at hr
    · exact hr.1
    · obtain ⟨h4, h5, _⟩ := hr
      rcases h5 with h5 | h5
      · omega
      · rw [h5] at hn; simp at hn
theorem eqIn_slnil {t e : TypeId} {ad : Option Addr} {n c : Nat} (h : P.underlying t = some (.slice e)) : (Op.equalIn 10000 t (.slice ad n c) (.slice none 0 0)).run P w = .ok ad.isNone w := by
  have : ∀ d, (Op.equalIn (d + 1) t (.slice ad n c) (.slice none 0 0)).run P w = .ok ad.isNone w := by
    intro d
    cases ad with
    | none => simp only [Op.equalIn, Sem.run_bind, run_underlying h, Result.andThen_ok]; rfl
    | some ad => simp only [Op.equalIn, Sem.run_bind, run_underlying h, Result.andThen_ok]; rfl
  exact this 9999
theorem snd_isNil {o : Oper} {own ng : Bool} {op : BinOp} {t yt : TypeId} {x y : Operand} {p : AX} {K : St → Prop} (ho : o.op = .binOp op t x y yt) (hk : trK P own (.binOp op t x y yt) = some (.isNil ng p)) (hs : Sim nt ds s Γ a) (hw : w.heap = Γ.heap)
    (hd : ∀ k, o.dst = some k → k < nt) (he : ex s o.dst (.isNil ng p) K) : Stepd P nt ds o a w Γ K := by
  obtain ⟨hop, ⟨e, hu⟩, rfl, rfl, hx⟩ := isNil_inv hk
  simp only [ex] at he
  obtain ⟨q, hq, hr⟩ := vg_rep hx hs rfl he
  have fin : ∀ {ad : Option Addr} {n c : Nat}, a.eval x = .slice ad n c → K (s.put o.dst (.bl (ad.isNone != decide (op = .neq)))) → Stepd P nt ds o a w Γ K := by
    intro ad n c hv hK
    have hrun := run_eq2 (P := P) (w := w) (eqIn_slnil (ad := ad) (n := n) (c := c) hu) rfl rfl op hop
    refine step_quiet hs hd (Le.refl Γ) hs.mem rfl (v := .bool (ad.isNone != decide (op = .neq))) ?_ hw (WF.refl w) ?_ hK
    · unfold execOp
      rw [ho]
      have hg : (eqGuard op t x (.const (.slice none 0 0)) (.slice ad n c) (.slice none 0 0)).run P w = .ok () w := by
        unfold eqGuard
        rcases hop with rfl | rfl <;> rfl
      have e2 : a.eval (.const (.slice none 0 0)) = .slice none 0 0 := rfl
      simp only [hv, e2, Sem.run_bind, hg, Result.andThen_ok, hrun]
      rcases hop with rfl | rfl <;> cases ad <;> rfl
    · simp only [RepV]; exact .bl _ .nil
  split at hq
  · obtain ⟨ad, n, c, hv, hn⟩ := hr.slnil
    exact fin hv (hq _ hn)
  · split at hq
    · rename_i blk hb
      rw [← hs.bx] at hb
      obtain ⟨ad, n, c, hv, hn⟩ := hr.rsnil hb hq.1
      exact fin hv (hq.2 _ hn)
    · exact hq.elim
  · exact hq.elim
end Go.Ab
namespace Go.Ab
variable [Tabs]
variable {P : Program} {nt : Nat} {ds : List Deferred} {s : St} {Γ : Cx} {a : Act} {w : World}
mutual
def refsOk (f : Nat → Bool) : PV → Bool
  | .rs k _ _ _ _ _ _ => f k
  | .pt k _ _ => f k
  | .st _ l => refsOkL f l
  | .ar _ _ l => refsOkL f l
  | .tup l => refsOkL f l
  | .sl _ l _ => refsOkL f l
  | .fp _ l _ => refsOkL f l
  | .fn _ x y => refsOkL f x && refsOkL f y
  | .gd _ p => refsOk f p
  | .ifc _ p => refsOk f p
  | _ => true
def refsOkL (f : Nat → Bool) : List PV → Bool
  | [] => true
  | p :: l => refsOk f p && refsOkL f l
end
mutual
def ren (ρ : Nat → Nat) : PV → PV
  | .rs k p o l t z c => .rs (ρ k) p o l t z c
  | .pt k p t => .pt (ρ k) p t
  | .st w l => .st w (renL ρ l)
  | .ar z n l => .ar z n (renL ρ l)
  | .tup l => .tup (renL ρ l)
  | .sl z l c => .sl z (renL ρ l) c
  | .fp z l p => .fp z (renL ρ l) p
  | .fn f x y => .fn f (renL ρ x) (renL ρ y)
  | .gd b p => .gd b (ren ρ p)
  | .ifc t p => .ifc t (ren ρ p)
  | p => p
def renL (ρ : Nat → Nat) : List PV → List PV
  | [] => []
  | p :: l => ren ρ p :: renL ρ l
end
theorem ren_width (ρ : Nat → Nat) (p : PV) : (ren ρ p).width = p.width := by cases p <;> simp [ren, PV.width]
theorem ren_isAgg (ρ : Nat → Nat) (p : PV) : (ren ρ p).isAgg = p.isAgg := by cases p <;> simp [ren, PV.isAgg]
theorem renL_length (ρ : Nat → Nat) (l : List PV) : (renL ρ l).length = l.length := by induction l <;> simp [renL, *]
theorem renL_mem {ρ : Nat → Nat} {l : List PV} {q : PV} (h : q ∈ renL ρ l) : ∃ p ∈ l, q = ren ρ p := by
  induction l with
  | nil => simp [renL] at h
  | cons x l ih =>
    simp only [renL, List.mem_cons] at h
    rcases h with h | h
    · exact ⟨x, by simp, h⟩
    · obtain ⟨p, hp, e⟩ := ih h; exact ⟨p, by simp [hp], e⟩
mutual
theorem ren_id {ρ : Nat → Nat} {f : Nat → Bool} (h : ∀ k, f k = true → ρ k = k) : ∀ p, refsOk f p = true → ren ρ p = p
  | .rs k _ _ _ _ _ _, hp => by simp only [refsOk] at hp; simp [ren, h k hp]
  | .pt k _ _, hp => by simp only [refsOk] at hp; simp [ren, h k hp]
  | .st _ l, hp => by simp only [refsOk] at hp; simp [ren, renL_id h l hp]
  | .ar _ _ l, hp => by simp only [refsOk] at hp; simp [ren, renL_id h l hp]
  | .tup l, hp => by simp only [refsOk] at hp; simp [ren, renL_id h l hp]
  | .sl _ l _, hp => by simp only [refsOk] at hp; simp [ren, renL_id h l hp]
  | .fp _ l _, hp => by simp only [refsOk] at hp; simp [ren, renL_id h l hp]
  | .fn _ x y, hp => by simp only [refsOk, Bool.and_eq_true] at hp; simp [ren, renL_id h x hp.1, renL_id h y hp.2]
  | .gd _ p, hp => by simp only [refsOk] at hp; simp [ren, ren_id h p hp]
  | .ifc _ p, hp => by simp only [refsOk] at hp; simp [ren, ren_id h p hp]
  | .un, _ => by simp [ren]
  | .bl _, _ => by simp [ren]
  | .int _ _, _ => by simp [ren]
  | .str _, _ => by simp [ren]
  | .np, _ => by simp [ren]
  | .nf, _ => by simp [ren]
  | .ni, _ => by simp [ren]
  | .mp .., _ => by simp [ren]
theorem renL_id {ρ : Nat → Nat} {f : Nat → Bool} (h : ∀ k, f k = true → ρ k = k) : ∀ l, refsOkL f l = true → renL ρ l = l
  | [], _ => rfl
  | p :: l, hp => by simp only [refsOkL, Bool.and_eq_true] at hp; simp [renL, ren_id h p hp.1, renL_id h l hp.2]
end
structure Same (f : Nat → Bool) (ρ : Nat → Nat) (Γ Δ : Cx) : Prop where
  heap : Δ.heap = Γ.heap
  own : ∀ b, b < Γ.heap.size → ¬ Γ.own b → ¬ Δ.own b
  ref : ∀ k blk, f k = true → get Γ.bx k = some blk → ∃ blk', get Δ.bx (ρ k) = some blk' ∧ blk'.tot = blk.tot ∧ Δ.ι (ρ k) = Γ.ι k
theorem RsOk.ren {Δ : Cx} {k k' off len sz : Nat} {p : List Step} {c : CapK} {ad : Option Addr} {rcap : Nat} (h : RsOk Γ k p off len sz c ad rcap) (hι : Δ.ι k' = Γ.ι k) (hh : Δ.heap = Γ.heap) : RsOk Δ k' p off len sz c ad rcap := by
  unfold RsOk at *
  rw [hι, hh]; exact h
theorem RepL.ren {f : Nat → Bool} {ρ : Nat → Nat} {Δ : Cx} (hs : Same f ρ Γ Δ) {l : List PV} {cs : List Value} (h : RepL Γ l cs) : refsOkL f l = true → RepL Δ (renL ρ l) cs := by
  induction h with
  | nil => intro _; exact .nil
  | un h hr ih => intro hf; simp only [refsOkL, Bool.and_eq_true] at hf; exact .un h (ih hf.2)
  | bl x hr ih => intro hf; simp only [refsOkL, Bool.and_eq_true] at hf; exact .bl x (ih hf.2)
  | int k n hr ih => intro hf; simp only [refsOkL, Bool.and_eq_true] at hf; exact .int k n (ih hf.2)
  | str l s h hr ih => intro hf; simp only [refsOkL, Bool.and_eq_true] at hf; exact .str l s h (ih hf.2)
  | st w l hl hw hr ihl ih => intro hf; simp only [refsOkL, refsOk, Bool.and_eq_true] at hf; exact .st w _ (ihl hf.1) hw (ih hf.2)
  | ar sz n l hl hn hw hr ihl ih =>
    intro hf; simp only [refsOkL, refsOk, Bool.and_eq_true] at hf
    refine .ar sz n _ (ihl hf.1) (by rw [renL_length]; exact hn) (fun x hx => ?_) (ih hf.2)
    obtain ⟨p, hp, rfl⟩ := renL_mem hx
    rw [ren_width]; exact hw p hp
  | sl sz l clip ad rcap hl hw hc hk hb hr ihl ih =>
    intro hf; simp only [refsOkL, refsOk, Bool.and_eq_true] at hf
    have := RepL.sl (Γ := Δ) sz (renL ρ l) clip ad rcap (ihl hf.1) (fun x hx => by obtain ⟨p, hp, rfl⟩ := renL_mem hx; rw [ren_width]; exact hw p hp) (by rw [renL_length]; exact hc) (by rw [renL_length]; exact hk)
      (fun hne => by
        obtain ⟨b, o, h1, h2, h3, h4⟩ := hb (by intro h; subst h; simp [renL] at hne)
        exact ⟨b, o, h1, by rw [hs.heap]; exact h2, hs.own b h2 h3, by rw [hs.heap]; exact h4⟩) (ih hf.2)
    rw [renL_length] at this
    exact this
  | rs k p off len tot sz c v blk hg h1 hv hr ih =>
    intro hf; simp only [refsOkL, refsOk, Bool.and_eq_true] at hf
    obtain ⟨blk', g1, g2, g3⟩ := hs.ref k blk hf.1 hg.1
    refine .rs (ρ k) p off len tot sz c v blk' ⟨g1, by rw [g2]; exact hg.2⟩ h1 (fun ht => ?_) (ih hf.2)
    obtain ⟨ad, rcap, e1, e2⟩ := hv (by rw [ht, g2])
    exact ⟨ad, rcap, e1, e2.ren g3 hs.heap⟩
  | np hr ih => intro hf; simp only [refsOkL, Bool.and_eq_true] at hf; exact .np (ih hf.2)
  | pt k p tot v blk hg h1 hv hr ih =>
    intro hf; simp only [refsOkL, refsOk, Bool.and_eq_true] at hf
    obtain ⟨blk', g1, g2, g3⟩ := hs.ref k blk hf.1 hg.1
    refine .pt (ρ k) p tot v blk' ⟨g1, by rw [g2]; exact hg.2⟩ h1 (fun ht => ?_) (ih hf.2)
    obtain ⟨b, e1, e2⟩ := hv (by rw [ht, g2])
    exact ⟨b, by rw [g3, e1], e2⟩
  | fp sz l p b o hl hw hm hc hr ihl ih =>
    intro hf; simp only [refsOkL, refsOk, Bool.and_eq_true] at hf
    exact .fp sz _ p b o (ihl hf.1) (fun x hx => by obtain ⟨p, hp, rfl⟩ := renL_mem hx; rw [ren_width]; exact hw p hp) ⟨by rw [hs.heap]; exact hm.1, hs.own b hm.1 hm.2⟩ (by rw [hs.heap]; exact hc) (ih hf.2)
  | fn g first cap h1 h2 h3 h4 hr i1 i2 ih =>
    intro hf; simp only [refsOkL, refsOk, Bool.and_eq_true] at hf
    exact .fn g _ _ (i1 hf.1.1) (i2 hf.1.2) (fun x hx => by obtain ⟨p, hp, rfl⟩ := renL_mem hx; rw [ren_isAgg]; exact h3 p hp) (fun x hx => by obtain ⟨p, hp, rfl⟩ := renL_mem hx; rw [ren_isAgg]; exact h4 p hp) (ih hf.2)
  | nf hr ih => intro hf; simp only [refsOkL, Bool.and_eq_true] at hf; exact .nf (ih hf.2)
  | ifc t v h1 h2 hr i1 ih =>
    intro hf; simp only [refsOkL, refsOk, Bool.and_eq_true] at hf
    have := i1 (by simp [refsOkL, hf.1])
    simp only [renL] at this
    exact .ifc t _ this (by rw [ren_isAgg]; exact h2) (ih hf.2)
  | ni hr ih => intro hf; simp only [refsOkL, Bool.and_eq_true] at hf; exact .ni (ih hf.2)
  | mp k b hr ih => intro hf; simp only [refsOkL, Bool.and_eq_true] at hf; exact .mp k b (ih hf.2)
theorem RepL.ren1 {f : Nat → Bool} {ρ : Nat → Nat} {Δ : Cx} (hs : Same f ρ Γ Δ) {p : PV} {cs : List Value} (h : RepL Γ [p] cs) (hf : refsOk f p = true) : RepL Δ [Ab.ren ρ p] cs := by
  have := h.ren hs (by simp [refsOkL, hf])
  simpa only [renL] using this
theorem RepV1.ren {f : Nat → Bool} {ρ : Nat → Nat} {Δ : Cx} (hs : Same f ρ Γ Δ) {p : PV} {v : Value} (h : RepV1 Γ p v) (hf : refsOk f p = true) : RepV1 Δ (Ab.ren ρ p) v := by
  cases p
  case un => trivial
  case st w l => obtain ⟨cs, h1, h2⟩ := h; exact ⟨cs, h1, h2.ren1 hs hf⟩
  case ar sz n l => obtain ⟨cs, h1, h2⟩ := h; exact ⟨cs, h1, h2.ren1 hs hf⟩
  all_goals exact RepL.ren1 hs h hf
theorem RepV.ren {f : Nat → Bool} {ρ : Nat → Nat} {Δ : Cx} (hs : Same f ρ Γ Δ) : ∀ {p : PV} {v : Value}, RepV Γ p v → refsOk f p = true → RepV Δ (Ab.ren ρ p) v := by
  have h2 : ∀ {l : List PV} {vs : List Value}, AllV Γ l vs → refsOkL f l = true → AllV Δ (renL ρ l) vs := by
    intro l
    induction l with
    | nil => intro vs h hf; cases vs <;> simp_all [AllV, renL]
    | cons p l ih =>
      intro vs h hf
      simp only [refsOkL, Bool.and_eq_true] at hf
      cases vs with
      | nil => simp [AllV] at h
      | cons v vs => simp only [AllV, renL] at h ⊢; exact ⟨h.1.ren hs hf.1, ih h.2 hf.2⟩
  intro p
  induction p using PV.rec (motive_2 := fun _ => True) with
  | gd b p ih => intro v h hf; simp only [Ab.ren, refsOk] at hf ⊢; rw [RepV] at h ⊢; exact ⟨fun hb => ih (h.1 hb) hf, h.2⟩
  | tup l => intro v h hf; simp only [RepV, Ab.ren, refsOk] at h hf ⊢; obtain ⟨vs, e, h⟩ := h; exact ⟨vs, e, h2 h hf⟩
  | un => intro v h hf; simp [RepV, Ab.ren]
  | st w l => intro v h hf; obtain ⟨cs, e, h⟩ := h; exact ⟨cs, e, h.ren1 hs hf⟩
  | ar sz n l => intro v h hf; obtain ⟨cs, e, h⟩ := h; exact ⟨cs, e, h.ren1 hs hf⟩
  | nil => trivial
  | cons => trivial
  | _ => intro v h hf; exact RepL.ren1 hs h hf
def renB (ρ : Nat → Nat) : Blk → Blk
  | .box v => .box (Ab.ren ρ v)
  | .arr sz l => .arr sz (renL ρ l)
  | .map b ks vs l => .map b ks vs l
def refsOkB (f : Nat → Bool) : Blk → Bool
  | .box v => refsOk f v
  | .arr _ l => refsOkL f l
  | .map .. => true
theorem renB_tot (ρ : Nat → Nat) (b : Blk) : (renB ρ b).tot = b.tot := by cases b <;> simp [renB, Blk.tot, renL_length]
theorem Blk.Rep.ren {f : Nat → Bool} {ρ : Nat → Nat} {Δ : Cx} (hs : Same f ρ Γ Δ) {blk : Blk} {ob : Option Nat} (h : blk.Rep Γ ob) (hf : refsOkB f blk = true) : (renB ρ blk).Rep Δ ob := by
  cases blk with
  | box v =>
    obtain ⟨b, c, e, h1, h2, h3⟩ := h
    exact ⟨b, c, e, h1, by rw [hs.heap]; exact h2, h3.ren1 hs hf⟩
  | arr sz l =>
    obtain ⟨h1, h2, h3⟩ := h
    refine ⟨fun x hx => by obtain ⟨p, hp, rfl⟩ := renL_mem hx; rw [ren_width]; exact h1 p hp, h2, ?_⟩
    cases ob with
    | none => trivial
    | some b =>
      obtain ⟨c, e, cs, rest, h4, h5, h6⟩ := h3
      exact ⟨c, e, cs, rest, by rw [hs.heap]; exact h4, h5, h6.ren hs hf⟩
  | map b ks vs l =>
    obtain ⟨h1, h2⟩ := h
    exact ⟨h1, by rw [hs.heap]; exact h2⟩
end Go.Ab
namespace Go.Ab
variable [Tabs]
variable {P : Program} {nt : Nat} {ds : List Deferred} {s : St} {Γ : Cx} {a : Act} {w : World}
def KB : Nat := 9000
def fpBx : Nat → List Blk → List (Nat × Blk)
  | _, [] => []
  | i, b :: r => (KB + i, b) :: fpBx (i + 1) r
theorem get_fpBx' (B : Nat) : ∀ (l : List Blk) (i k : Nat), get ((l.zipIdx i).map fun x => (B + x.2, x.1)) k = if B + i ≤ k then l[k - B - i]? else none
  | [], i, k => by simp [get]
  | b :: l, i, k => by
    have ih := get_fpBx' B l (i + 1) k
    rw [List.zipIdx_cons, List.map_cons]
    unfold get
    rw [ih]
    by_cases h : B + i = k
    · rw [if_pos h, if_pos (by omega), show k - B - i = 0 by omega]; rfl
    · rw [if_neg h]
      by_cases h2 : B + i ≤ k
      · rw [if_pos h2, if_pos (by omega), show k - B - i = (k - B - (i + 1)) + 1 by omega, List.getElem?_cons_succ]
      · rw [if_neg h2, if_neg (by omega)]
theorem fpBx_eq : ∀ (l : List Blk) (i : Nat), fpBx i l = (l.zipIdx i).map fun x => (KB + x.2, x.1)
  | [], i => rfl
  | b :: l, i => by rw [fpBx, fpBx_eq l (i + 1), List.zipIdx_cons, List.map_cons]
theorem get_fpBx (l : List Blk) (i k : Nat) : get (fpBx i l) k = if KB + i ≤ k then l[k - KB - i]? else none := by
  rw [fpBx_eq]; exact get_fpBx' KB l i k
def AllR (Γ : Cx) : List PV → List Value → Prop
  | [], [] => True
  | p :: ps, v :: vs => RepV Γ p v ∧ AllR Γ ps vs
  | _, _ => False
def CallV (P : Program) (f : FuncId) (vs : Array Value) (w : World) (Q : Ending → World → Prop) : Prop :=
  ((callFunc f vs).run P w = .ok (.enter f vs) w ∧ Calls P f vs w Q) ∨ ∃ v w', (callFunc f vs).run P w = .ok (.value v) w' ∧ Q (.returned v) w'
theorem CallV.mono {f : FuncId} {vs : Array Value} {w : World} {Q Q' : Ending → World → Prop} (h : CallV P f vs w Q) (hq : ∀ e w', Q e w' → Q' e w') : CallV P f vs w Q' := by
  rcases h with ⟨h1, h2⟩ | ⟨v, w', h1, h2⟩
  · exact .inl ⟨h1, h2.mono hq⟩
  · exact .inr ⟨v, w', h1, hq _ _ h2⟩
theorem CallV.calls {f : FuncId} {vs : Array Value} {w : World} {Q : Ending → World → Prop} (h : CallV P f vs w Q) (he : (callFunc f vs).run P w = .ok (.enter f vs) w) : Calls P f vs w Q := by
  rcases h with ⟨h1, h2⟩ | ⟨v, w', h1, h2⟩
  · exact h2
  · rw [he] at h1; simp at h1
def ACalls (P : Program) (f : FuncId) (args : List PV) (fp : List Blk) (R : PV → List Blk → Prop) : Prop :=
  ∀ (Γ : Cx) (w : World) (vs : List Value), w.heap = Γ.heap → Mem Γ → Γ.bx = fpBx 0 fp → AllR Γ args vs →
    CallV P f vs.toArray w (fun e w' => ∃ v r fp' Γ', e = .returned v ∧ R r fp' ∧ w'.heap = Γ'.heap ∧ Mem Γ' ∧ Γ'.bx = fpBx 0 fp' ∧ RepV Γ' r v ∧ Le Γ Γ' ∧ WF w w')
theorem ACalls.mono {f : FuncId} {args : List PV} {fp : List Blk} {R R' : PV → List Blk → Prop} (h : ACalls P f args fp R) (hr : ∀ r fp', R r fp' → R' r fp') : ACalls P f args fp R' := by
  intro Γ w vs h1 h2 h3 h4
  refine (h Γ w vs h1 h2 h3 h4).mono ?_
  rintro e w' ⟨v, r, fp', Γ', e1, e2, e3⟩
  exact ⟨v, r, fp', Γ', e1, hr _ _ e2, e3⟩
def idx : List Nat → Nat → Option Nat
  | [], _ => none
  | x :: r, k => if x = k then some 0 else match idx r k with | some i => some (i + 1) | none => none
theorem idx_get : ∀ {l : List Nat} {k i : Nat}, idx l k = some i → l[i]? = some k
  | [], k, i, h => by simp [idx] at h
  | x :: r, k, i, h => by
    simp only [idx] at h
    split at h
    · simp at h; subst_vars; rfl
    · split at h
      · rename_i j hj
        simp at h; subst h
        simpa using idx_get hj
      · simp at h
theorem idx_of : ∀ {l : List Nat} {k i : Nat}, l.Nodup → l[i]? = some k → idx l k = some i
  | [], k, i, _, h => by simp at h
  | x :: r, k, i, hn, h => by
    rw [List.nodup_cons] at hn
    cases i with
    | zero => simp at h; subst h; simp [idx]
    | succ i =>
      simp at h
      have hne : x ≠ k := by intro e; subst e; exact hn.1 (List.mem_of_getElem? h)
      simp [idx, hne, idx_of hn.2 h]
theorem idx_none {l : List Nat} {k : Nat} (h : idx l k = none) : k ∉ l := by
  induction l with
  | nil => simp
  | cons x r ih =>
    simp only [idx] at h
    split at h
    · simp at h
    · split at h
      · simp at h
      · rename_i hne _ hr
        simp only [List.mem_cons, not_or]
        exact ⟨fun e => hne e.symm, ih hr⟩
def getAll (bx : List (Nat × Blk)) : List Nat → Option (List Blk)
  | [] => some []
  | k :: r => match get bx k, getAll bx r with | some b, some l => some (b :: l) | _, _ => none
theorem getAll_get : ∀ {ks : List Nat} {bx : List (Nat × Blk)} {l : List Blk}, getAll bx ks = some l → l.length = ks.length ∧ ∀ (i : Nat) k, ks[i]? = some k → ∃ b, get bx k = some b ∧ l[i]? = some b
  | [], bx, l, h => by simp [getAll] at h; subst h; simp
  | k :: r, bx, l, h => by
    simp only [getAll] at h
    split at h
    · rename_i b l' hb hl
      simp only [Option.some.injEq] at h; subst h
      obtain ⟨h1, h2⟩ := getAll_get hl
      refine ⟨by simp [h1], fun i j hj => ?_⟩
      cases i with
      | zero => simp at hj; subst hj; exact ⟨b, hb, rfl⟩
      | succ i => simp at hj; simpa using h2 i j hj
    · simp at h
def putAll (bx : List (Nat × Blk)) : List Nat → List Blk → List (Nat × Blk)
  | k :: ks, b :: bs => putAll (put bx k b) ks bs
  | _, _ => bx
theorem get_putAll : ∀ {ks : List Nat} {bs : List Blk} {bx : List (Nat × Blk)} (k : Nat), ks.Nodup → bs.length = ks.length → get (putAll bx ks bs) k = match idx ks k with | some i => bs[i]? | none => get bx k
  | [], bs, bx, k, _, hl => by cases bs <;> simp_all [putAll, idx]
  | x :: r, bs, bx, k, hn, hl => by
    cases bs with
    | nil => simp at hl
    | cons b bs =>
      rw [List.nodup_cons] at hn
      simp only [putAll, get_putAll k hn.2 (by simpa using hl), idx]
      by_cases hx : x = k
      · subst hx
        have : idx r x = none := by
          cases hi : idx r x with
          | none => rfl
          | some i => exact absurd (List.mem_of_getElem? (idx_get hi)) hn.1
        simp [this, get_put_same]
      · rw [if_neg hx]
        cases idx r k with
        | none => simp [get_put_ne _ _ _ _ hx]
        | some i => simp
def ren1 (ks : List Nat) (k : Nat) : Nat := match idx ks k with | some i => KB + i | none => k
def ren2 (ks : List Nat) (k : Nat) : Nat := if KB ≤ k then (ks[k - KB]?).getD k else k
def inKs (ks : List Nat) (k : Nat) : Bool := (idx ks k).isSome
def inFp (n : Nat) (k : Nat) : Bool := decide (KB ≤ k ∧ k < KB + n)
def CallK (P : Program) (s : St) (d : Option Nat) (f : FuncId) (args : List PV) (ks os : List Nat) (K : St → Prop) : Prop :=
  ∃ blks R, getAll s.bx ks = some blks ∧ (ks ++ os).Nodup ∧ (∀ o ∈ os, get s.bx o = none) ∧ refsOkL (inKs ks) args = true ∧ blks.all (refsOkB (inKs ks)) = true ∧
    ACalls P f (renL (ren1 ks) args) (blks.map (renB (ren1 ks))) R ∧
    ∀ r fp, R r fp → (fp.length = (ks ++ os).length ∧ refsOk (inFp fp.length) r = true ∧ fp.all (refsOkB (inFp fp.length)) = true) ∧
      K ({ s with bx := putAll s.bx (ks ++ os) (fp.map (renB (ren2 (ks ++ os)))) }.put d (ren (ren2 (ks ++ os)) r))
def Cx.call (Γ : Cx) (ks : List Nat) (blks : List Blk) : Cx :=
  { heap := Γ.heap, ι := fun k => if KB ≤ k then (match ks[k - KB]? with | some j => Γ.ι j | none => none) else none,
    bx := fpBx 0 (blks.map (renB (ren1 ks))), prot := fun b => Γ.own b ∧ ¬ ∃ (i : Nat) (k : Nat), ks[i]? = some k ∧ Γ.ι k = some b }
def Cx.back (Γ Γ' : Cx) (all : List Nat) (fp : List Blk) : Cx :=
  { heap := Γ'.heap, ι := fun k => match idx all k with | some i => Γ'.ι (KB + i) | none => Γ.ι k,
    bx := putAll Γ.bx all (fp.map (renB (ren2 all))), prot := Γ.prot }
theorem Cx.call_same {ks : List Nat} {blks : List Blk} (hg : getAll Γ.bx ks = some blks) : Same (inKs ks) (ren1 ks) Γ (Γ.call ks blks) where
  heap := rfl
  own b _ hn := by
    rintro (⟨k, blk, h1, h2⟩ | ⟨h, _⟩)
    · simp only [Cx.call] at h2
      split at h2
      · split at h2
        · rename_i j hj
          obtain ⟨_, hget⟩ := getAll_get hg
          obtain ⟨b', g1, _⟩ := hget _ _ hj
          exact hn (.inl ⟨j, b', g1, h2⟩)
        · simp at h2
      · simp at h2
    · exact hn h
  ref k blk hk hb := by
    obtain ⟨i, hi⟩ := Option.isSome_iff_exists.1 hk
    obtain ⟨hl, hget⟩ := getAll_get hg
    obtain ⟨b', g1, g2⟩ := hget i k (idx_get hi)
    rw [hb] at g1; cases g1
    refine ⟨renB (ren1 ks) blk, ?_, renB_tot _ _, ?_⟩
    · simp only [Cx.call, ren1, hi, get_fpBx]
      rw [if_pos (by omega)]
      simp [g2]
    · simp only [Cx.call, ren1, hi]
      rw [if_pos (by omega)]
      simp [idx_get hi]
theorem Cx.call_mutb {ks : List Nat} {blks : List Blk} (hg : getAll Γ.bx ks = some blks) {b : Nat} : (Γ.call ks blks).mutb b ↔ ∃ (i : Nat) (k : Nat), ks[i]? = some k ∧ Γ.ι k = some b := by
  obtain ⟨hl, hget⟩ := getAll_get hg
  constructor
  · rintro ⟨k, blk, h1, h2⟩
    simp only [Cx.call] at h2
    split at h2
    · split at h2
      · rename_i j hj; exact ⟨_, j, hj, h2⟩
      · simp at h2
    · simp at h2
  · rintro ⟨i, k, h1, h2⟩
    obtain ⟨b', g1, g2⟩ := hget i k h1
    refine ⟨KB + i, renB (ren1 ks) b', ?_, ?_⟩
    · simp only [Cx.call, get_fpBx]
      rw [if_pos (by omega)]
      simp [g2]
    · simp only [Cx.call]
      rw [if_pos (by omega)]
      simp [h1, h2]
theorem Cx.call_mem (hm : Mem Γ) {ks : List Nat} {blks : List Blk} (hg : getAll Γ.bx ks = some blks) (hn : ks.Nodup) (hok : blks.all (refsOkB (inKs ks)) = true) : Mem (Γ.call ks blks) where
  blk k blk hk := by
    obtain ⟨hl, hget⟩ := getAll_get hg
    simp only [Cx.call, get_fpBx] at hk
    split at hk
    · rename_i hle
      rw [List.getElem?_map, Option.map_eq_some_iff] at hk
      obtain ⟨b0, hb0, rfl⟩ := hk
      have hi := (List.getElem?_eq_some_iff.1 hb0).1
      obtain ⟨j, hj⟩ : ∃ j, ks[k - KB]? = some j := ⟨_, List.getElem?_eq_getElem (by omega)⟩
      obtain ⟨b1, g1, g2⟩ := hget _ _ hj
      simp only [Nat.sub_zero] at hb0
      rw [hb0] at g2; cases g2
      have := (hm.blk j b0 g1).ren (Cx.call_same hg) (List.all_eq_true.1 hok b0 (List.mem_of_getElem? hb0))
      have e : (Γ.call ks blks).ι k = Γ.ι j := by simp only [Cx.call]; rw [if_pos (by omega), hj]
      rw [e]; exact this
    · simp at hk
  inj i j b hi hj h1 h2 := by
    obtain ⟨hl, hget⟩ := getAll_get hg
    simp only [Cx.call] at h1 h2
    split at h1
    · split at h2
      · split at h1
        · rename_i x hx
          split at h2
          · rename_i y hy
            obtain ⟨b1, g1, _⟩ := hget _ _ hx
            obtain ⟨b2, g2, _⟩ := hget _ _ hy
            have := hm.inj x y b (by simp [g1]) (by simp [g2]) h1 h2
            subst this
            have e1 := idx_of hn hx
            have e2 := idx_of hn hy
            rw [e1] at e2; simp at e2; omega
          · simp at h2
        · simp at h1
      · simp at h2
    · simp at h1
  prot b h := by
    rcases h.1 with h | h
    · exact hm.lt h
    · exact hm.prot b h
  apart b h hp := hp.2 ((Cx.call_mutb hg).1 h)
  tab b cs h := by
    obtain ⟨h1, h2⟩ := hm.tab b cs h
    refine ⟨fun hb => h1 ?_, h2⟩
    obtain ⟨i, k, g1, g2⟩ := (Cx.call_mutb hg).1 hb
    obtain ⟨b', g3, _⟩ := (getAll_get hg).2 i k g1
    exact ⟨k, b', g3, g2⟩
theorem back_facts (hm : Mem Γ) {Γ' : Cx} {ks os : List Nat} {blks fp : List Blk} (hg : getAll Γ.bx ks = some blks) (hn : (ks ++ os).Nodup) (hos : ∀ o ∈ os, get Γ.bx o = none)
    (hm' : Mem Γ') (hbx : Γ'.bx = fpBx 0 fp) (hle : Le (Γ.call ks blks) Γ') (hlen : fp.length = (ks ++ os).length) (hok : fp.all (refsOkB (inFp fp.length)) = true) :
    Same (inFp fp.length) (ren2 (ks ++ os)) Γ' (Γ.back Γ' (ks ++ os) fp) ∧ Le Γ (Γ.back Γ' (ks ++ os) fp) ∧ Mem (Γ.back Γ' (ks ++ os) fp) := by
  obtain ⟨hl, hget⟩ := getAll_get hg
  have hnk : ks.Nodup := (List.nodup_append.1 hn).1
  have hgp : ∀ k, get (Γ.back Γ' (ks ++ os) fp).bx k = match idx (ks ++ os) k with | some i => (fp.map (renB (ren2 (ks ++ os))))[i]? | none => get Γ.bx k := fun k => get_putAll k hn (by simpa using hlen)
  have hsz : Γ.heap.size ≤ Γ'.heap.size := hle.size
  -- a block of a key that is handed over or comes back
  have hkey : ∀ {k i : Nat}, idx (ks ++ os) k = some i → ∃ b0, fp[i]? = some b0 ∧ get Γ'.bx (KB + i) = some b0 := by
    intro k i hi
    have hlt := (List.getElem?_eq_some_iff.1 (idx_get hi)).1
    have : fp[i]? = some (fp[i]'(by omega)) := List.getElem?_eq_getElem (by omega)
    exact ⟨_, this, by rw [hbx, get_fpBx, if_pos (by omega)]; simpa using this⟩
  have hprot : Γ'.prot = (Γ.call ks blks).prot := hle.prot
  have hother : ∀ {k b : Nat} {blk : Blk}, idx (ks ++ os) k = none → get Γ.bx k = some blk → Γ.ι k = some b → (Γ.call ks blks).prot b := by
    intro k b blk hi hb hι
    refine ⟨.inl ⟨k, blk, hb, hι⟩, ?_⟩
    rintro ⟨i, k', h1, h2⟩
    obtain ⟨b', g1, _⟩ := hget i k' h1
    have := hm.inj k k' b (by simp [hb]) (by simp [g1]) hι h2
    subst this
    exact idx_none hi (List.mem_append.2 (.inl (List.mem_of_getElem? h1)))
  have same : Same (inFp fp.length) (ren2 (ks ++ os)) Γ' (Γ.back Γ' (ks ++ os) fp) := by
    refine ⟨rfl, fun b hb hno => ?_, fun k blk hk hb => ?_⟩
    · rintro (⟨k, blk, h1, h2⟩ | h)
      · rw [hgp] at h1
        simp only [Cx.back] at h2
        cases hi : idx (ks ++ os) k with
        | some i =>
          rw [hi] at h2
          obtain ⟨b0, _, g2⟩ := hkey hi
          exact hno (.inl ⟨_, b0, g2, h2⟩)
        | none =>
          rw [hi] at h1 h2
          exact hno (.inr (by rw [hprot]; exact hother hi h1 h2))
      · have h' : Γ.prot b := h
        have hpc : (Γ.call ks blks).prot b := by
          refine ⟨.inr h', ?_⟩
          rintro ⟨i, k', h1, h2⟩
          obtain ⟨b', g1, _⟩ := hget i k' h1
          exact hm.apart b ⟨k', b', g1, h2⟩ h'
        exact hno (.inr (by rw [hprot]; exact hpc))
    · simp only [inFp, decide_eq_true_eq] at hk
      obtain ⟨i, rfl⟩ : ∃ i, k = KB + i := ⟨k - KB, by omega⟩
      have hik : (ks ++ os)[i]? = some ((ks ++ os)[i]'(by omega)) := List.getElem?_eq_getElem (by omega)
      have hr : ren2 (ks ++ os) (KB + i) = (ks ++ os)[i]'(by omega) := by
        simp only [ren2]; rw [if_pos (by omega)]; simp [hik]
      have hidx := idx_of hn hik
      rw [hbx, get_fpBx, if_pos (by omega)] at hb
      simp only [Nat.add_sub_cancel_left, Nat.sub_zero] at hb
      refine ⟨renB (ren2 (ks ++ os)) blk, ?_, renB_tot _ _, ?_⟩
      · rw [hgp, hr, hidx]; simp [hb]
      · simp only [Cx.back]; rw [hr, hidx]
  have le : Le Γ (Γ.back Γ' (ks ++ os) fp) := by
    refine ⟨fun b hb hno => ?_, fun b hb h => ?_, rfl, hsz, fun k blk hk => ?_⟩
    · refine hle.heap b hb (fun h => hno ?_)
      obtain ⟨i, k, h1, h2⟩ := (Cx.call_mutb hg).1 h
      obtain ⟨b', g1, _⟩ := hget i k h1
      exact ⟨k, b', g1, h2⟩
    · obtain ⟨k, blk, h1, h2⟩ := h
      rw [hgp] at h1
      simp only [Cx.back] at h2
      cases hi : idx (ks ++ os) k with
      | some i =>
        rw [hi] at h2
        obtain ⟨b0, _, g2⟩ := hkey hi
        obtain ⟨i', k', g3, g4⟩ := (Cx.call_mutb hg).1 (hle.mutb b hb ⟨_, b0, g2, h2⟩)
        obtain ⟨b', g1, _⟩ := hget i' k' g3
        exact ⟨k', b', g1, g4⟩
      | none =>
        rw [hi] at h1 h2
        exact ⟨k, blk, h1, h2⟩
    · cases hi : idx (ks ++ os) k with
      | some i =>
        obtain ⟨b0, g1, g2⟩ := hkey hi
        have hki := idx_get hi
        have hik : ks[i]? = some k := by
          rw [List.getElem?_append] at hki
          split at hki
          · exact hki
          · rw [hos k (List.mem_of_getElem? hki)] at hk; simp at hk
        obtain ⟨b1, g3, g4⟩ := hget i k hik
        rw [hk] at g3; cases g3
        have hce : get (Γ.call ks blks).bx (KB + i) = some (renB (ren1 ks) blk) := by
          simp only [Cx.call, get_fpBx]; rw [if_pos (by omega)]; simp [g4]
        have hcι : (Γ.call ks blks).ι (KB + i) = Γ.ι k := by
          simp only [Cx.call]; rw [if_pos (by omega)]; simp [hik]
        obtain ⟨b2, g5, g6, g7⟩ := hle.ref _ _ hce
        rw [g2] at g5; cases g5
        refine ⟨renB (ren2 (ks ++ os)) b0, by rw [hgp, hi]; simp [g1], by rw [renB_tot]; rw [renB_tot] at g6; exact g6, fun ht => ?_⟩
        rw [renB_tot] at ht g7
        obtain ⟨g8, g9⟩ := g7 ht
        rw [hcι] at g8 g9
        refine ⟨by simp only [Cx.back]; rw [hi]; exact g8, g9⟩
      | none =>
        refine ⟨blk, by rw [hgp, hi]; exact hk, Nat.le_refl _, fun _ => ⟨by simp only [Cx.back]; rw [hi], fun b hb cs e hc => ⟨cs, ?_, rfl⟩⟩⟩
        have hp := hother hi hk hb
        rw [← hc]
        refine hle.heap b (lt_of_get hc) (fun h => hp.2 ((Cx.call_mutb hg).1 h))
  refine ⟨same, le, ⟨fun k blk hk => ?_, fun i j b hi hj h1 h2 => ?_, fun b h => Nat.lt_of_lt_of_le (hm.prot b h) hsz, fun b h hp => hm.apart b (le.mutb b (hm.prot b hp) h) hp, hm.tab_le le⟩⟩
  · rw [hgp] at hk
    cases hi : idx (ks ++ os) k with
    | some i =>
      rw [hi] at hk
      obtain ⟨b0, g1, g2⟩ := hkey hi
      simp only [List.getElem?_map, g1, Option.map_some, Option.some.injEq] at hk
      subst hk
      have := (hm'.blk _ _ g2).ren same (List.all_eq_true.1 hok b0 (List.mem_of_getElem? g1))
      have e : (Γ.back Γ' (ks ++ os) fp).ι k = Γ'.ι (KB + i) := by simp only [Cx.back]; rw [hi]
      rw [e]; exact this
    | none =>
      rw [hi] at hk
      have e : (Γ.back Γ' (ks ++ os) fp).ι k = Γ.ι k := by simp only [Cx.back]; rw [hi]
      rw [e]
      have hb := hm.blk k blk hk
      refine hb.mono le (fun b hb2 => ?_)
      have hp := hother hi hk hb2
      rw [hb2] at hb
      exact hle.heap b hb.lt (fun h => hp.2 ((Cx.call_mutb hg).1 h))
  · rw [hgp] at hi hj
    simp only [Cx.back] at h1 h2
    cases e1 : idx (ks ++ os) i with
    | some x =>
      rw [e1] at h1
      obtain ⟨b0, _, g2⟩ := hkey e1
      cases e2 : idx (ks ++ os) j with
      | some y =>
        rw [e2] at h2
        obtain ⟨b1, _, g3⟩ := hkey e2
        have := hm'.inj _ _ b (by simp [g2]) (by simp [g3]) h1 h2
        have hxy : x = y := by omega
        subst hxy
        have := idx_get e1
        rw [idx_get e2] at this
        exact (Option.some.inj this).symm
      | none =>
        rw [e2] at hj h2
        obtain ⟨b1, hb1⟩ := Option.isSome_iff_exists.1 hj
        have hp := hother e2 hb1 h2
        rw [← hprot] at hp
        exact absurd hp (hm'.apart b ⟨_, b0, g2, h1⟩)
    | none =>
      rw [e1] at hi h1
      obtain ⟨b0, hb0⟩ := Option.isSome_iff_exists.1 hi
      cases e2 : idx (ks ++ os) j with
      | some y =>
        rw [e2] at h2
        obtain ⟨b1, _, g3⟩ := hkey e2
        have hp := hother e1 hb0 h1
        rw [← hprot] at hp
        exact absurd hp (hm'.apart b ⟨_, b1, g3, h2⟩)
      | none =>
        rw [e2] at hj h2
        exact hm.inj i j b (by simpa [hb0] using hi) hj h1 h2
end Go.Ab
namespace Go.Ab
variable [Tabs]
variable {P : Program} {nt : Nat} {ds : List Deferred} {s : St} {Γ : Cx} {a : Act} {w : World} {l : Nat} {o : Obj}
abbrev FW (ro : Option Nat) : Fence := { Fence.wide with round := ro }
theorem FW_calls {ro : Option Nat} {f : FuncId} {args : Array Value} {R : Ending → World → Prop} (h : Calls P f args w R) : CallsIn (FW ro) 0 P f args w R :=
  (callsIn_wide (n := 0)).2 h
theorem FW_calls' {ro : Option Nat} {f : FuncId} {args : Array Value} {R : Ending → World → Prop} (h : CallsIn (FW ro) 0 P f args w R) : Calls P f args w R :=
  (callsIn_wide (n := 0)).1 h
def isC : Obj → Bool
  | .cells .. | .map .. => true
  | _ => false
def Cx.obj (Γ : Cx) (l : Nat) (o : Obj) : Cx := { Γ with heap := Γ.heap.setIfInBounds l o }
def Cx.plainAt (Γ : Cx) (l : Nat) : Prop := ∃ x, Γ.heap[l]? = some x ∧ isC x = false
theorem obj_other {b : Nat} (h : b ≠ l) : (Γ.obj l o).heap[b]? = Γ.heap[b]? := by simp [Cx.obj, Array.getElem?_setIfInBounds_ne (Ne.symm h)]
theorem obj_same (h : l < Γ.heap.size) : (Γ.obj l o).heap[l]? = some o := by simp [Cx.obj, h]
theorem obj_size : (Γ.obj l o).heap.size = Γ.heap.size := by simp [Cx.obj]
theorem Cx.plainAt.lt (h : Γ.plainAt l) : l < Γ.heap.size := by obtain ⟨x, hx, _⟩ := h; exact lt_of_get hx
theorem Cx.plainAt.ne' (h : Γ.plainAt l) {b : Nat} {x : Obj} (hb : Γ.heap[b]? = some x) (hx : isC x = true) : b ≠ l := by
  rintro rfl
  obtain ⟨y, hy, hc⟩ := h
  rw [hb] at hy; cases hy; rw [hx] at hc; simp at hc
theorem Cx.plainAt.ne (h : Γ.plainAt l) {b : Nat} {c : Array Value} {e : TypeId} {z : Nat × Nat} (hb : Γ.heap[b]? = some (.cells c e z)) : b ≠ l := h.ne' hb rfl
theorem mutb_cells (hm : Mem Γ) {b : Nat} (h : Γ.mutb b) : ∃ x, Γ.heap[b]? = some x ∧ isC x = true := by
  obtain ⟨k, blk, h1, h2⟩ := h
  have := hm.blk k blk h1
  rw [h2] at this
  cases blk with
  | box v => obtain ⟨b', c, e, e1, e2, _⟩ := this; cases e1; exact ⟨_, e2, rfl⟩
  | arr sz l => obtain ⟨_, _, c, e, cs, rest, e2, _⟩ := this; exact ⟨_, e2, rfl⟩
  | map b0 ks vs l => obtain ⟨e1, es, clock, e2, _⟩ := this; cases e1; exact ⟨_, e2, rfl⟩
theorem plain_not_mutb (hm : Mem Γ) (h : Γ.plainAt l) : ¬ Γ.mutb l := by
  intro hb
  obtain ⟨x, hx, hc⟩ := mutb_cells hm hb
  exact h.ne' hx hc rfl
theorem lec_obj (h : Γ.plainAt l) : LeC Γ (Γ.obj l o) where
  cell b i c _ _ hc := by
    have hb : b ≠ l := by
      rintro rfl
      obtain ⟨x, hx, hp⟩ := h
      unfold Ab.cell at hc
      rw [hx] at hc
      cases x <;> simp_all [isC]
    unfold Ab.cell at hc ⊢
    rw [obj_other hb]; exact hc
  own b _ ho := ho
  size := by rw [obj_size]; exact Nat.le_refl _
  ref k blk hk := ⟨blk, hk, Nat.le_refl _, fun _ => ⟨rfl, fun b _ cs e hc => ⟨cs, by rw [obj_other (h.ne hc)]; exact hc, rfl⟩⟩⟩
theorem mem_obj (hm : Mem Γ) (h : Γ.plainAt l) : Mem (Γ.obj l o) where
  blk k blk hk := (hm.blk k blk hk).monoC (lec_obj h) fun b hb => by
    obtain ⟨x, hx, hc⟩ := mutb_cells hm ⟨k, blk, hk, hb⟩
    exact obj_other (h.ne' hx hc)
  inj := hm.inj
  prot b hb := by rw [obj_size]; exact hm.prot b hb
  apart := hm.apart
  tab b cs hb := by
    obtain ⟨h1, e, x, h2⟩ := hm.tab b cs hb
    exact ⟨h1, e, x, by rw [obj_other (h.ne h2)]; exact h2⟩
theorem plain_obj (h : Γ.plainAt l) (ho : isC o = false) : (Γ.obj l o).plainAt l := ⟨o, obj_same h.lt, ho⟩
theorem Le.plain {A B : Cx} (h : Le A B) (hm : Mem A) {x : Obj} (hx : A.heap[l]? = some x) (hc : isC x = false) : B.heap[l]? = some x := by
  rw [h.heap l (lt_of_get hx) (plain_not_mutb hm ⟨x, hx, hc⟩)]; exact hx
theorem le_obj_both {A B : Cx} (h : Le A B) (hm : Mem A) (ha : A.plainAt l) (ho : isC o = false) : Le (A.obj l o) (B.obj l o) where
  heap b hb hn := by
    rw [obj_size] at hb
    by_cases e : b = l
    · subst e; rw [obj_same hb, obj_same (Nat.lt_of_lt_of_le hb h.size)]
    · rw [obj_other e, obj_other e]; exact h.heap b hb hn
  mutb b hb hn := by rw [obj_size] at hb; exact h.mutb b hb hn
  prot := h.prot
  size := by rw [obj_size, obj_size]; exact h.size
  ref k blk hk := by
    obtain ⟨blk', h1, h2, h3⟩ := h.ref k blk hk
    refine ⟨blk', h1, h2, fun ht => ⟨(h3 ht).1, fun b hb cs e hc => ?_⟩⟩
    have hne : b ≠ l := (plain_obj ha ho).ne hc
    rw [obj_other hne] at hc ⊢
    exact (h3 ht).2 b hb cs e hc
theorem le_obj_right {A B : Cx} (h : Le A B) (hl : A.heap.size ≤ l) (hb : B.plainAt l) : Le A (B.obj l o) where
  heap b hlt hn := by rw [obj_other (by omega)]; exact h.heap b hlt hn
  mutb b hlt hn := h.mutb b hlt hn
  prot := h.prot
  size := by rw [obj_size]; exact h.size
  ref k blk hk := by
    obtain ⟨blk', h1, h2, h3⟩ := h.ref k blk hk
    refine ⟨blk', h1, h2, fun ht => ⟨(h3 ht).1, fun b hb' cs e hc => ?_⟩⟩
    obtain ⟨cs', h4, h5⟩ := (h3 ht).2 b hb' cs e hc
    exact ⟨cs', by rw [obj_other (hb.ne h4)]; exact h4, h5⟩
theorem obj_back {o' : Obj} (h : Γ.heap[l]? = some o) : (Γ.obj l o').obj l o = Γ := by
  have hlt := lt_of_get h
  have : (Γ.heap.setIfInBounds l o').setIfInBounds l o = Γ.heap := by
    apply Array.ext
    · simp
    · intro i h1 h2
      rw [Array.getElem_setIfInBounds (by simpa using h2)]
      split
      · subst_vars; exact ((Array.getElem?_eq_some_iff.1 h).2).symm
      · rename_i hne
        rw [Array.getElem_setIfInBounds h2, if_neg hne]
  simp only [Cx.obj, this]
theorem Sim.obj (hs : Sim nt ds s Γ a) (h : Γ.plainAt l) : Sim nt ds s (Γ.obj l o) a :=
  ⟨hs.bx, hs.size, hs.defers, fun k p hk => (hs.env k p hk).monoC (lec_obj h), mem_obj hs.mem h⟩
theorem heap_obj (h : w.heap = Γ.heap) : (w.putObj l o).heap = (Γ.obj l o).heap := by simp [World.putObj, Cx.obj, h]
theorem WF.obj (w : World) (l : Nat) (o : Obj) : WF w (w.putObj l o) := ⟨rfl, rfl, rfl⟩
theorem WF.alloc (w : World) (o : Obj) : WF w (w.alloc o) := ⟨rfl, rfl, rfl⟩
def DefOk (B : Nat) (Γ : Cx) (ds : List Deferred) : Prop :=
  ∃ Ds : List Nat, ds = Ds.map (fun D => { target := .collected D, args := #[] }) ∧ Ds.Nodup ∧ ∀ D ∈ Ds, B ≤ D ∧ Γ.heap[D]? = some (.deferred (some []))
theorem DefOk.nil {B : Nat} : DefOk B Γ [] := ⟨[], rfl, .nil, by simp⟩
theorem DefOk.le {B : Nat} {Γ' : Cx} (h : DefOk B Γ ds) (hm : Mem Γ) (hle : Le Γ Γ') : DefOk B Γ' ds := by
  obtain ⟨Ds, h1, h2, h3⟩ := h
  exact ⟨Ds, h1, h2, fun D hD => ⟨(h3 D hD).1, hle.plain hm (h3 D hD).2 rfl⟩⟩
theorem DefOk.heap {B : Nat} {Γ' : Cx} (h : DefOk B Γ ds) (he : Γ'.heap = Γ.heap) : DefOk B Γ' ds := by
  obtain ⟨Ds, h1, h2, h3⟩ := h
  exact ⟨Ds, h1, h2, fun D hD => ⟨(h3 D hD).1, by rw [he]; exact (h3 D hD).2⟩⟩
def fpKeys (n : Nat) : List Nat := (List.range n).map (KB + ·)
def AYield (P : Program) (l : Nat) (Γc : Cx) (args : List PV) (fp : List Blk) (R : List Blk → Prop) : Prop :=
  ∀ (Γ : Cx) (w : World) (vs : List Value), w.heap = Γ.heap → Mem Γ → Γ.bx = fpBx 0 fp → AllR Γ args vs → LeC Γc Γ → Γ.heap[l]? = Γc.heap[l]? →
    YieldAt (FW none) 0 P l vs.toArray w (fun e w' => ∃ fp' Γ', e = .returned (.bool true) ∧ R fp' ∧ w'.heap = Γ'.heap ∧ Mem Γ' ∧ Γ'.bx = fpBx 0 fp' ∧ Le Γ Γ' ∧ WF w w')
class YCtx where
  n : Nat
  spec : Nat → List PV → List Blk → (List Blk → Prop) → Prop
instance noY : YCtx := ⟨0, fun _ _ _ _ => False⟩
def YOk [Y : YCtx] (P : Program) (Γ : Cx) : Prop := ∀ l args fp R, Y.spec l args fp R →
  ∃ Γ0 rec, Le Γ0 Γ ∧ (∀ k blk, get Γ0.bx k = some blk → KB ≤ k ∧ k < KB + Y.n) ∧ Γ0.heap[l]? = some (.loop rec) ∧ Mem Γ0 ∧ AYield P l Γ0 args fp R
theorem YOk.le [YCtx] {Γ' : Cx} (h : YOk P Γ) (hle : Le Γ Γ') : YOk P Γ' := fun l args fp R hs => by
  obtain ⟨Γ0, rec, h1, h2⟩ := h l args fp R hs
  exact ⟨Γ0, rec, h1.trans hle, h2⟩
theorem YOk.no : @YOk _ noY P Γ := fun _ _ _ _ h => h.elim
def YCallK [Y : YCtx] (s : St) (d : Option Nat) (l : Nat) (args : List PV) (K : St → Prop) : Prop :=
  ∃ blks R, getAll s.bx (fpKeys Y.n) = some blks ∧ refsOkL (inFp Y.n) args = true ∧ blks.all (refsOkB (inFp Y.n)) = true ∧ Y.spec l args blks R ∧
    ∀ fp, R fp → (fp.length = Y.n ∧ fp.all (refsOkB (inFp Y.n)) = true) ∧ K ({ s with bx := putAll s.bx (fpKeys Y.n) fp }.put d (.bl true))
theorem fpKeys_nodup (n : Nat) : (fpKeys n).Nodup := by
  unfold fpKeys
  exact List.Pairwise.map _ (fun a b h => by simp only [ne_eq]; omega) List.nodup_range
theorem fpKeys_at {n i k : Nat} : (fpKeys n)[i]? = some k ↔ i < n ∧ k = KB + i := by
  unfold fpKeys
  simp only [List.getElem?_map, Option.map_eq_some_iff]
  constructor
  · rintro ⟨x, h1, h2⟩
    obtain ⟨h3, h4⟩ := List.getElem?_eq_some_iff.1 h1
    simp at h3 h4; subst h4
    exact ⟨h3, h2.symm⟩
  · rintro ⟨h1, rfl⟩
    exact ⟨i, by simp [h1], rfl⟩
theorem idx_fpKeys {n k : Nat} : idx (fpKeys n) k = if KB ≤ k ∧ k < KB + n then some (k - KB) else none := by
  split
  · rename_i h
    exact idx_of (fpKeys_nodup n) (fpKeys_at.2 ⟨by omega, by omega⟩)
  · rename_i h
    cases hi : idx (fpKeys n) k with
    | none => rfl
    | some i => exact absurd (fpKeys_at.1 (idx_get hi)) (by omega)
theorem inKs_fpKeys (n : Nat) : inKs (fpKeys n) = inFp n := by
  funext k
  simp only [inKs, idx_fpKeys, inFp]
  split <;> simp_all
theorem ren1_fpKeys {n k : Nat} : ren1 (fpKeys n) k = k := by
  unfold ren1
  rw [idx_fpKeys]
  split
  · rename_i i h
    split at h <;> simp at h
    omega
  · rfl
mutual
theorem ren_same {ρ : Nat → Nat} (h : ∀ k, ρ k = k) : ∀ p, ren ρ p = p
  | .rs k _ _ _ _ _ _ => by simp [ren, h]
  | .pt k _ _ => by simp [ren, h]
  | .st _ l => by simp [ren, renL_same h l]
  | .ar _ _ l => by simp [ren, renL_same h l]
  | .tup l => by simp [ren, renL_same h l]
  | .sl _ l _ => by simp [ren, renL_same h l]
  | .fp _ l _ => by simp [ren, renL_same h l]
  | .fn _ x y => by simp [ren, renL_same h x, renL_same h y]
  | .gd _ p => by simp [ren, ren_same h p]
  | .ifc _ p => by simp [ren, ren_same h p]
  | .un | .bl _ | .int .. | .str _ | .np | .nf | .ni | .mp .. => by simp [ren]
theorem renL_same {ρ : Nat → Nat} (h : ∀ k, ρ k = k) : ∀ l, renL ρ l = l
  | [] => rfl
  | p :: l => by simp [renL, ren_same h p, renL_same h l]
end
theorem renB_same {ρ : Nat → Nat} (h : ∀ k, ρ k = k) (b : Blk) : renB ρ b = b := by
  cases b <;> simp [renB, ren_same h, renL_same h]
theorem renBs_same {ρ : Nat → Nat} (h : ∀ k, ρ k = k) (l : List Blk) : l.map (renB ρ) = l := by
  induction l <;> simp [renB_same h, *]
theorem lec_call {Γ0 : Cx} {n : Nat} {blks : List Blk} (h0 : ∀ k blk, get Γ0.bx k = some blk → KB ≤ k ∧ k < KB + n) (hle : Le Γ0 Γ) (hg : getAll Γ.bx (fpKeys n) = some blks) : LeC Γ0 (Γ.call (fpKeys n) blks) where
  cell b i c hb hn hc := by
    have := hle.heap b hb fun h => hn (.inl h)
    rw [show (Γ.call (fpKeys n) blks).heap = Γ.heap from rfl, cell_of_heap this]; exact hc
  own b hb ho := by
    have hG : Γ.own b := by
      rcases ho with ho | ho
      · obtain ⟨i, k, h1, h2⟩ := (Cx.call_mutb hg).1 ho
        obtain ⟨_, hget⟩ := getAll_get hg
        obtain ⟨b', g1, _⟩ := hget i k h1
        exact .inl ⟨k, b', g1, h2⟩
      · exact ho.1
    exact hle.own b hb hG
  size := hle.size
  ref k blk hk := by
    obtain ⟨h1, h2⟩ := h0 k blk hk
    obtain ⟨blk', g1, g2, g3⟩ := hle.ref k blk hk
    have hs := Cx.call_same (Γ := Γ) hg
    obtain ⟨blk2, e1, e2, e3⟩ := hs.ref k blk' (by rw [inKs_fpKeys]; simp [inFp, h1, h2]) g1
    rw [ren1_fpKeys] at e1 e3
    refine ⟨blk2, e1, by omega, fun ht => ?_⟩
    obtain ⟨g4, g5⟩ := g3 (by omega)
    exact ⟨by rw [e3, g4], g5⟩
end Go.Ab
namespace Go.Ab
variable [Tabs]
variable {P : Program} {nt : Nat} {ds : List Deferred} {s : St} {Γ : Cx} {a : Act} {w : World}
theorem fitsL_widths : ∀ {l : List Sh} {m : List PV}, fitsL l m = true → widths m = shWL l
  | [], [], _ => rfl
  | x :: l, p :: m, h => by
    simp only [fitsL, Bool.and_eq_true] at h
    simp only [widths, shWL, fits_width h.1, fitsL_widths h.2]
  | [], _ :: _, h => by simp [fitsL] at h
  | _ :: _, [], h => by simp [fitsL] at h
theorem fitsA_widths {e : Sh} : ∀ {m : List PV}, fitsA e m = true → ∀ x ∈ m, x.width = shW e
  | [], _ => by simp
  | p :: m, h => by
    simp only [fitsA, Bool.and_eq_true] at h
    intro x hx
    rcases List.mem_cons.1 hx with rfl | hx
    · exact fits_width h.1
    · exact fitsA_widths h.2 x hx
mutual
theorem pcells_rep : ∀ (p : PV) {x : Sh}, fits x p = true → RepL Γ [p] (pcells p)
  | .bl b, _, _ => .bl b .nil
  | .int k n, _, _ => .int k n .nil
  | .str l, _, _ => .str l _ (by simp) .nil
  | .st w l, x, h => by
    cases x <;> simp only [fits, Bool.false_eq_true, Bool.and_eq_true, decide_eq_true_eq] at h
    simp only [pcells]
    have h1 := pcellsL_rep l h.2
    exact h1.st1 (by rw [h1.length, fitsL_widths h.2, h.1])
  | .ar sz n l, x, h => by
    cases x <;> simp only [fits, Bool.false_eq_true, Bool.and_eq_true, decide_eq_true_eq] at h
    simp only [pcells]
    exact (pcellsA_rep l h.2).ar1 (by rw [h.1.2.2, h.1.2.1]) (fun x hx => by rw [fitsA_widths h.2 x hx, h.1.1])
  | .un, x, h => by cases x <;> simp [fits] at h
  | .tup _, x, h => by cases x <;> simp [fits] at h
  | .sl _ _ _, x, h => by cases x <;> simp [fits] at h
  | .rs _ _ _ _ _ _ _, x, h => by cases x <;> simp [fits] at h
  | .np, x, h => by cases x <;> simp [fits] at h
  | .pt _ _ _, x, h => by cases x <;> simp [fits] at h
  | .fp _ _ _, x, h => by cases x <;> simp [fits] at h
  | .fn _ _ _, x, h => by cases x <;> simp [fits] at h
  | .nf, x, h => by cases x <;> simp [fits] at h
  | .gd _ _, x, h => by cases x <;> simp [fits] at h
  | .ifc _ _, x, h => by cases x <;> simp [fits] at h
  | .ni, x, h => by cases x <;> simp [fits] at h
  | .mp _ _, x, h => by cases x <;> simp [fits] at h
theorem pcellsL_rep : ∀ (l : List PV) {xs : List Sh}, fitsL xs l = true → RepL Γ l (pcellsL l)
  | [], _, _ => .nil
  | p :: l, xs, h => by
    cases xs with
    | nil => simp [fitsL] at h
    | cons x xs =>
      simp only [fitsL, Bool.and_eq_true] at h
      simp only [pcellsL]
      exact (pcells_rep p h.1).cons (pcellsL_rep l h.2)
theorem pcellsA_rep : ∀ (l : List PV) {e : Sh}, fitsA e l = true → RepL Γ l (pcellsL l)
  | [], _, _ => .nil
  | p :: l, e, h => by
    simp only [fitsA, Bool.and_eq_true] at h
    simp only [pcellsL]
    exact (pcells_rep p h.1).cons (pcellsA_rep l h.2)
end
mutual
theorem pcells_uniq : ∀ (p : PV) {x : Sh} {cs : List Value}, fits x p = true → RepL Γ [p] cs → cs = pcells p
  | .bl b, _, _, _, hr => by cases hr with | bl _ hr => cases hr; rfl
  | .int k n, _, _, _, hr => by cases hr with | int _ _ hr => cases hr; rfl
  | .str l, _, _, _, hr => by
    cases hr with
    | str _ s hl hr =>
      cases hr
      subst hl
      simp [pcells]
  | .st w l, x, cs, h, hr => by
    cases x <;> simp only [fits, Bool.false_eq_true, Bool.and_eq_true, decide_eq_true_eq] at h
    simp only [pcells]
    exact pcellsL_uniq l h.2 hr.st_inv.1
  | .ar sz n l, x, cs, h, hr => by
    cases x <;> simp only [fits, Bool.false_eq_true, Bool.and_eq_true, decide_eq_true_eq] at h
    simp only [pcells]
    exact pcellsA_uniq l h.2 hr.ar_inv.1
  | .un, x, _, h, _ => by cases x <;> simp [fits] at h
  | .tup _, x, _, h, _ => by cases x <;> simp [fits] at h
  | .sl _ _ _, x, _, h, _ => by cases x <;> simp [fits] at h
  | .rs _ _ _ _ _ _ _, x, _, h, _ => by cases x <;> simp [fits] at h
  | .np, x, _, h, _ => by cases x <;> simp [fits] at h
  | .pt _ _ _, x, _, h, _ => by cases x <;> simp [fits] at h
  | .fp _ _ _, x, _, h, _ => by cases x <;> simp [fits] at h
  | .fn _ _ _, x, _, h, _ => by cases x <;> simp [fits] at h
  | .nf, x, _, h, _ => by cases x <;> simp [fits] at h
  | .gd _ _, x, _, h, _ => by cases x <;> simp [fits] at h
  | .ifc _ _, x, _, h, _ => by cases x <;> simp [fits] at h
  | .ni, x, _, h, _ => by cases x <;> simp [fits] at h
  | .mp _ _, x, _, h, _ => by cases x <;> simp [fits] at h
theorem pcellsL_uniq : ∀ (l : List PV) {xs : List Sh} {cs : List Value}, fitsL xs l = true → RepL Γ l cs → cs = pcellsL l
  | [], _, _, _, hr => by cases hr; rfl
  | p :: l, xs, cs, h, hr => by
    cases xs with
    | nil => simp [fitsL] at h
    | cons x xs =>
      simp only [fitsL, Bool.and_eq_true] at h
      obtain ⟨c1, c2, rfl, h1, h2⟩ := hr.uncons
      simp only [pcellsL, pcells_uniq p h.1 h1, pcellsL_uniq l h.2 h2]
theorem pcellsA_uniq : ∀ (l : List PV) {e : Sh} {cs : List Value}, fitsA e l = true → RepL Γ l cs → cs = pcellsL l
  | [], _, _, _, hr => by cases hr; rfl
  | p :: l, e, cs, h, hr => by
    simp only [fitsA, Bool.and_eq_true] at h
    obtain ⟨c1, c2, rfl, h1, h2⟩ := hr.uncons
    simp only [pcellsL, pcells_uniq p h.1 h1, pcellsA_uniq l h.2 h2]
end
theorem pval_rep {p : PV} {x : Sh} (h : fits x p = true) : RepV Γ p (pval p) := by
  have h1 := pcells_rep (Γ := Γ) p h
  cases p <;> first | (cases x <;> simp [fits] at h; done) | skip
  · simpa only [RepV, pval, pcells] using h1
  · simpa only [RepV, pval, pcells] using h1
  · simpa only [RepV, pval, pcells] using h1
  · exact ⟨_, rfl, by simpa only [pcells] using h1⟩
  · exact ⟨_, rfl, by simpa only [pcells] using h1⟩
theorem pval_uniq {p : PV} {x : Sh} {v : Value} (h : fits x p = true) (hr : RepV Γ p v) : v = pval p := by
  cases p <;> first | (cases x <;> simp [fits] at h; done) | skip
  · have := pcells_uniq _ h (by simpa only [RepV] using hr); simpa [pcells, pval] using this
  · have := pcells_uniq _ h (by simpa only [RepV] using hr); simpa [pcells, pval] using this
  · have := pcells_uniq _ h (by simpa only [RepV] using hr); simpa [pcells, pval] using this
  · obtain ⟨cs, rfl, h1⟩ := hr
    have := pcells_uniq _ h h1; subst this; rfl
  · obtain ⟨cs, rfl, h1⟩ := hr
    have := pcells_uniq _ h h1; subst this; rfl
def CheckAt (P : Program) (Γ : Cx) (em : Bool) (d : Nat) (t : TypeId) (x : Sh) : Prop :=
  ∀ (w : World) (p : PV) (v : Value), fits x p = true → RepV Γ p v → (Instr.checkKey em d t v).run P w = .ok () w
theorem check_fields {em : Bool} {d : Nat} {xs : List Value} : ∀ (fs : List Field) (l : List Sh) (ps : List PV) (pre1 c1 : List Value) (o : Nat) (w : World),
    xs = pre1 ++ c1 → pre1.length = o → RepL Γ ps c1 → fitsL l ps = true →
    fs.all (fun f => f.name != "_") = true → fs.map (·.offset) = shOffs o l → fs.map (fun f => szOf P f.type) = l.map (fun x => some (shW x)) →
    fs.map (fun f => aggOf P f.type) = l.map (fun x => some x.agg) → (∀ (i : Nat) f x, fs[i]? = some f → l[i]? = some x → CheckAt P Γ em d f.type x) →
    (forIn (m := Sem) fs PUnit.unit fun f _ => do
      if f.name ≠ "_" then
        Instr.checkKey em d f.type (← part f.type xs.toArray f.offset)
        pure (ForInStep.yield PUnit.unit)
      else pure (ForInStep.yield PUnit.unit)).run P w = .ok PUnit.unit w
  | [], l, ps, pre1, c1, o, w, hx, ho1, h1, f1, hn, hoff, hsz, hag, hall => by simp
  | f :: fs, l, ps, pre1, c1, o, w, hx, ho1, h1, f1, hn, hoff, hsz, hag, hall => by
    cases l with
    | nil => simp at hsz
    | cons x l =>
      cases ps with
      | nil => simp [fitsL] at f1
      | cons p ps =>
        simp only [fitsL, Bool.and_eq_true] at f1
        simp only [List.map_cons, List.cons.injEq, shOffs] at hoff hsz hag
        simp only [List.all_cons, Bool.and_eq_true] at hn
        obtain ⟨a1, b1, rfl, r1, r2⟩ := h1.uncons
        have wp := fits_width f1.1
        have ap := fits_agg f1.1
        have hag1 : aggOf P f.type = some x.agg := hag.1
        obtain ⟨v, hv, hv'⟩ := run_part (P := P) (w := w) (t := f.type) r1 hx (ho1.trans hoff.1.symm) (by rw [ap]; exact hag1) (by rw [wp]; exact hsz.1)
        have he := hall 0 f x rfl rfl w p v f1.1 hv'
        have ih := check_fields (em := em) (d := d) (xs := xs) fs l ps (pre1 ++ a1) b1 (o + shW x) w (by rw [hx]; simp) (by simp [ho1, r1.width1, wp]) r2 f1.2 hn.2 hoff.2 hsz.2 hag.2
          (fun i g y hg hy => hall (i + 1) g y (by simpa using hg) (by simpa using hy))
        have hne : f.name ≠ "_" := by simpa using hn.1
        simp only [List.forIn_cons, Sem.run_bind, hne, ne_eq, not_false_eq_true, if_true, hv, he, Result.andThen_ok, Sem.run_pure]
        exact ih
theorem check_array {em : Bool} {d len n : Nat} {t : TypeId} {e : Sh} {xs : List Value} (hn : n = shW e) (hg : aggOf P t = some e.agg) (hz : szOf P t = some n) (heq : CheckAt P Γ em d t e) :
    ∀ (ps : List PV) (pre1 c1 : List Value) (i : Nat) (w : World), xs = pre1 ++ c1 → pre1.length = i * n → RepL Γ ps c1 → fitsA e ps = true → ps.length = len →
      (forIn (m := Sem) (List.range' i len 1) PUnit.unit fun i _ => do
            Instr.checkKey em d t (← part t xs.toArray (i * (← sizeOf t)))
            pure (ForInStep.yield PUnit.unit)).run P w = .ok PUnit.unit w := by
  induction len with
  | zero => intro ps pre1 c1 i w _ _ _ _ _; simp
  | succ len ih =>
    intro ps pre1 c1 i w hx ho1 h1 f1 l1
    cases ps with
    | nil => simp at l1
    | cons p ps =>
      simp only [fitsA, Bool.and_eq_true] at f1
      obtain ⟨a1, b1, rfl, r1, r2⟩ := h1.uncons
      have wp := fits_width f1.1
      have ap := fits_agg f1.1
      obtain ⟨v, hv, hv'⟩ := run_part (P := P) (w := w) (t := t) r1 hx ho1 (by rw [ap]; exact hg) (by rw [wp, ← hn]; exact hz)
      have he := heq w p v f1.1 hv'
      have ih' := ih ps (pre1 ++ a1) b1 (i + 1) w (by rw [hx]; simp) (by simp [ho1, r1.width1, wp, Nat.add_mul]; omega) r2 f1.2 (by simpa using l1)
      simp only [List.range'_succ, List.forIn_cons, Sem.run_bind, run_sizeOf hz, hv, he, Result.andThen_ok, Sem.run_pure]
      exact ih'
theorem check_run {em : Bool} : ∀ (n : Nat) {t : TypeId} {x : Sh} (d : Nat), n ≤ d → shOf P n t = some x → CheckAt P Γ em d t x := by
  intro n
  induction n with
  | zero => intro t x d _ h; simp [shOf] at h
  | succ n ih =>
    intro t x d hd h w p v fp hp
    obtain ⟨d, rfl⟩ : ∃ d', d = d' + 1 := ⟨d - 1, by omega⟩
    simp only [shOf] at h
    split at h <;> (try (simp only [Option.some.injEq, reduceCtorEq] at h; try subst h))
    · rename_i hu
      cases p <;> simp [fits] at fp
      rw [hp.bl]
      simp only [Instr.checkKey, Sem.run_bind, run_underlying hu, Result.andThen_ok]; rfl
    · rename_i k hu
      cases p <;> simp [fits] at fp
      rw [hp.int]
      simp only [Instr.checkKey, Sem.run_bind, run_underlying hu, Result.andThen_ok]; rfl
    · rename_i hu
      cases p <;> simp [fits] at fp
      obtain ⟨s1, rfl, rfl⟩ := hp.str
      simp only [Instr.checkKey, Sem.run_bind, run_underlying hu, Result.andThen_ok]; rfl
    · rename_i fs hu
      split at h
      · rename_i l hl
        split at h
        · rename_i hcond
          obtain ⟨c1, c2, c3, c4, c5⟩ := hcond
          simp only [Option.some.injEq] at h
          subst h
          cases p <;> simp only [fits, Bool.false_eq_true, Bool.and_eq_true, decide_eq_true_eq] at fp
          rename_i w1 m1
          obtain ⟨cs, rfl, hc⟩ := hp.cells rfl
          have := check_fields (em := em) (d := d) (xs := cs) fs.toList l m1 [] cs 0 w rfl rfl hc.st_inv.1 fp.2 c2 c3 c4 c5 (fun i f y hfi hyi => by
            refine ih d (by omega) ?_
            have := eq_run.allM_get hl hfi
            rw [hyi] at this
            exact this)
          simp only [Instr.checkKey, Sem.run_bind, run_underlying hu, Result.andThen_ok]
          rw [← Array.forIn_toList, this]
          rfl
        · exact absurd h (by simp)
      · exact absurd h (by simp)
    · rename_i k e hu
      split at h
      · rename_i x' hx'
        split at h
        · rename_i hcond
          simp only [Option.some.injEq] at h
          subst h
          cases p <;> simp only [fits, Bool.false_eq_true, Bool.and_eq_true, decide_eq_true_eq] at fp
          rename_i z1 n1 m1
          obtain ⟨cs, rfl, hc⟩ := hp.cells rfl
          have hg : aggOf P e = some x'.agg := hcond.2
          have := check_array (P := P) (Γ := Γ) (em := em) (d := d) (len := k) (n := shW x') (t := e) (e := x') (xs := cs) rfl hg hcond.1 (ih d (by omega) hx') m1 [] cs 0 w rfl (by simp) hc.ar_inv.1 fp.2 fp.1.2.2
          simp only [Instr.checkKey, Sem.run_bind, run_underlying hu, Result.andThen_ok]
          rw [Std.Legacy.Range.forIn_eq_forIn_range']
          simp only [Std.Legacy.Range.size, Nat.sub_zero, Nat.add_sub_cancel, Nat.div_one]
          rw [this]
          rfl
        · exact absurd h (by simp)
      · exact absurd h (by simp)
    all_goals simp at h
def fidx (p : PV) : List (PV × PV) → Nat → Option (Nat × PV)
  | [], _ => none
  | (k, v) :: r, i => if PV.beq p k = true then some (i, v) else fidx p r (i + 1)
theorem fidx_lkp (p : PV) : ∀ (l : List (PV × PV)) (i : Nat), (fidx p l i).map (·.2) = lkp p l
  | [], _ => rfl
  | (k, v) :: r, i => by
    simp only [fidx, lkp]
    split
    · rfl
    · exact fidx_lkp p r (i + 1)
def Ents (ks : Sh) (es : List MapEntry) (l : List (PV × PV)) : Prop := es.map (fun e => (e.key, e.val)) = l.map (fun x => (pval x.1, pval x.2)) ∧ ∀ x ∈ l, fits ks x.1 = true
theorem Ents.cons {ks : Sh} {e : MapEntry} {es : List MapEntry} {x : PV × PV} {l : List (PV × PV)} (h : Ents ks (e :: es) (x :: l)) : e.key = pval x.1 ∧ e.val = pval x.2 ∧ fits ks x.1 = true ∧ Ents ks es l := by
  obtain ⟨h1, h2⟩ := h
  simp only [List.map_cons, List.cons.injEq, Prod.mk.injEq] at h1
  exact ⟨h1.1.1, h1.1.2, h2 x (by simp), h1.2, fun y hy => h2 y (by simp [hy])⟩
theorem find_asking {t : TypeId} {ks : Sh} {p : PV} (he : EqAt P Γ 10000 t ks) (hp : fits ks p = true) : ∀ (es : List MapEntry) (l : List (PV × PV)) (i : Nat), Ents ks es l →
    (Instr.findAsking t (pval p) es i).run P w = .ok ((fidx p l i).map fun x => (x.1, pval x.2)) w
  | [], l, i, h => by
    cases l with
    | nil => simp [Instr.findAsking, fidx]
    | cons => simp [Ents] at h
  | e :: es, l, i, h => by
    cases l with
    | nil => simp [Ents] at h
    | cons x l =>
      obtain ⟨h1, h2, h3, h4⟩ := h.cons
      have := he w p x.1 (pval p) (pval x.1) hp h3 (pval_rep hp) (pval_rep h3)
      have ih := find_asking he hp es l (i + 1) h4
      rw [← h1] at this
      have this' : (Op.equal t (pval p) e.key).run P w = .ok (PV.beq p x.1) w := this
      obtain ⟨k, v⟩ := x
      simp only [Instr.findAsking, Sem.run_bind, this', Result.andThen_ok, fidx]
      by_cases hb : PV.beq p k = true
      · simp only [hb, if_true, Sem.run_pure, Option.map_some, h2]
      · simp only [hb, Bool.false_eq_true, if_false]; exact ih
theorem find_now {d : TypeDesc} {ks : Sh} {p : PV} (hp : fits ks p = true) (hk : ∀ q, fits ks q = true → Instr.sameNow d (pval p) (pval q) = some (PV.beq p q)) : ∀ (es : List MapEntry) (l : List (PV × PV)) (i : Nat), Ents ks es l →
    Instr.findNow d (pval p) es i = some ((fidx p l i).map fun x => (x.1, pval x.2))
  | [], l, i, h => by
    cases l with
    | nil => simp [Instr.findNow, fidx]
    | cons => simp [Ents] at h
  | e :: es, l, i, h => by
    cases l with
    | nil => simp [Ents] at h
    | cons x l =>
      obtain ⟨h1, h2, h3, h4⟩ := h.cons
      have ih := find_now hp hk es l (i + 1) h4
      obtain ⟨k, v⟩ := x
      simp only [Instr.findNow, h1, hk k h3, fidx]
      cases hb : PV.beq p k
      · simp only [Bool.false_eq_true, if_false]; exact ih
      · simp only [if_true, Option.map_some, h2]
theorem find_never {d : TypeDesc} {v : Value} (hk : ∀ u, Instr.sameNow d v u = none) : ∀ (es : List MapEntry) (i : Nat), Instr.findNow d v es i = if es = [] then some none else none
  | [], _ => by simp [Instr.findNow]
  | e :: es, i => by simp [Instr.findNow, hk]
theorem bytes_eq (a b : List UInt8) : ((⟨a.toArray⟩ : ByteArray) == ⟨b.toArray⟩) = (a == b) := by
  cases h : (a == b)
  · have : a ≠ b := by simpa using h
    cases h2 : ((⟨a.toArray⟩ : ByteArray) == ⟨b.toArray⟩)
    · rfl
    · have := (MapKept.bytes_beq _ _).1 h2
      simp at this; contradiction
  · have : a = b := by simpa using h
    subst this
    exact (MapKept.bytes_beq _ _).2 rfl
theorem find_run {t : TypeId} {ks : Sh} {p : PV} (hsh : shOf P 20 t = some ks) (hp : fits ks p = true) {es : List MapEntry} {l : List (PV × PV)} (h : Ents ks es l) :
    (Instr.findKey t (pval p) es).run P w = .ok ((fidx p l 0).map fun x => (x.1, pval x.2)) w := by
  have he : EqAt P ⟨#[], fun _ => none, [], fun _ => False⟩ 10000 t ks := eq_run 20 10000 (by omega) hsh
  have now : ∀ {d : TypeDesc}, P.underlying t = some d → (∀ q, fits ks q = true → Instr.sameNow d (pval p) (pval q) = some (PV.beq p q)) → (Instr.findKey t (pval p) es).run P w = .ok ((fidx p l 0).map fun x => (x.1, pval x.2)) w := by
    intro d hu hk
    simp only [Instr.findKey, Sem.run_bind, run_underlying hu, Result.andThen_ok, find_now hp hk es l 0 h, Sem.run_pure]
  have never : ∀ {d : TypeDesc}, P.underlying t = some d → (∀ u, Instr.sameNow d (pval p) u = none) → (Instr.findKey t (pval p) es).run P w = .ok ((fidx p l 0).map fun x => (x.1, pval x.2)) w := by
    intro d hu hk
    simp only [Instr.findKey, Sem.run_bind, run_underlying hu, Result.andThen_ok, find_never hk es 0]
    by_cases hn : es = []
    · subst hn
      cases l with
      | nil => simp [fidx]
      | cons => simp [Ents] at h
    · rw [if_neg hn]
      exact find_asking he hp es l 0 h
  simp only [shOf] at hsh
  split at hsh <;> (try (simp only [Option.some.injEq, reduceCtorEq] at hsh; try subst hsh))
  · rename_i hu
    refine now hu fun q hq => ?_
    cases p <;> simp [fits] at hp
    cases q <;> simp [fits] at hq
    rfl
  · rename_i k hu
    refine now hu fun q hq => ?_
    cases p <;> simp [fits] at hp
    cases q <;> simp [fits] at hq
    subst hp hq
    simp [Instr.sameNow, pval, PV.beq]
  · rename_i hu
    refine now hu fun q hq => ?_
    cases p <;> simp [fits] at hp
    cases q <;> simp [fits] at hq
    simp only [Instr.sameNow, pval, PV.beq, bytes_eq]
  · rename_i fs hu
    exact never hu fun u => by simp [Instr.sameNow]
  · rename_i k e hu
    exact never hu fun u => by simp [Instr.sameNow]
  all_goals simp at hsh
mutual
theorem beq_eq : ∀ (p q : PV) {x : Sh}, fits x p = true → fits x q = true → PV.beq p q = true → p = q
  | .bl a, q, x, hp, hq, h => by
    cases x <;> simp [fits] at hp
    cases q <;> simp [fits] at hq
    simpa [PV.beq] using h
  | .int k n, q, x, hp, hq, h => by
    cases x <;> simp [fits] at hp
    cases q <;> simp [fits] at hq
    subst hp hq
    simpa [PV.beq] using h
  | .str l, q, x, hp, hq, h => by
    cases x <;> simp [fits] at hp
    cases q <;> simp [fits] at hq
    simpa [PV.beq] using h
  | .st w l, q, x, hp, hq, h => by
    cases x <;> simp only [fits, Bool.false_eq_true, Bool.and_eq_true, decide_eq_true_eq] at hp
    cases q <;> simp only [fits, Bool.false_eq_true, Bool.and_eq_true, decide_eq_true_eq] at hq
    rename_i xs w' m
    rw [hp.1, hq.1, beqL_eq l m hp.2 hq.2 (by simpa [PV.beq] using h)]
  | .ar z n l, q, x, hp, hq, h => by
    cases x <;> simp only [fits, Bool.false_eq_true, Bool.and_eq_true, decide_eq_true_eq] at hp
    cases q <;> simp only [fits, Bool.false_eq_true, Bool.and_eq_true, decide_eq_true_eq] at hq
    rename_i n' e z' k m
    rw [hp.1.1, hq.1.1, hp.1.2.1, hq.1.2.1, beqA_eq l m hp.2 hq.2 (by simpa [PV.beq] using h)]
  | .un, q, x, hp, _, _ => by cases x <;> simp [fits] at hp
  | .tup _, q, x, hp, _, _ => by cases x <;> simp [fits] at hp
  | .sl _ _ _, q, x, hp, _, _ => by cases x <;> simp [fits] at hp
  | .rs _ _ _ _ _ _ _, q, x, hp, _, _ => by cases x <;> simp [fits] at hp
  | .np, q, x, hp, _, _ => by cases x <;> simp [fits] at hp
  | .pt _ _ _, q, x, hp, _, _ => by cases x <;> simp [fits] at hp
  | .fp _ _ _, q, x, hp, _, _ => by cases x <;> simp [fits] at hp
  | .fn _ _ _, q, x, hp, _, _ => by cases x <;> simp [fits] at hp
  | .nf, q, x, hp, _, _ => by cases x <;> simp [fits] at hp
  | .gd _ _, q, x, hp, _, _ => by cases x <;> simp [fits] at hp
  | .ifc _ _, q, x, hp, _, _ => by cases x <;> simp [fits] at hp
  | .ni, q, x, hp, _, _ => by cases x <;> simp [fits] at hp
  | .mp _ _, q, x, hp, _, _ => by cases x <;> simp [fits] at hp
theorem beqL_eq : ∀ (l m : List PV) {xs : List Sh}, fitsL xs l = true → fitsL xs m = true → PV.beqL l m = true → l = m
  | [], m, xs, hp, hq, h => by cases m with | nil => rfl | cons => simp [PV.beqL] at h
  | p :: l, m, xs, hp, hq, h => by
    cases m with
    | nil => simp [PV.beqL] at h
    | cons q m =>
      cases xs with
      | nil => simp [fitsL] at hp
      | cons x xs =>
        simp only [fitsL, Bool.and_eq_true] at hp hq
        simp only [PV.beqL, Bool.and_eq_true] at h
        rw [beq_eq p q hp.1 hq.1 h.1, beqL_eq l m hp.2 hq.2 h.2]
theorem beqA_eq : ∀ (l m : List PV) {e : Sh}, fitsA e l = true → fitsA e m = true → PV.beqL l m = true → l = m
  | [], m, xs, hp, hq, h => by cases m with | nil => rfl | cons => simp [PV.beqL] at h
  | p :: l, m, e, hp, hq, h => by
    cases m with
    | nil => simp [PV.beqL] at h
    | cons q m =>
      simp only [fitsA, Bool.and_eq_true] at hp hq
      simp only [PV.beqL, Bool.and_eq_true] at h
      rw [beq_eq p q hp.1 hq.1 h.1, beqA_eq l m hp.2 hq.2 h.2]
end
mutual
theorem pcells_bits : ∀ (p : PV) {x : Sh}, fits x p = true → ∀ v ∈ pcells p, ∀ n, Instr.sameBits n v v = true
  | .bl a, x, _ => by simp [pcells, Instr.sameBits]
  | .int k n, x, _ => by simp [pcells, Instr.sameBits]
  | .str l, x, _ => by
    intro v hv n
    simp only [pcells, List.mem_singleton] at hv
    subst hv
    cases n <;> simp only [Instr.sameBits] <;> exact (MapKept.bytes_beq _ _).2 rfl
  | .st w l, x, h => by
    cases x <;> simp only [fits, Bool.false_eq_true, Bool.and_eq_true, decide_eq_true_eq] at h
    exact pcellsL_bits l h.2
  | .ar z n l, x, h => by
    cases x <;> simp only [fits, Bool.false_eq_true, Bool.and_eq_true, decide_eq_true_eq] at h
    exact pcellsA_bits l h.2
  | .un, x, hp => by cases x <;> simp [fits] at hp
  | .tup _, x, hp => by cases x <;> simp [fits] at hp
  | .sl _ _ _, x, hp => by cases x <;> simp [fits] at hp
  | .rs _ _ _ _ _ _ _, x, hp => by cases x <;> simp [fits] at hp
  | .np, x, hp => by cases x <;> simp [fits] at hp
  | .pt _ _ _, x, hp => by cases x <;> simp [fits] at hp
  | .fp _ _ _, x, hp => by cases x <;> simp [fits] at hp
  | .fn _ _ _, x, hp => by cases x <;> simp [fits] at hp
  | .nf, x, hp => by cases x <;> simp [fits] at hp
  | .gd _ _, x, hp => by cases x <;> simp [fits] at hp
  | .ifc _ _, x, hp => by cases x <;> simp [fits] at hp
  | .ni, x, hp => by cases x <;> simp [fits] at hp
  | .mp _ _, x, hp => by cases x <;> simp [fits] at hp
theorem pcellsL_bits : ∀ (l : List PV) {xs : List Sh}, fitsL xs l = true → ∀ v ∈ pcellsL l, ∀ n, Instr.sameBits n v v = true
  | [], _, _ => by simp [pcellsL]
  | p :: l, xs, h => by
    cases xs with
    | nil => simp [fitsL] at h
    | cons x xs =>
      simp only [fitsL, Bool.and_eq_true] at h
      intro v hv
      rcases List.mem_append.1 hv with hv | hv
      · exact pcells_bits p h.1 v hv
      · exact pcellsL_bits l h.2 v hv
theorem pcellsA_bits : ∀ (l : List PV) {e : Sh}, fitsA e l = true → ∀ v ∈ pcellsL l, ∀ n, Instr.sameBits n v v = true
  | [], _, _ => by simp [pcellsL]
  | p :: l, e, h => by
    simp only [fitsA, Bool.and_eq_true] at h
    intro v hv
    rcases List.mem_append.1 hv with hv | hv
    · exact pcells_bits p h.1 v hv
    · exact pcellsA_bits l h.2 v hv
end
theorem bits_agg {l : List Value} (h : ∀ v ∈ l, ∀ n, Instr.sameBits n v v = true) : Instr.sameBits 10000 (.agg l.toArray) (.agg l.toArray) = true := by
  show Instr.sameBits (9999 + 1) (.agg l.toArray) (.agg l.toArray) = true
  simp only [Instr.sameBits, beq_self_eq_true, Bool.true_and, List.all_eq_true]
  intro x hx
  obtain ⟨i, hi⟩ := List.mem_iff_getElem?.1 hx
  rw [List.getElem?_zip_eq_some] at hi
  obtain ⟨h1, h2⟩ := hi
  obtain ⟨x1, x2⟩ := x
  simp only at h1 h2 ⊢
  rw [h1] at h2; cases h2
  exact h x1 (by simpa using List.mem_of_getElem? h1) _
theorem pval_bits {p : PV} {x : Sh} (h : fits x p = true) : Instr.sameBits 10000 (pval p) (pval p) = true := by
  have hb := pcells_bits p h
  cases p <;> first | (cases x <;> simp [fits] at h; done) | skip
  · exact hb _ (by simp [pcells, pval]) _
  · exact hb _ (by simp [pcells, pval]) _
  · exact hb _ (by simp [pcells, pval]) _
  · exact bits_agg (by simpa [pcells] using hb)
  · exact bits_agg (by simpa [pcells] using hb)
theorem stays_run {p : PV} {x : Sh} (h : fits x p = true) : (Instr.keyThatStays (pval p) (pval p)).run P w = .ok (pval p) w := by
  simp only [Instr.keyThatStays, pval_bits h, if_true, Sem.run_pure]
end Go.Ab
namespace Go.Ab
variable [Tabs]
variable {P : Program} {nt : Nat} {ds : List Deferred} {s : St} {Γ : Cx} {a : Act} {w : World}
theorem RepV.mp {k b : Nat} {v : Value} (h : RepV Γ (.mp k b) v) : v = .map (some b) := by
  simp only [RepV] at h; cases h; rfl
theorem pval_rep1 {p : PV} {x : Sh} (h : fits x p = true) : RepV1 Γ p (pval p) := by
  have h1 := pcells_rep (Γ := Γ) p h
  cases p <;> first | (cases x <;> simp [fits] at h; done) | skip
  · simpa only [RepV1, pval, pcells] using h1
  · simpa only [RepV1, pval, pcells] using h1
  · simpa only [RepV1, pval, pcells] using h1
  · exact ⟨_, rfl, by simpa only [pcells] using h1⟩
  · exact ⟨_, rfl, by simpa only [pcells] using h1⟩
theorem snd_mkMap {o : Oper} {t : TypeId} {ks vs : Sh} {K : St → Prop} (ho : o.op = .makeMap t none) (hs : Sim nt ds s Γ a) (hw : w.heap = Γ.heap) (hd : ∀ k, o.dst = some k → k < nt) (he : ex s o.dst (.mkMap ks vs) K) :
    Stepd P nt ds o a w Γ K := by
  simp only [ex] at he
  split at he
  · rename_i k hk
    obtain ⟨hfree, hK⟩ := he
    rw [← hs.bx] at hfree
    have hle := le_ext Γ (.map #[] 0) (k := k) (.map Γ.heap.size ks vs []) hfree
    have hmem : Mem (Γ.ext (.map #[] 0) k (.map Γ.heap.size ks vs [])) := mem_ext hs.mem hfree ⟨rfl, #[], 0, by simp [Cx.ext], rfl, by simp⟩
    have h1 := hs.le hle hmem (bx' := put s.bx k (.map Γ.heap.size ks vs [])) (by simp [Cx.ext, hs.bx])
    have h2 : RepV (Γ.ext (.map #[] 0) k (.map Γ.heap.size ks vs [])) (.mp k Γ.heap.size) (.map (some w.heap.size)) := by
      rw [hw]; simp only [RepV]; exact .mp _ _ .nil
    have h3 := h1.put (d := some k) (fun j hj => by cases hj; exact hd k hk) h2
    refine ⟨.value (.map (some w.heap.size)), _, w.alloc (.map #[] 0), _, _, ?_, .inl rfl, by rw [hk]; exact h3, by simp [World.alloc, Cx.ext, hw], hle, ⟨rfl, rfl, rfl⟩, hK _⟩
    simp [execOp, ho, Instr.makeMap, Result.andThen]
  · exact he.elim
theorem lkp_fits {vs : Sh} {z p : PV} (hz : fits vs z = true) : ∀ {l : List (PV × PV)}, (∀ x ∈ l, fits vs x.2 = true) → fits vs ((lkp p l).getD z) = true
  | [], _ => by simpa [lkp] using hz
  | (k, v) :: r, h => by
    simp only [lkp]
    split
    · exact h (k, v) (by simp)
    · exact lkp_fits hz fun x hx => h x (by simp [hx])
theorem snd_mapGet {o : Oper} {t k e : TypeId} {ks vs : Sh} {z : PV} {ok : Bool} {m x : Operand} {m' x' : AX} {K : St → Prop} (ho : o.op = .lookup t m x ok) (hu : P.underlying t = some (.map k e)) (hm : trX m = some m') (hx : trX x = some x')
    (hks : shOf P 20 k = some ks) (hz : zeroOf P e = some z) (hf : fits vs z = true) (hs : Sim nt ds s Γ a) (hw : w.heap = Γ.heap) (hd : ∀ k, o.dst = some k → k < nt) (he : ex s o.dst (.mapGet ks vs z ok m' x') K) :
    Stepd P nt ds o a w Γ K := by
  simp only [ex] at he
  obtain ⟨pm, he1, hr1⟩ := vg_rep hm hs rfl he
  obtain ⟨p, he2, hr2⟩ := vg_rep hx hs rfl he1
  clear he he1
  have he := he2; clear he2
  split at he
  · rename_i kk b
    split at he
    · rename_i b' ks' vs' l hg
      obtain ⟨⟨rfl, rfl, rfl, hp⟩, hK⟩ := he
      rw [← hs.bx] at hg
      have hrep := hs.mem.blk _ _ hg
      obtain ⟨_, es, clock, hb, hen, hfit⟩ := hrep
      obtain ⟨zv, hzv, _, _, hzr, _⟩ := zeroOf_rep (Γ := Γ) hz
      have hzp := pval_uniq hf hzr
      subst hzp
      have hkv := pval_uniq hp hr2
      have hE : Ents ks' es.toList l := ⟨hen, fun y hy => (hfit y hy).1⟩
      have hfind := find_run (P := P) (w := w) hks hp hE
      have hck := check_run (P := P) (Γ := Γ) (em := es.isEmpty) 20 10000 (by omega) hks w p _ hp (pval_rep hp)
      have hlk := fidx_lkp p l 0
      have hres : fits vs' ((lkp p l).getD z) = true := lkp_fits hf fun y hy => (hfit y hy).2
      have hv1 := hr1.mp
      have hrun : (Instr.lookup t (a.eval m) (a.eval x) ok).run P w = .ok (if ok then .tuple #[pval ((lkp p l).getD z), .bool (lkp p l).isSome] else pval ((lkp p l).getD z)) w := by
        rw [hv1, hkv]
        simp only [Instr.lookup, Sem.run_bind, run_underlying hu, Result.andThen_ok, MapKept.run_getObj_map (by rw [hw]; exact hb), Sem.run_pure, hck, hfind]
        rw [← hlk]
        cases hfx : fidx p l 0 with
        | none => simp [hzv, Result.andThen]
        | some y => simp [Result.andThen]
      refine step_quiet (v := if ok then .tuple #[pval ((lkp p l).getD z), .bool (lkp p l).isSome] else pval ((lkp p l).getD z)) hs hd (Le.refl Γ) hs.mem rfl ?_ hw (WF.refl w) ?_ hK
      · have e2 : execOp a.eval o = (do Pure.pure (Next.value (← Instr.lookup t (a.eval m) (a.eval x) ok))) := by unfold execOp; rw [ho]
        rw [e2, Sem.run_bind, hrun]; rfl
      · cases ok with
        | false => simpa using pval_rep hres
        | true => exact ⟨[_, _], rfl, pval_rep1 hres, .bl _ .nil, trivial⟩
    · exact he.elim
  · exact he.elim
theorem ents_upd {ks vs : Sh} {p v : PV} (hp : fits ks p = true) : ∀ {es : List MapEntry} {l : List (PV × PV)} {i : Nat}, Ents ks es l →
    (fidx p l i = none → (es ++ [(⟨pval p, pval v, i⟩ : MapEntry)]).map (fun e => (e.key, e.val)) = (mupd p v l).map (fun x => (pval x.1, pval x.2))) ∧
    (∀ j q, fidx p l i = some (j, q) → ∃ j' e0, j = i + j' ∧ es[j']? = some e0 ∧ e0.key = pval p ∧
      ∀ f : MapEntry → MapEntry, (f e0).key = pval p → (f e0).val = pval v → (es.modify j' f).map (fun e => (e.key, e.val)) = (mupd p v l).map (fun x => (pval x.1, pval x.2)))
  | [], l, i, h => by
    cases l with
    | nil => simp [fidx, mupd]
    | cons => simp [Ents] at h
  | e :: es, l, i, h => by
    cases l with
    | nil => simp [Ents] at h
    | cons x l =>
      obtain ⟨h1, h2, h3, h4⟩ := h.cons
      obtain ⟨k, u⟩ := x
      have ih := ents_upd (vs := vs) (v := v) hp (i := i + 1) h4
      simp only [fidx, mupd]
      by_cases hb : PV.beq p k = true
      · simp only [hb, if_true]
        have hpk := beq_eq p k hp h3 hb
        refine ⟨by simp, fun j q hj => ?_⟩
        simp only [Option.some.injEq, Prod.mk.injEq] at hj
        refine ⟨0, e, by omega, rfl, by rw [h1, hpk], fun f hf1 hf2 => ?_⟩
        simp only [List.modify_zero_cons, List.map_cons, hf1, hf2]
        rw [h4.1]
      · simp only [hb, Bool.false_eq_true, if_false]
        refine ⟨fun hn => ?_, fun j q hj => ?_⟩
        · have := ih.1 hn
          simp only [List.cons_append, List.map_cons, h1, h2]
          simp only [List.map_append, List.map_cons, List.map_nil] at this ⊢
          rw [this]
        · obtain ⟨j', e0, g1, g2, g3, g4⟩ := ih.2 j q hj
          refine ⟨j' + 1, e0, by omega, by simpa using g2, g3, fun f hf1 hf2 => ?_⟩
          simp only [List.modify_succ_cons, List.map_cons, h1, h2, g4 f hf1 hf2]
theorem upd_fits {ks vs : Sh} {p v : PV} (hp : fits ks p = true) (hv : fits vs v = true) : ∀ {l : List (PV × PV)}, (∀ x ∈ l, fits ks x.1 = true ∧ fits vs x.2 = true) → ∀ x ∈ mupd p v l, fits ks x.1 = true ∧ fits vs x.2 = true
  | [], _ => by simp [mupd, hp, hv]
  | (k, u) :: r, h => by
    intro x hx
    simp only [mupd] at hx
    split at hx
    · rcases List.mem_cons.1 hx with rfl | hx
      · exact ⟨hp, hv⟩
      · exact h x (by simp [hx])
    · rcases List.mem_cons.1 hx with rfl | hx
      · exact h _ (by simp)
      · exact upd_fits hp hv (fun y hy => h y (by simp [hy])) x hx
theorem le_updM {k b : Nat} {blk blk' : Blk} {es : Array MapEntry} {cl : Nat} {o' : Obj} (hg : get Γ.bx k = some blk) (hb : Γ.ι k = some b) (hc : Γ.heap[b]? = some (.map es cl)) (ht : blk.tot ≤ blk'.tot) :
    Le Γ (Γ.upd b o' k blk') where
  heap b' hb' hne := by
    have : b ≠ b' := by intro h; subst h; exact hne ⟨k, blk, hg, hb⟩
    simp only [Cx.upd]
    rw [Array.getElem?_setIfInBounds_ne this]
  mutb b' hb' h := by
    obtain ⟨i, bl, hgi, hi⟩ := h
    simp only [Cx.upd, get_put] at hgi hi
    by_cases hik : k = i
    · subst hik; exact ⟨k, blk, hg, hi⟩
    · rw [if_neg hik] at hgi; exact ⟨i, bl, hgi, hi⟩
  prot := rfl
  size := by simp [Cx.upd]
  ref i bl h := by
    have keep : ∀ b2, Γ.ι i = some b2 → ∀ cs e', Γ.heap[b2]? = some (.cells cs e' (0, 0)) → ∃ cs', (Γ.upd b o' k blk').heap[b2]? = some (.cells cs' e' (0, 0)) ∧ cs'.size = cs.size := by
      intro b2 hb2 cs e' hcs
      by_cases hbb : b = b2
      · subst hbb
        rw [hc] at hcs
        simp at hcs
      · exact ⟨cs, by simp only [Cx.upd]; rw [Array.getElem?_setIfInBounds_ne hbb]; exact hcs, rfl⟩
    by_cases hik : k = i
    · subst hik
      rw [hg] at h; cases h
      exact ⟨blk', by simp [Cx.upd, get_put_same], ht, fun _ => ⟨rfl, keep⟩⟩
    · exact ⟨bl, by simp only [Cx.upd]; rw [get_put_ne _ _ _ _ hik]; exact h, Nat.le_refl _, fun _ => ⟨rfl, keep⟩⟩
theorem mem_updM (hm : Mem Γ) {k b : Nat} {blk blk' : Blk} {es : Array MapEntry} {cl : Nat} {o' : Obj} (hg : get Γ.bx k = some blk) (hb : Γ.ι k = some b) (hc : Γ.heap[b]? = some (.map es cl)) (ht : blk.tot ≤ blk'.tot)
    (hr : blk'.Rep (Γ.upd b o' k blk') (some b)) : Mem (Γ.upd b o' k blk') where
  blk i bl h := by
    by_cases hik : k = i
    · subst hik
      simp only [Cx.upd, get_put_same, Option.some.injEq] at h
      subst h
      have : (Γ.upd b o' k blk').ι k = some b := hb
      rw [this]; exact hr
    · simp only [Cx.upd] at h
      rw [get_put_ne _ _ _ _ hik] at h
      have := hm.blk i bl h
      exact this.mono (le_updM hg hb hc ht) (fun b2 hb2 => by
        have hne : b ≠ b2 := by
          intro h'; subst h'
          exact hik (hm.inj k i b (by simp [hg]) (by simp [h]) hb hb2)
        simp only [Cx.upd]; rw [Array.getElem?_setIfInBounds_ne hne])
  inj i j b2 hi hj h1 h2 := by
    refine hm.inj i j b2 ?_ ?_ h1 h2
    · simp only [Cx.upd, get_put] at hi; split at hi
      · subst_vars; simp [hg]
      · exact hi
    · simp only [Cx.upd, get_put] at hj; split at hj
      · subst_vars; simp [hg]
      · exact hj
  prot b2 h := by have := hm.prot b2 h; simpa [Cx.upd] using this
  apart b2 h hp := hm.apart b2 ((le_updM (o' := o') hg hb hc ht).mutb b2 (hm.prot b2 hp) h) hp
  tab := hm.tab_le (le_updM hg hb hc ht)
theorem snd_mapSet {o : Oper} {t k e : TypeId} {ks vs : Sh} {m x y : Operand} {m' x' y' : AX} {K : St → Prop} (ho : o.op = .mapUpdate t m x y) (hu : P.underlying t = some (.map k e)) (hm : trX m = some m') (hx : trX x = some x') (hy : trX y = some y')
    (hks : shOf P 20 k = some ks) (hs : Sim nt ds s Γ a) (hw : w.heap = Γ.heap) (he : ex s o.dst (.mapSet ks vs m' x' y') K) : Stepd P nt ds o a w Γ K := by
  simp only [ex] at he
  obtain ⟨pm, he1, hr1⟩ := vg_rep hm hs rfl he
  obtain ⟨p, he2, hr2⟩ := vg_rep hx hs rfl he1
  obtain ⟨v, he3, hr3⟩ := vg_rep hy hs rfl he2
  clear he he1 he2
  split at he3
  · rename_i kk b
    split at he3
    · rename_i b' ks' vs' l hg
      obtain ⟨⟨hdn, rfl, rfl, rfl, hp, hv⟩, hK⟩ := he3
      rw [← hs.bx] at hg
      have hrep := hs.mem.blk _ _ hg
      obtain ⟨hι, es, clock, hb, hen, hfit⟩ := hrep
      have hkv := pval_uniq hp hr2
      have hvv := pval_uniq hv hr3
      have hE : Ents ks' es.toList l := ⟨hen, fun y hy => (hfit y hy).1⟩
      have hfind := find_run (P := P) (w := w) hks hp hE
      have hck := check_run (P := P) (Γ := Γ) (em := false) 20 10000 (by omega) hks w p _ hp (pval_rep hp)
      have hv1 := hr1.mp
      have hb' : w.heap[b']? = some (.map es clock) := by rw [hw]; exact hb
      have hupd := ents_upd (vs := vs') (v := v) hp (i := 0) hE
      have main : ∃ es' cl', (Instr.mapUpdate t (a.eval m) (a.eval x) (a.eval y)).run P w = .ok () { w with heap := w.heap.setIfInBounds b' (.map es' cl') } ∧
          es'.toList.map (fun e => (e.key, e.val)) = (mupd p v l).map (fun x => (pval x.1, pval x.2)) := by
        rw [hv1, hkv, hvv]
        cases hfx : fidx p l 0 with
        | none =>
          refine ⟨es.push ⟨pval p, pval v, clock⟩, clock + 1, ?_, ?_⟩
          · simp only [Instr.mapUpdate, Sem.run_bind, run_underlying hu, Result.andThen_ok, MapKept.run_getObj_map hb', hck, hfind, hfx, Option.map_none, MapKept.run_setObj_map _ hb']
          · have := hupd.1 hfx
            simpa using this
        | some jq =>
          obtain ⟨j, q⟩ := jq
          obtain ⟨j', e0, g1, g2, g3, g4⟩ := hupd.2 j q hfx
          have hj : j = j' := by omega
          subst hj
          refine ⟨es.modify j fun e => { e with key := pval p, val := pval v }, clock, ?_, ?_⟩
          · have ge : (es[j]?.map (·.key)).getD (pval p) = pval p := by
              rw [← Array.getElem?_toList, g2]; simp [g3]
            simp only [Instr.mapUpdate, Sem.run_bind, run_underlying hu, Result.andThen_ok, MapKept.run_getObj_map hb', hck, hfind, hfx, Option.map_some, ge, stays_run hp, MapKept.run_setObj_map _ hb']
          · have := g4 (fun e => { e with key := pval p, val := pval v }) rfl rfl
            rw [← this]
            congr 1
            apply List.ext_getElem?
            intro i
            simp [Array.getElem?_modify, List.getElem?_modify]
      obtain ⟨es', cl', hrun, hen'⟩ := main
      have hle := le_updM (o' := .map es' cl') (blk' := .map b' ks' vs' (mupd p v l)) hg hι hb (Nat.le_refl _)
      have hmem := mem_updM (o' := .map es' cl') (blk' := .map b' ks' vs' (mupd p v l)) hs.mem hg hι hb (Nat.le_refl _) ⟨rfl, es', cl', by simp only [Cx.upd]; rw [Array.getElem?_setIfInBounds_self_of_lt (lt_of_get hb)], hen', upd_fits hp hv hfit⟩
      have h1 := hs.le hle hmem (bx' := put s.bx kk (.map b' ks' vs' (mupd p v l))) (by simp [Cx.upd, hs.bx])
      refine ⟨.skip, undef, { w with heap := w.heap.setIfInBounds b' (.map es' cl') }, _, _, ?_, .inr ⟨rfl, rfl⟩, by rw [hdn]; exact h1, ?_, hle, ⟨rfl, rfl, rfl⟩, hK⟩
      · have e2 : execOp a.eval o = (do Instr.mapUpdate t (a.eval m) (a.eval x) (a.eval y); Pure.pure Next.skip) := by unfold execOp; rw [ho]
        rw [e2, Sem.run_bind, hrun]; rfl
      · simp [Cx.upd, hw]
    · exact he3.elim
  · exact he3.elim
end Go.Ab
