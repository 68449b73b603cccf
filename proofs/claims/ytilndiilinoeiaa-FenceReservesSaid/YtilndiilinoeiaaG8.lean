/- Installing keeps a made daemon valid. No program in sight. -/
import Derived.Test.YtilndiilinoeiaaG7
set_option linter.all false
namespace Go.Ab
open Go.Ab
/-! indices -/
theorem SortS_iff {l : List Slt} : SortS l ↔ (∀ s ∈ l, s.index ≠ 0) ∧ l.Pairwise (fun a b => a.index < b.index) := by
  constructor
  · intro h
    refine ⟨fun s hs => ?_, List.pairwise_iff_getElem.2 (fun i j hi hj hij => h.lt' hij hj)⟩
    obtain ⟨i, hi, rfl⟩ := List.mem_iff_getElem.1 hs
    exact h.1 i hi
  · rintro ⟨h1, h2⟩
    exact ⟨fun i hi => h1 _ (List.getElem_mem hi), fun i hi => List.pairwise_iff_getElem.1 h2 i (i + 1) (by omega) hi (by omega)⟩
theorem putS_nil (s : Slt) : putS [] s = [s] := rfl
theorem putS_cons (a : Slt) (l : List Slt) (s : Slt) : putS (a :: l) s = if a.index < s.index then a :: putS l s else s :: a :: l := by
  unfold putS
  by_cases h : a.index < s.index <;> simp [posS, h]
theorem putS_perm (s : Slt) : ∀ l, (putS l s).Perm (s :: l)
  | [] => .refl _
  | a :: l => by
    rw [putS_cons]; split
    · exact ((putS_perm s l).cons a).trans (.swap s a l)
    · exact .refl _
theorem putS_sort {s : Slt} : ∀ {l : List Slt}, l.Pairwise (fun a b => a.index < b.index) → (∀ x ∈ l, x.index ≠ s.index) → (putS l s).Pairwise (fun a b => a.index < b.index)
  | [], _, _ => by simp [putS_nil]
  | a :: l, h, hn => by
    obtain ⟨h1, h2⟩ := List.pairwise_cons.1 h
    have hna := hn a (by simp)
    rw [putS_cons]; split
    · rename_i hlt
      refine List.pairwise_cons.2 ⟨fun x hx => ?_, putS_sort h2 (fun x hx => hn x (by simp [hx]))⟩
      rcases List.mem_cons.1 ((putS_perm s l).mem_iff.1 hx) with rfl | hx
      · exact hlt
      · exact h1 x hx
    · rename_i hlt
      refine List.pairwise_cons.2 ⟨fun x hx => ?_, h⟩
      rcases List.mem_cons.1 hx with rfl | hx
      · omega
      · have := h1 x hx; omega
theorem dropAll_eq : ∀ (l : List Int) (s : List Slt), dropAll s l = s.filter (fun x => decide (x.index ∉ l))
  | [], s => by
    have : s.filter (fun x => decide (x.index ∉ ([] : List Int))) = s := List.filter_eq_self.2 (by simp)
    rw [this]; rfl
  | y :: l, s => by
    have h : dropAll s (y :: l) = dropAll (s.filter (neS y)) l := rfl
    rw [h, dropAll_eq l, List.filter_filter]
    congr 1; funext x
    by_cases h1 : x.index = y <;> by_cases h2 : x.index ∈ l <;> simp [neS, h1, h2]
theorem lcl1 (p : Plc) : lcl [p] = if p.has = true then [p.ses.loc] else [] := by
  by_cases h : p.has = true <;> simp [lcl, h]
theorem lcl_app (a b : List Plc) : lcl (a ++ b) = lcl a ++ lcl b := by simp [lcl]
theorem instR_perm (r : Rng) (s : Ses) (own : Bool) (h : (lc3 r).Nodup) :
    (lc3 (instR r s own)).Perm (s.loc :: (lc3 r).filter (fun x => decide (x ∉ instDr r own))) := by
  obtain ⟨⟨ph, ps⟩, ⟨ch, cs⟩, ⟨nh, ns⟩⟩ := r
  cases own <;> cases ph <;> cases ch <;> cases nh <;>
    simp_all [lc3, lcl, instR, instDr, beginR, beginD, ansR, ansD, cln, zPlc, List.filter_cons] <;>
    first
      | exact List.Perm.swap _ _ _
      | (rw [if_neg (fun e => h e.symm)]; exact List.Perm.swap _ _ _)
      | (rw [if_neg (fun e => h.1.1 e.symm)]; exact List.Perm.swap _ _ _)
      | (rw [if_pos ⟨fun e => h.1.2 e.symm, fun e => h.2 e.symm⟩]; exact List.Perm.swap _ _ _)
theorem instDr_sub {r : Rng} {own : Bool} {x : Int} (h : x ∈ instDr r own) : x ∈ lc3 r := by
  obtain ⟨⟨ph, ps⟩, ⟨ch, cs⟩, ⟨nh, ns⟩⟩ := r
  cases own <;> cases ph <;> cases ch <;> cases nh <;>
    simp_all [lc3, lcl, instDr, beginD, ansD, List.filter_cons] <;> first | done | (rcases h with h | h <;> simp [h])
/-- the list with one peer in the middle -/
theorem split_at {α : Type} {l : List α} {i : Nat} (h : i < l.length) : l = l.take i ++ l[i] :: l.drop (i + 1) := by
  rw [← List.drop_eq_getElem_cons h, List.take_append_drop]
theorem set_split {α : Type} {l : List α} {i : Nat} (h : i < l.length) (x : α) : l.set i x = l.take i ++ x :: l.drop (i + 1) := by
  rw [List.set_eq_take_append_cons_drop, if_pos h]
theorem slOf_pR (p : Per) (r : Rng) : slOf (pR p r) = (lc3 r).map (fun x => ⟨x, p.pub, true⟩) := rfl
theorem SlsOk.inst {d : Dmn} (h : SlsOk d) {i : Nat} (hi : i < d.peers.length) (hk : d.peers[i].pub = kOf i) {s : Ses} (h1 : 1 ≤ s.loc) (hfr : ∀ x ∈ d.slots, x.index ≠ s.loc) (own : Bool) : SlsOk (instD d i hi s own) := by
  obtain ⟨hs1, hs2⟩ := SortS_iff.1 h.so
  have hnd := h.nd
  have hpm := h.pm
  have hE : dropAll d.slots (instDr d.peers[i].ring own) = d.slots.filter (fun x => decide (x.index ∉ instDr d.peers[i].ring own)) := dropAll_eq _ _
  constructor
  · show SortS (putS (dropAll d.slots (instDr d.peers[i].ring own)) ⟨s.loc, kOf i, true⟩)
    rw [SortS_iff, hE]
    refine ⟨fun x hx => ?_, putS_sort (hs2.filter _) (fun x hx => hfr x (List.mem_filter.1 hx).1)⟩
    rcases List.mem_cons.1 ((putS_perm _ _).mem_iff.1 hx) with rfl | hx
    · show s.loc ≠ 0; omega
    · exact hs1 x (List.mem_filter.1 hx).1
  · show (putS (dropAll d.slots (instDr d.peers[i].ring own)) ⟨s.loc, kOf i, true⟩).Perm ((d.peers.set i (pR d.peers[i] (instR d.peers[i].ring s own))).flatMap slOf)
    rw [hE]
    refine (putS_perm _ _).trans ?_
    rw [set_split hi, List.flatMap_append, List.flatMap_cons, slOf_pR]
    have hsp := split_at hi
    obtain ⟨A, hA⟩ : ∃ A, A = d.peers.take i := ⟨_, rfl⟩
    obtain ⟨B, hB⟩ : ∃ B, B = d.peers.drop (i + 1) := ⟨_, rfl⟩
    obtain ⟨p, hp⟩ : ∃ p, p = d.peers[i] := ⟨_, rfl⟩
    rw [← hA, ← hB, ← hp] at hsp
    rw [← hA, ← hB, ← hp]
    rw [← hp] at hk
    rw [hsp, List.flatMap_append, List.flatMap_cons] at hpm hnd
    have hn1 := List.nodup_append.1 hnd
    have hn2 := List.nodup_append.1 hn1.2.1
    have hI := instR_perm p.ring s own hn2.1
    have hf := hpm.filter (fun x => decide (x.index ∉ instDr p.ring own))
    have key : ∀ {l : List Per}, (∀ q ∈ l, ∀ x ∈ lc3 q.ring, x ∉ lc3 p.ring) → (l.flatMap slOf).filter (fun x => decide (x.index ∉ instDr p.ring own)) = l.flatMap slOf := by
      intro l hl
      refine List.filter_eq_self.2 (fun x hx => ?_)
      obtain ⟨q, hq, hx⟩ := List.mem_flatMap.1 hx
      obtain ⟨y, hy, rfl⟩ := List.mem_map.1 hx
      simp only [decide_eq_true_eq]
      exact fun hd => hl q hq y hy (instDr_sub hd)
    have kA := key (l := A) (fun q hq x hx hxp => hn1.2.2 x (List.mem_flatMap.2 ⟨q, hq, hx⟩) x (List.mem_append.2 (.inl hxp)) rfl)
    have kB := key (l := B) (fun q hq x hx hxp => hn2.2.2 x hxp x (List.mem_flatMap.2 ⟨q, hq, hx⟩) rfl)
    have kp : (slOf p).filter (fun x => decide (x.index ∉ instDr p.ring own)) = ((lc3 p.ring).filter (fun x => decide (x ∉ instDr p.ring own))).map (fun x => ⟨x, p.pub, true⟩) := by
      unfold slOf; rw [List.filter_map]; rfl
    rw [List.filter_append, List.filter_append, kA, kB, kp] at hf
    have hI2 := hI.map (fun x => (⟨x, p.pub, true⟩ : Slt))
    refine ((hf.cons _).trans ?_)
    refine List.Perm.trans ?_ ((hI2.symm.append_right _).append_left _)
    rw [List.map_cons, hk, List.cons_append]
    exact List.perm_middle.symm
end Go.Ab
