/- The law ExplainWithin: each call returns true. Lengths up to 2^30. -/
import Derived.Test.YtafmeafepngngaaEv3
import Derived.Test.YtafmeafepngngaaSt3
import Derived.Test.YtafmeafepngngaaA5
set_option linter.all false
namespace Go.Ab
open Go.Ab

@[simp] theorem sameE_refl (e : Ev) : sameE e e = true := by simp [sameE]

def evk (k : Int) : Ev := ⟨k, fr0, [], 0, []⟩
set_option maxHeartbeats 1000000 in
set_option maxRecDepth 10000 in
theorem burrowlaw34_begun : ARet Pg I.burrowlaw34_begun [] (.bl true) := by
  refine ACalls.intro T.burrowlaw34_begun (by simp [F.burrowlaw34_begun]) ?_
  simp [F.burrowlaw34_begun, argEnv, fpBx]
  have h1 : sameE (evk 2) (evk 1) = false := by simp [sameE, evk]
  have hw : withinV [evk 2] [evk 1, evk 2, evk 3] = .tup [encEs [evk 1, evk 3], .bl true] := by
    simp [withinV, wst, stepW, h1]
  refine callS.ret (explain_Within (part := [evk 2]) (whole := [evk 1, evk 2, evk 3]) (by simp) (by simp) (by simp [evk])) (by simp [encEs, encE, evk, fr0]) (by simp) (by rw [hw]; simp) ?_
  rw [hw]
  simp [encEs, encE, evk]
  refine RetS.plain [.keep [0]] ?_
  simp

/-- which ones are kept -/
def keepD (drop : List UInt8) (i : Nat) : Bool := match drop[i]? with | some d => decide (0 < (d.toNat : Int).tmod 3) | none => true
def partOf (drop : List UInt8) (y : List Ev) : Nat → List Ev
  | 0 => []
  | i + 1 => partOf drop y i ++ (match y[i]? with | some e => if keepD drop i then [e] else [] | none => [])
theorem partOf_sub (drop : List UInt8) (y : List Ev) : ∀ i, (partOf drop y i).Sublist (y.take i)
  | 0 => by simp [partOf]
  | i + 1 => by
    have ih := partOf_sub drop y i
    rw [partOf]
    rcases Nat.lt_or_ge i y.length with h | h
    · rw [List.take_succ_eq_append_getElem h, List.getElem?_eq_getElem h]
      refine ih.append ?_
      simp only []
      split
      · exact List.Sublist.refl _
      · exact List.nil_sublist _
    · rw [List.getElem?_eq_none h, List.append_nil, List.take_of_length_le (by omega)]
      rwa [List.take_of_length_le (by omega)] at ih
/-- what is left out of a list leaves a list that is met -/
theorem greedy : ∀ (w : List Ev) (pre p : List Ev) (o : List Ev), p.Sublist w → (w.foldl (stepW (pre ++ p)) (pre.length, o)).1 = (pre ++ p).length
  | [], pre, p, o, h => by
    have := List.sublist_nil.1 h
    subst this; simp
  | e :: w, pre, p, o, h => by
    rw [List.foldl_cons]
    cases p with
    | nil =>
      have : stepW (pre ++ []) (pre.length, o) e = (pre.length, o ++ [e]) := by
        simp only [stepW, List.append_nil]
        rw [List.getElem?_eq_none (by simp)]
      rw [this]
      exact greedy w pre [] _ (List.nil_sublist _)
    | cons x p =>
      have hg : (pre ++ x :: p)[pre.length]? = some x := by simp
      by_cases hs : sameE x e = true
      · have : stepW (pre ++ x :: p) (pre.length, o) e = (pre.length + 1, o) := by simp only [stepW, hg]; rw [if_pos hs]
        rw [this]
        have hp : p.Sublist w := by
          cases h with
          | cons _ h => exact (List.sublist_cons_self _ _).trans h
          | cons_cons _ h => exact h
        have := greedy w (pre ++ [x]) p o hp
        simpa using this
      · have : stepW (pre ++ x :: p) (pre.length, o) e = (pre.length, o ++ [e]) := by simp only [stepW, hg]; rw [if_neg hs]
        rw [this]
        refine greedy w pre (x :: p) _ ?_
        cases h with
        | cons _ h => exact h
        | cons_cons _ h => exact absurd (sameE_refl _) hs

/-- an empty slice is one of any element -/
theorem RepV.nil_sl {Γ : Cx} {z z' : Nat} {c : Bool} {v : Value} (h : RepV Γ (.sl z [] c) v) : RepV Γ (.sl z' [] false) v := by
  simp only [RepV] at h ⊢
  cases h with
  | @sl _ _ cs _ _ _ ad rcap h1 h2 h3 h4 h5 h6 => exact .sl z' [] false ad rcap h1 (by simp) (by simpa using h3) (by simp) (by simp) h6
theorem ARet.nil1 {P : Program} {f : FuncId} {z z' : Nat} {c : Bool} {r : List PV} {v : PV} (h : ARet P f (.sl z' [] false :: r) v) : ARet P f (.sl z [] c :: r) v := by
  refine ⟨h.1, fun Γ w vs h1 h2 h3 h4 => h.2 Γ w vs h1 h2 h3 ?_⟩
  cases vs with
  | nil => exact h4
  | cons x vs => exact ⟨h4.1.nil_sl, h4.2⟩

def modk (a : Act) : Act := { a with kind := a.kind % 3 }
/-- the kinds of the first ones taken by 3 -/
def mods (l : List Act) : Nat → List Act
  | 0 => l
  | i + 1 => match (mods l i)[i]? with
    | some a => (mods l i).set i (modk a)
    | none => mods l i
theorem mods_len (l : List Act) : ∀ i, (mods l i).length = l.length
  | 0 => rfl
  | i + 1 => by rw [mods]; split <;> simp [mods_len l i]
theorem mods_all {Q : Act → Prop} (hq : ∀ a, Q a → Q (modk a)) {l : List Act} (h : ∀ a ∈ l, Q a) : ∀ i, ∀ a ∈ mods l i, Q a
  | 0 => h
  | i + 1 => by
    have ih := mods_all hq h i
    rw [mods]
    split
    · rename_i a ha
      intro b hb
      rcases List.mem_or_eq_of_mem_set hb with hb | rfl
      · exact ih b hb
      · exact hq a (ih a (List.mem_of_getElem? ha))
    · exact ih

theorem within_form (p y : List Ev) (hp : p.length ≤ 13) (hy : y.length ≤ 12) : ∃ m ok, withinV p y = .tup [encEs m, .bl ok] ∧ m.length ≤ 12 ∧ (ok = true → m.length + p.length = y.length) := by
  have h1 := wst_len p y y.length (by omega)
  have h2 := wst_le p y y.length (by omega)
  by_cases h : (wst p y y.length).1 < p.length
  · exact ⟨[], false, by simp [withinV, h], by simp, by simp⟩
  · exact ⟨(wst p y y.length).2, true, by simp [withinV, h], by omega, fun _ => by omega⟩

set_option maxHeartbeats 2000000 in
set_option maxRecDepth 10000 in
theorem burrowlaw34_ExplainWithin {a b drop : List UInt8} {l : List Act} (ha : a.length ≤ 1073741824) (hb : b.length ≤ 1073741824) (hd : drop.length ≤ 1073741824) (hl : l.length ≤ 1073741824) (hlb : ∀ x ∈ l, x.ev.bytes.length ≤ 1073741824)
    (hk : ∀ x ∈ l, -9223372036854775808 ≤ x.kind ∧ x.kind ≤ 9223372036854775807) : ARet Pg I.burrowlaw34_ExplainWithin [encB a, encB b, encB drop, encAs l] (.bl true) := by
  refine ACalls.intro T.burrowlaw34_ExplainWithin (by simp [F.burrowlaw34_ExplainWithin]) ?_
  simp [F.burrowlaw34_ExplainWithin, argEnv, fpBx, encB, encAs]
  have hx6 : ((a.take 6).map mkEv).length ≤ 6 := by simp; omega
  have hy12 : ((b.take 12).map mkEv).length ≤ 12 := by simp; omega
  have hxb : ∀ e ∈ (a.take 6).map mkEv, e.bytes.length ≤ 1073741824 := by intro e he; obtain ⟨x, _, rfl⟩ := List.mem_map.1 he; simp [mkEv]
  have hyb : ∀ e ∈ (b.take 12).map mkEv, e.bytes.length ≤ 1073741824 := by intro e he; obtain ⟨x, _, rfl⟩ := List.mem_map.1 he; simp [mkEv]
  refine callS.ret (burrowlaw34_small (b := a) (n := 6) (by omega) (by omega)) (by simp [encB]) (by simp) (by simp) ?_
  generalize (a.take 6).map mkEv = x at *
  simp
  refine callS.ret (burrowlaw34_small (b := b) (n := 12) (by omega) (by omega)) (by simp [encB]) (by simp) (by simp) ?_
  generalize (b.take 12).map mkEv = y at *
  simp [encEs]
  refine LpS.rng y.length (fun _ => True) [2, 3, 8, 9, 10, 11, 27, 28, 29] (fun i => [(11, .rs 11 [] 0 (partOf drop y i).length (partOf drop y i).length 22 .tip), (29, .int .i64 i)]) (fun i => [(11, .arr 22 ((partOf drop y i).map encE))]) [.vt 11 11 22] ?_
  simp only [partOf]
  simp
  refine ⟨fun i hi K hK => ?_, fun K => ?_⟩
  · have hxi : y[i]? = some y[i] := List.getElem?_eq_getElem hi
    have hpl : (partOf drop y i).length ≤ i := by have := (partOf_sub drop y i).length_le; simp at this; omega
    rw [hxi] at hK
    generalize partOf drop y i = p at *
    by_cases hdi : i < drop.length
    · have hdx : drop[i]? = some drop[i] := List.getElem?_eq_getElem hdi
      have hge : ¬ drop.length ≤ i := by omega
      simp (disch := omega) [F.burrowlaw34_ExplainWithinl0, hxi, hi, hdx, hge, hdi, u8]
      refine ⟨fun h0 => ?_, fun h0 => ?_⟩
      · repeat (refine ⟨by omega, ?_⟩)
        refine ⟨[.keep [2, 3, 8, 9, 10, 11, 27, 28, 29], .dr 13], ?_⟩
        have hkd : keepD drop i = true := by simp only [keepD, hdx]; simpa using h0
        simp
        exact hK _ (by simp [hkd])
      · refine ⟨[.keep [2, 3, 8, 9, 10, 11, 27, 28, 29], .dr 13], ?_⟩
        have hkd : keepD drop i = false := by simp only [keepD, hdx]; simpa using h0
        simp
        exact hK _ (by simp [hkd])
    · have hge : drop.length ≤ i := by omega
      have hkd : keepD drop i = true := by simp only [keepD]; rw [List.getElem?_eq_none (by omega)]
      simp (disch := omega) [F.burrowlaw34_ExplainWithinl0, hxi, hi, hge]
      repeat (refine ⟨by omega, ?_⟩)
      refine ⟨[.keep [2, 3, 8, 9, 10, 11, 27, 28, 29], .dr 13], ?_⟩
      simp
      exact hK _ (by simp [hkd])
  · simp (disch := omega) [F.burrowlaw34_ExplainWithinl0, F.burrowlaw34_ExplainWithinc5]
    have hsub : (partOf drop y y.length).Sublist y := by have := partOf_sub drop y y.length; simpa using this
    generalize partOf drop y y.length = p at *
    have hpl : p.length ≤ 12 := by have := hsub.length_le; omega
    refine ⟨by omega, ?_⟩
    refine LpS.rng 4 (fun _ => True) [3, 8, 10, 11, 62, 63, 64] (fun i => [(64, .int .i64 i)]) (fun i => []) [.keep [3, 8, 10, 11, 62, 63, 64], .fz 11, .fz 61] ?_
    simp
    obtain ⟨xs, hxs⟩ : ∃ xs, xs = [PV.sl 22 (List.map encE x) false, PV.sl 22 (List.map encE p) false, PV.sl 0 [] false, PV.sl 22 (List.map encE p ++ [PV.st 22 [PV.int IntKind.i64 7, PV.st 18 [PV.st 17 [PV.bl false, PV.ar 1 16 (zr 16 (PV.int IntKind.u8 0))], PV.int IntKind.i64 0], PV.sl 1 [] false, PV.int IntKind.i64 0, PV.str []]]) false] := ⟨_, rfl⟩
    have hxl : xs.length = 4 := by rw [hxs]; rfl
    have hxm : ∀ i, i < 4 → ∃ (z : Nat) (ll : List PV) (pl : List Ev), xs[i]? = some (.sl z ll false) ∧ PureL ll ∧ wkL ll = ll ∧ ll.length = pl.length ∧ pl.length ≤ 13 ∧ ∀ f r v, ARet Pg f [encEs pl, r] v → ARet Pg f [.sl z ll false, r] v := by
      intro i hi
      rw [hxs]
      match i, hi with
      | 0, _ => exact ⟨22, x.map encE, x, rfl, by simp, by simp, by simp, by omega, fun f r v h => h⟩
      | 1, _ => exact ⟨22, p.map encE, p, rfl, by simp, by simp, by simp, by omega, fun f r v h => h⟩
      | 2, _ => exact ⟨0, [], [], rfl, by simp, by simp, by simp, by simp, fun f r v h => ARet.nil1 (z' := 22) h⟩
      | 3, _ => exact ⟨22, (p ++ [evk 7]).map encE, p ++ [evk 7], by simp [encE, evk, fr0], by simp, by simp, by simp, by simp; omega, fun f r v h => h⟩
    rw [← hxs]
    clear hxs
    refine ⟨fun i hi K hK => ?_, fun K => ?_⟩
    · obtain ⟨z, ll, pl, h1, h2, h3, h4, h5, h6⟩ := hxm i hi
      obtain ⟨hxi, hx2⟩ := List.getElem?_eq_some_iff.1 h1
      have hi2 : (i : Int) < 4 := by omega
      simp [F.burrowlaw34_ExplainWithinl1, hx2, hi, hi2, hxl]
      obtain ⟨m, ok, hv, hml, hok⟩ := within_form pl y (by omega) (by omega)
      have hA := h6 _ _ _ (explain_Within (part := pl) (whole := y) (by omega) (by omega) hyb)
      have hB := h6 _ _ _ (burrowref34_Within (part := pl) (whole := y) (by omega) (by omega))
      rw [hv] at hA hB
      refine callS.ret hA (by simp [encEs, h3]) (by simp [h2]) (by simp) ?_
      simp
      refine callS.ret hB (by simp [encEs, h3]) (by simp [h2]) (by simp) ?_
      have hwl := wst_len pl y y.length (by omega)
      simp
      refine callS.ret (burrowref34_SameEvents (l := m) (m := m) (by omega) (by omega) (fun _ _ _ _ => by simp)) (by simp) (by simp) (by simp) ?_
      cases ok with
      | true =>
        have := hok rfl
        simp (disch := omega) [encEs, h4]
        exact ⟨fun hne => absurd (by omega) hne, fun _ => ⟨[], hK _ (by simp)⟩⟩
      | false =>
        simp (disch := omega) [encEs, h4]
        exact ⟨[], hK _ (by simp)⟩
    · have et := take_min l 8
      simp (disch := omega) [F.burrowlaw34_ExplainWithinl1, F.burrowlaw34_ExplainWithinc4, ← List.map_take, et]
      have hl8b : ∀ a ∈ l.take 8, a.ev.bytes.length ≤ 1073741824 ∧ -9223372036854775808 ≤ a.kind ∧ a.kind ≤ 9223372036854775807 := fun a ha => ⟨hlb a (List.mem_of_mem_take ha), hk a (List.mem_of_mem_take ha)⟩
      have hl8 : (l.take 8).length ≤ 8 := by simp; omega
      have hm8 : min 8 l.length = (l.take 8).length := by simp
      rw [hm8]
      generalize l.take 8 = l8 at *
      refine ⟨by omega, ⟨by omega, by omega⟩, ?_⟩
      refine LpS.rngc l8.length (fun _ => True) [3, 8, 10, 11, 109, 110, 111] (fun i => [(111, .int .i64 i)]) (fun i => [(108, .arr 60 ((mods l8 i).map encA))]) [] [.fz 108] ?_
      simp only [mods]
      simp
      refine ⟨fun i hi K hK => ?_, fun K => ?_⟩
      · have hL := mods_len l8 i
        have hall := mods_all (Q := fun a => a.ev.bytes.length ≤ 1073741824 ∧ -9223372036854775808 ≤ a.kind ∧ a.kind ≤ 9223372036854775807) (fun a h => ⟨h.1, by simp only [modk]; omega⟩) hl8b i
        have hiL : i < (mods l8 i).length := by omega
        have hx : (mods l8 i)[i]? = some (mods l8 i)[i] := List.getElem?_eq_getElem hiL
        rw [hx] at hK
        have hai := hall _ (List.getElem_mem hiL)
        have hi2 : (i : Int) < l8.length := by omega
        generalize mods l8 i = L at *
        simp (disch := omega) [F.burrowlaw34_ExplainWithinl2, hi, hi2, hiL, hL, encA]
        refine callS.ret (burrowcase_Mod (a := L[i].kind) (n := 3) hai.2 (by omega)) (by simp) (by simp) (by simp) ?_
        simp (disch := omega) [hiL, hL, hi, encA]
        refine ⟨[.keep [3, 8, 10, 11, 109, 110, 111]], ?_⟩
        simp
        refine hK _ ?_
        simp [List.map_set, encA, modk]
      · have hL := mods_len l8 l8.length
        have hall := mods_all (Q := fun a => a.ev.bytes.length ≤ 1073741824 ∧ -9223372036854775808 ≤ a.kind ∧ a.kind ≤ 9223372036854775807) (fun a h => ⟨h.1, by simp only [modk]; omega⟩) hl8b l8.length
        have hc : l8.length = (mods l8 l8.length).length ∧ l8.length ≤ (mods l8 l8.length).length := by omega
        rw [if_pos hc]
        generalize mods l8 l8.length = L at *
        rw [List.take_of_length_le (by simp; omega)]
        simp (disch := omega) [F.burrowlaw34_ExplainWithinl2, F.burrowlaw34_ExplainWithinc3]
        have hv : ∃ m, withinV p y = .tup [encEs m, .bl true] := by
          have hg := greedy y [] p [] hsub
          simp at hg
          refine ⟨(wst p y y.length).2, ?_⟩
          have : ¬ (wst p y y.length).1 < p.length := by rw [wst_all, hg]; omega
          simp [withinV, this]
        obtain ⟨m, hv⟩ := hv
        have hA := explain_Within (part := p) (whole := y) (by omega) (by omega) hyb
        rw [hv] at hA
        refine callS.ret hA (by simp [encEs]) (by simp) (by simp) ?_
        simp
        refine callS.ret (explain_Inputs (l := L) (by omega) (fun a ha => (hall a ha).1)) (by simp [encAs]) (by simp) (by simp) ?_
        simp
        refine callS.ret (burrowref34_Inputs (l := L) (by omega)) (by simp [encAs]) (by simp) (by simp) ?_
        have hin := inputs_len L
        simp
        refine callS.ret (burrowref34_SameEvents (l := inputs L) (m := inputs L) (by omega) (by omega) (fun _ _ _ _ => by simp)) (by simp) (by simp) (by simp) ?_
        simp
        refine callS.ret burrowlaw34_begun (by simp) (by simp) (by simp) ?_
        simp
        refine RetS.plain [.keep [8]] ?_
        simp
end Go.Ab
