/- Events with some left out: the program's and the document's functions. Lengths up to 2^30. -/
import Derived.Test.YtafmeafepngngaaEv1
import Derived.Test.YtafmeafepngngaaSt2
set_option linter.all false
namespace Go.Ab
open Go.Ab

/-- one event more is looked at: how many were met, and which ones were not -/
def stepW (part : List Ev) (s : Nat × List Ev) (e : Ev) : Nat × List Ev :=
  match part[s.1]? with
  | some x => if sameE x e = true then (s.1 + 1, s.2) else (s.1, s.2 ++ [e])
  | none => (s.1, s.2 ++ [e])
def wst (part whole : List Ev) (i : Nat) : Nat × List Ev := (whole.take i).foldl (stepW part) (0, [])
theorem wst_succ (part whole : List Ev) (i : Nat) (h : i < whole.length) : wst part whole (i + 1) = stepW part (wst part whole i) whole[i] := by
  unfold wst
  rw [List.take_succ_eq_append_getElem h, List.foldl_append]; rfl
theorem wst_zero (part whole : List Ev) : wst part whole 0 = (0, []) := by simp [wst]
theorem wst_all (part whole : List Ev) : wst part whole whole.length = whole.foldl (stepW part) (0, []) := by simp [wst]
theorem stepW_len (part : List Ev) (s : Nat × List Ev) (e : Ev) : (stepW part s e).1 + (stepW part s e).2.length = s.1 + s.2.length + 1 := by
  unfold stepW; split <;> (try split) <;> simp <;> omega
theorem wst_len (part whole : List Ev) (i : Nat) (h : i ≤ whole.length) : (wst part whole i).1 + (wst part whole i).2.length = i := by
  induction i with
  | zero => simp [wst_zero]
  | succ i ih => rw [wst_succ _ _ _ h, stepW_len, ih (by omega)]
theorem wst_le (part whole : List Ev) (i : Nat) (h : i ≤ whole.length) : (wst part whole i).1 ≤ part.length := by
  induction i with
  | zero => simp [wst_zero]
  | succ i ih =>
    rw [wst_succ _ _ _ h]
    have := ih (by omega)
    unfold stepW
    split
    · rename_i x hx
      have hlt := (List.getElem?_eq_some_iff.1 hx).1
      split <;> simp <;> omega
    · simpa using this

/-- what Within answers -/
def withinV (part whole : List Ev) : PV :=
  if (wst part whole whole.length).1 < part.length then .tup [encEs [], .bl false] else .tup [encEs (wst part whole whole.length).2, .bl true]

set_option maxHeartbeats 1000000 in
set_option maxRecDepth 10000 in
theorem explain_Within {part whole : List Ev} (hp : part.length ≤ 1073741824) (hw : whole.length ≤ 1073741824) (hb : ∀ e ∈ whole, e.bytes.length ≤ 1073741824) :
    ARet Pg I.explain_Within [encEs part, encEs whole] (withinV part whole) := by
  refine ACalls.intro T.explain_Within (by simp [F.explain_Within]) ?_
  simp [F.explain_Within, argEnv, fpBx, encEs]
  refine LpS.rng whole.length (fun _ => True) [0, 4, 5, 6, 7, 10, 11, 12] (fun i => [(6, .rs 6 [] 0 (wst part whole i).2.length (wst part whole i).2.length 22 .tip), (7, .int .i64 (wst part whole i).1), (12, .int .i64 i)]) (fun i => [(6, .arr 22 ((wst part whole i).2.map encE))]) [.vt 6 6 22] ?_
  simp [wst_zero]
  refine ⟨fun i hi K hK => ?_, fun K => ?_⟩
  · have hx : whole[i]? = some whole[i] := List.getElem?_eq_getElem hi
    have hlen := wst_len part whole i (by omega)
    have hle := wst_le part whole i (by omega)
    rw [wst_succ part whole i hi] at hK
    generalize wst part whole i = st at *
    obtain ⟨n, out⟩ := st
    simp only at hlen hle ⊢
    have hbi := hb _ (List.getElem_mem hi)
    by_cases hn : n < part.length
    · have hy : part[n]? = some part[n] := List.getElem?_eq_getElem hn
      simp [F.explain_Withinl0, hx, hi, hn, hy]
      refine callT.ret (explain_event_same part[n] whole[i]) (by simp) (by simp) (by simp) ?_
      cases hs : sameE part[n] whole[i] with
      | true =>
        simp (disch := omega)
        refine ⟨[.keep [0, 4, 5, 6, 7, 10, 11, 12], .dr 9], ?_⟩
        simp
        exact hK _ (by simp [stepW, hy, hs])
      | false =>
        simp
        refine callS.ret (own_Event hbi) (by simp) (by simp) (by simp) ?_
        simp (disch := omega)
        repeat (refine ⟨by omega, ?_⟩)
        refine ⟨[.keep [0, 4, 5, 6, 7, 10, 11, 12], .dr 9], ?_⟩
        simp
        exact hK _ (by simp [stepW, hy, hs])
    · have hy : part[n]? = none := List.getElem?_eq_none (by omega)
      simp [F.explain_Withinl0, hx, hi, hn]
      refine callS.ret (own_Event hbi) (by simp) (by simp) (by simp) ?_
      simp (disch := omega)
      repeat (refine ⟨by omega, ?_⟩)
      refine ⟨[.keep [0, 4, 5, 6, 7, 10, 11, 12], .dr 9], ?_⟩
      simp
      exact hK _ (by simp [stepW, hy])
  · simp [F.explain_Withinl0, F.explain_Withinc1]
    refine ⟨fun hlt => ?_, fun hge => ?_⟩
    · refine RetS.plain [.keep [4, 5], .wk 4] ?_
      simp [withinV, hlt, encEs]
    · refine RetS.plain [.keep [4, 5], .fz 6, .wk 4] ?_
      simp [withinV, Nat.not_lt.2 hge, encEs]

set_option maxHeartbeats 1000000 in
set_option maxRecDepth 10000 in
theorem burrowref34_Within {part whole : List Ev} (hp : part.length ≤ 1073741824) (hw : whole.length ≤ 1073741824) :
    ARet Pg I.burrowref34_Within [encEs part, encEs whole] (withinV part whole) := by
  refine ACalls.intro T.burrowref34_Within (by simp [F.burrowref34_Within]) ?_
  simp [F.burrowref34_Within, argEnv, fpBx, encEs]
  refine LpS.rng whole.length (fun _ => True) [0, 4, 5, 6, 9, 10, 11] (fun i => [(0, encEs (part.drop (wst part whole i).1)), (6, .rs 6 [] 0 (wst part whole i).2.length (wst part whole i).2.length 22 .tip), (11, .int .i64 i)]) (fun i => [(6, .arr 22 ((wst part whole i).2.map encE))]) [.vt 6 6 22] ?_
  simp [wst_zero]
  refine ⟨rfl, fun i hi K hK => ?_, fun K => ?_⟩
  · have hx : whole[i]? = some whole[i] := List.getElem?_eq_getElem hi
    have hlen := wst_len part whole i (by omega)
    have hle := wst_le part whole i (by omega)
    rw [wst_succ part whole i hi] at hK
    generalize wst part whole i = st at *
    obtain ⟨n, out⟩ := st
    simp only at hlen hle ⊢
    by_cases hn : n < part.length
    · have hy : part[n]? = some part[n] := List.getElem?_eq_getElem hn
      obtain ⟨x, hxe⟩ : ∃ x, x = part[n] := ⟨_, rfl⟩
      obtain ⟨r, hre⟩ : ∃ r, r = part.drop (n + 1) := ⟨_, rfl⟩
      have hd : part.drop n = x :: r := by rw [hxe, hre]; exact List.drop_eq_getElem_cons hn
      have hrl : r.length ≤ 1073741824 := by rw [hre]; simp; omega
      rw [← hxe] at hy
      simp [F.burrowref34_Withinl0, hx, hi, hd, encEs]
      refine callT.ret (burrowref31_SameEvent x whole[i]) (by simp) (by simp) (by simp) ?_
      cases hs : sameE x whole[i] with
      | true =>
        simp (disch := omega)
        repeat (refine ⟨by omega, ?_⟩)
        refine ⟨[.keep [0, 4, 5, 6, 9, 10, 11], .dr 8], ?_⟩
        simp
        exact hK _ (by simp [stepW, hy, hs, encEs, hre])
      | false =>
        simp
        repeat (refine ⟨by omega, ?_⟩)
        refine ⟨[.keep [0, 4, 5, 6, 9, 10, 11], .dr 8], ?_⟩
        simp
        have hst : stepW part (n, out) whole[i] = (n, out ++ [whole[i]]) := by simp only [stepW, hy, hs]; rfl
        rw [hst] at hK
        refine hK _ ?_
        simp (disch := omega) [encEs, ← List.map_drop, hd]
    · have hy : part[n]? = none := List.getElem?_eq_none (by omega)
      have hd : part.drop n = [] := List.drop_eq_nil_of_le (by omega)
      simp (disch := omega) [F.burrowref34_Withinl0, hx, hi, hd, encEs]
      repeat (refine ⟨by omega, ?_⟩)
      refine ⟨[.keep [0, 4, 5, 6, 9, 10, 11], .dr 8], ?_⟩
      simp
      have hst : stepW part (n, out) whole[i] = (n, out ++ [whole[i]]) := by simp only [stepW, hy]
      rw [hst] at hK
      refine hK _ ?_
      simp [encEs, ← List.map_drop, hd]
  · have hle := wst_le part whole whole.length (by omega)
    simp [F.burrowref34_Withinl0, F.burrowref34_Withinc1, encEs]
    refine ⟨fun hlt => ?_, fun hge => ?_⟩
    · refine RetS.plain [.keep [4, 5], .wk 4] ?_
      have hlt' : (wst part whole whole.length).1 < part.length := by omega
      simp [withinV, hlt', encEs]
    · refine RetS.plain [.keep [4, 5, 6], .fz 6, .wk 4] ?_
      have hlt' : ¬ (wst part whole whole.length).1 < part.length := by omega
      simp [withinV, hlt', encEs]

set_option maxRecDepth 10000 in
theorem burrowref34_SameEvents {l m : List Ev} (hl : l.length ≤ 1073741824) (hm : m.length ≤ 1073741824) (hs : ∀ i (h : i < l.length) (h' : i < m.length), l.length = m.length → sameE l[i] m[i] = true) :
    ARet Pg I.burrowref34_SameEvents [encEs l, encEs m] (.bl (decide (l.length = m.length))) := by
  refine ACalls.intro T.burrowref34_SameEvents (by simp [F.burrowref34_SameEvents]) ?_
  simp [F.burrowref34_SameEvents, argEnv, fpBx, encEs]
  refine ⟨fun hne => ?_, fun he => ?_⟩
  · refine RetS.plain [] ?_
    simp; omega
  · have hlm : l.length = m.length := by omega
    refine LpS.rng l.length (fun i => True) [0, 1, 4, 11, 12, 13] (fun i => [(13, .int .i64 i)]) (fun i => []) [] ?_
    simp
    refine ⟨fun i hi K hK => ?_, fun K => ?_⟩
    · have hx : l[i]? = some l[i] := List.getElem?_eq_getElem hi
      have hi2 : i < m.length := by omega
      have hy : m[i]? = some m[i] := List.getElem?_eq_getElem hi2
      have hsi := hs i hi hi2 hlm
      simp [F.burrowref34_SameEventsl0, hx, hy, hi, hi2]
      refine callT.ret (burrowref31_SameEvent l[i] m[i]) (by simp) (by simp) (by simp) ?_
      rw [hsi]
      simp (disch := omega)
      exact ⟨[], hK _ (by simp)⟩
    · simp [F.burrowref34_SameEventsl0, F.burrowref34_SameEventsc1]
      refine RetS.plain [] ?_
      simp [hlm]
end Go.Ab
