/- Timers of the document: burrowref14. Conditions: lengths up to 2^20. -/
import Derived.Test.YtilndiilinoeiaaE2
set_option linter.all false
namespace Go.Ab
open Go.Ab
theorem beqL_u8 : ∀ l m : List UInt8, PV.beqL (l.map u8) (m.map u8) = decide (l = m)
  | [], [] => by simp [PV.beqL]
  | [], _ :: _ => by simp [PV.beqL]
  | _ :: _, [] => by simp [PV.beqL]
  | a :: l, b :: m => by
    have ih := beqL_u8 l m
    simp only [List.map_cons, PV.beqL, ih, u8, PV.beq]
    by_cases h : a = b
    · subst h; simp
    · have : ¬ (a.toNat = b.toNat) := fun e => h (UInt8.toNat_inj.1 e)
      simp [h, this]
      intro e; exact absurd (by omega) this
theorem Key.ext' {a b : Key} (h : a.l = b.l) : a = b := by cases a; cases b; simp_all
instance : DecidableEq Key := fun a b => if h : a.l = b.l then isTrue (Key.ext' h) else isFalse (fun e => h (by rw [e]))
theorem beq_K (a b : Key) : PV.beq (encK a) (encK b) = decide (a = b) := by
  have : (a = b) ↔ a.l = b.l := ⟨fun e => by rw [e], Key.ext'⟩
  simp [encK, PV.beq, beqL_u8, this]

/-- bytes in order -/
def ltK (a b : Key) : Bool := Op.bytesLess a.l b.l
def lessT (a b : Tmr) : Bool := if a.at_ ≠ b.at_ then decide (a.at_ < b.at_) else if a.peer ≠ b.peer then ltK a.peer b.peer else decide (a.kind < b.kind)
set_option maxRecDepth 10000 in
theorem burrowref14_LessTimer (a b : Tmr) : ARet Pg I.burrowref14_LessTimer [encT a, encT b] (.bl (lessT a b)) := by
  refine ACalls.intro T.burrowref14_LessTimer (by simp [F.burrowref14_LessTimer]) ?_
  by_cases h1 : a.at_ = b.at_
  · by_cases h2 : a.peer = b.peer
    · simp [F.burrowref14_LessTimer, argEnv, fpBx, h1, h2, beq_K]
      refine RetS.plain [] ?_
      simp [lessT, h1, h2]
    · simp [F.burrowref14_LessTimer, argEnv, fpBx, h1, h2, beq_K]
      have ta : (a.peer.l.map u8).take 32 = a.peer.l.map u8 := List.take_of_length_le (by simp [a.peer.h])
      have tb : (b.peer.l.map u8).take 32 = b.peer.l.map u8 := List.take_of_length_le (by simp [b.peer.h])
      simp [encK, a.peer.h, b.peer.h, ta, tb]
      refine RetS.plain [] ?_
      simp [lessT, ltK, h1, h2]
  · simp [F.burrowref14_LessTimer, argEnv, fpBx, h1]
    refine RetS.plain [] ?_
    simp [lessT, h1]

def notT (k : Key) (n : Int) (x : Tmr) : Bool := !(decide (x.peer = k) && decide (x.kind = n))
def cancelT (l : List Tmr) (k : Key) (n : Int) : List Tmr := l.filter (notT k n)
theorem filter_succ {α : Type} (p : α → Bool) {l : List α} {i : Nat} (h : i < l.length) : (l.take (i + 1)).filter p = (l.take i).filter p ++ (if p l[i] = true then [l[i]] else []) := by
  rw [List.take_succ_eq_append_getElem h, List.filter_append]
  congr 1
  by_cases hk : p l[i] = true <;> simp [hk]
theorem filter_take_le {α : Type} (p : α → Bool) (l : List α) (i : Nat) : ((l.take i).filter p).length ≤ i := by
  have := List.length_filter_le p (l.take i)
  rw [List.length_take] at this; omega
set_option maxRecDepth 10000 in
set_option maxHeartbeats 1000000 in
theorem burrowref14_Cancel {l : List Tmr} (h : l.length ≤ 1048576) (k : Key) (n : Int) : ARet Pg I.burrowref14_Cancel [encTs l, encK k, .int .i64 n] (encTs (cancelT l k n)) := by
  refine ACalls.intro T.burrowref14_Cancel (by simp [F.burrowref14_Cancel]) ?_
  simp [F.burrowref14_Cancel, argEnv, fpBx, encTs]
  refine LpS.rng l.length (fun _ => True) [2, 4, 6, 7, 10, 11, 12] (fun i => [(7, .rs 7 [] 0 ((l.take i).filter (notT k n)).length ((l.take i).filter (notT k n)).length 34 .tip), (12, .int .i64 i)]) (fun i => [(7, .arr 34 (((l.take i).filter (notT k n)).map encT))]) [.vt 7 7 34] ?_
  simp
  refine ⟨fun i hi K hK => ?_, fun K => ?_⟩
  · have hx : l[i]? = some l[i] := List.getElem?_eq_getElem hi
    have hlen := filter_take_le (notT k n) l i
    rw [filter_succ _ hi] at hK
    generalize (l.take i).filter (notT k n) = out at *
    by_cases h1 : l[i].peer = k
    · by_cases h2 : l[i].kind = n
      · simp [F.burrowref14_Cancell0, hx, hi, h1, h2, beq_K, wrapi hi h]
        refine ⟨[.keep [2, 4, 6, 7, 10, 11, 12], .dr 9], ?_⟩
        simp [refsEnv, refsBx, refsOk, refsOkB]
        exact hK _ (by simp [notT, h1, h2])
      · simp [F.burrowref14_Cancell0, hx, hi, h1, h2, beq_K, wrapi hi h]
        refine ⟨⟨by omega, by omega⟩, [.keep [2, 4, 6, 7, 10, 11, 12], .dr 9], ?_⟩
        simp [refsEnv, refsBx, refsOk, refsOkB]
        exact hK _ (by simp [notT, h1, h2])
    · simp [F.burrowref14_Cancell0, hx, hi, h1, beq_K, wrapi hi h]
      refine ⟨⟨by omega, by omega⟩, [.keep [2, 4, 6, 7, 10, 11, 12], .dr 9], ?_⟩
      simp [refsEnv, refsBx, refsOk, refsOkB]
      exact hK _ (by simp [notT, h1])
  · simp [F.burrowref14_Cancell0, F.burrowref14_Cancelc1]
    refine RetS.plain [.keep [6], .fz 7, .wk 6] ?_
    simp [cancelT]

/-- where a timer belongs -/
def posT (t : Tmr) : List Tmr → Nat
  | [] => 0
  | x :: r => if lessT t x = true then 0 else posT t r + 1
def setT (l : List Tmr) (t : Tmr) : List Tmr := let r := cancelT l t.peer t.kind; r.take (posT t r) ++ [t] ++ r.drop (posT t r)
theorem posT_le (t : Tmr) : ∀ l, posT t l ≤ l.length
  | [] => Nat.le_refl _
  | x :: r => by simp only [posT]; split <;> simp; exact posT_le t r
theorem posT_lt (t : Tmr) : ∀ (l : List Tmr) (i : Nat) (h : i < l.length), i < posT t l → lessT t l[i] = false
  | x :: r, 0, h, hi => by simp only [posT] at hi; split at hi <;> simp_all
  | x :: r, i + 1, h, hi => by
    simp only [posT] at hi
    split at hi
    · omega
    · simpa using posT_lt t r i (by simpa using h) (by omega)
theorem posT_at (t : Tmr) : ∀ (l : List Tmr) (h : posT t l < l.length), lessT t l[posT t l] = true
  | [], h => by simp at h
  | x :: r, h => by
    simp only [posT] at h ⊢
    by_cases hx : lessT t x = true
    · simp [hx]
    · simp only [hx, Bool.false_eq_true, if_false] at h ⊢
      simpa using posT_at t r (by simpa using h)
set_option maxRecDepth 10000 in
set_option maxHeartbeats 1000000 in
theorem burrowref14_Set {l : List Tmr} (h : l.length ≤ 1048575) (t : Tmr) : ARet Pg I.burrowref14_Set [encTs l, encT t] (encTs (setT l t)) := by
  refine ACalls.intro T.burrowref14_Set (by simp [F.burrowref14_Set]) ?_
  simp [F.burrowref14_Set, argEnv, fpBx]
  refine callS.ret (burrowref14_Cancel (l := l) (by omega) t.peer t.kind) (by simp) (by simp) (by simp) ?_
  have hle : (cancelT l t.peer t.kind).length ≤ l.length := List.length_filter_le _ _
  have hr : setT l t = (cancelT l t.peer t.kind).take (posT t (cancelT l t.peer t.kind)) ++ [t] ++ (cancelT l t.peer t.kind).drop (posT t (cancelT l t.peer t.kind)) := rfl
  rw [hr]
  generalize cancelT l t.peer t.kind = r at *
  have hp := posT_le t r
  simp
  refine LpS.rng (posT t r) (fun _ => True) [3, 4, 5, 6] (fun i => [(6, .int .i64 i)]) (fun i => []) [.keep [3, 4, 5, 6]] ?_
  simp
  refine ⟨fun i hi K hK => ?_, fun K => ?_⟩
  · have hl : i < r.length := by omega
    have hx : r[i]? = some r[i] := List.getElem?_eq_getElem hl
    have hn := posT_lt t r i hl hi
    simp [F.burrowref14_Setl0, hx, hl]
    refine callT.ret (burrowref14_LessTimer t r[i]) (by simp) (by simp) (by simp) ?_
    simp [hn, wrapi hl (by omega)]
    refine ⟨[.keep [3, 4, 5, 6]], ?_⟩
    simp
    exact hK _ (by simp)
  · by_cases hq : posT t r < r.length
    · have hx : r[posT t r]? = some r[posT t r] := List.getElem?_eq_getElem hq
      have hn := posT_at t r hq
      simp [F.burrowref14_Setl0, hx, hq]
      refine callT.ret (burrowref14_LessTimer t r[posT t r]) (by simp) (by simp) (by simp) ?_
      simp [hn]
      simp [F.burrowref14_Setc1, encTs]
      refine DrS.run [33, 38] rfl ?_
      simp [hp]
      have hmin : min (1 + (r.length - posT t r)) (r.length - posT t r + 1) = 1 + (r.length - posT t r) := by omega
      rw [hmin]
      refine ⟨⟨by omega, by omega⟩, ⟨by omega, by omega⟩, ⟨by omega, by omega⟩, ?_⟩
      refine RetS.plain [.keep [4], .dr 33, .fz 38, .wk 4] ?_
      have h1 : min (posT t r) r.length = posT t r := by omega
      have h2 : r.length - posT t r + 1 = 1 + (r.length - posT t r) := by omega
      simp [refsEnv, refsBx, refsOk, refsOkB, refsOkL, h1, h2, List.take_of_length_le]
    · simp [F.burrowref14_Setl0, hq]
      simp [F.burrowref14_Setc1, encTs]
      refine DrS.run [33, 38] rfl ?_
      simp [hp]
      have hmin : min (1 + (r.length - posT t r)) (r.length - posT t r + 1) = 1 + (r.length - posT t r) := by omega
      rw [hmin]
      refine ⟨⟨by omega, by omega⟩, ⟨by omega, by omega⟩, ⟨by omega, by omega⟩, ?_⟩
      refine RetS.plain [.keep [4], .dr 33, .fz 38, .wk 4] ?_
      have h1 : min (posT t r) r.length = posT t r := by omega
      have h2 : r.length - posT t r + 1 = 1 + (r.length - posT t r) := by omega
      simp [refsEnv, refsBx, refsOk, refsOkB, refsOkL, h1, h2, List.take_of_length_le]
end Go.Ab
