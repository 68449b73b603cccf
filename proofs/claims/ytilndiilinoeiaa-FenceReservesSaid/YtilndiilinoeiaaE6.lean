/- Indices of made daemons: burrowref14.FindSlot, Take, DropSlot, ValidSlots; burrowref24.find; burrowmake.Peer, At. Conditions: lengths up to 2^20. -/
import Derived.Test.YtilndiilinoeiaaE5
set_option linter.all false
namespace Go.Ab
open Go.Ab
def zK : Key := ⟨List.replicate 32 0, rfl⟩
def zSl : Slt := ⟨0, zK, false⟩
set_option maxRecDepth 10000 in
theorem FindSlot_no {l : List Slt} (hl : l.length ≤ 1048576) {x : Int} (h : ∀ s ∈ l, s.index ≠ x) : ARet Pg I.burrowref14_FindSlot [encSls l, .int .u32 x] (.tup [encSl zSl, .bl false]) := by
  refine ACalls.intro T.burrowref14_FindSlot (by simp [F.burrowref14_FindSlot]) ?_
  simp [F.burrowref14_FindSlot, argEnv, fpBx]
  refine LpS.rng l.length (fun _ => True) [1, 4, 5, 8, 9, 10] (fun i => [(10, .int .i64 i)]) (fun i => []) [.keep [1, 4, 5, 8, 9, 10]] ?_
  simp
  refine ⟨fun i hi K hK => ?_, fun K => ?_⟩
  · have hx : l[i]? = some l[i] := List.getElem?_eq_getElem hi
    have he := h _ (List.getElem_mem hi)
    simp [F.burrowref14_FindSlotl0, hx, hi, he, wrapi hi hl]
    refine ⟨[.keep [1, 4, 5, 8, 9, 10], .dr 7], ?_⟩
    simp
    exact hK _ (by simp)
  · simp [F.burrowref14_FindSlotl0, F.burrowref14_FindSlotc1]
    refine RetS.plain [] ?_
    simp [encSl, zSl, zK, encK, zr, u8]
set_option maxRecDepth 10000 in
theorem FindSlot_yes {l : List Slt} (hl : l.length ≤ 1048576) {x : Int} {f : Nat} (hf : f < l.length) (he : l[f].index = x) (h : ∀ j (hj : j < l.length), j < f → l[j].index ≠ x) : ARet Pg I.burrowref14_FindSlot [encSls l, .int .u32 x] (.tup [encSl l[f], .bl true]) := by
  refine ACalls.intro T.burrowref14_FindSlot (by simp [F.burrowref14_FindSlot]) ?_
  simp [F.burrowref14_FindSlot, argEnv, fpBx]
  refine LpS.rng f (fun _ => True) [1, 4, 5, 8, 9, 10] (fun i => [(10, .int .i64 i)]) (fun i => []) [.keep [1, 4, 5, 8, 9, 10]] ?_
  simp
  refine ⟨fun i hi K hK => ?_, fun K => ?_⟩
  · have hi2 : i < l.length := by omega
    have hx : l[i]? = some l[i] := List.getElem?_eq_getElem hi2
    have he := h i hi2 hi
    simp [F.burrowref14_FindSlotl0, hx, hi2, he, wrapi hi2 hl]
    refine ⟨[.keep [1, 4, 5, 8, 9, 10], .dr 7], ?_⟩
    simp
    exact hK _ (by simp)
  · have hx : l[f]? = some l[f] := List.getElem?_eq_getElem hf
    simp [F.burrowref14_FindSlotl0, hx, hf, he]
    refine RetS.plain [] ?_
    simp
def neS (x : Int) (s : Slt) : Bool := decide (s.index ≠ x)
set_option maxRecDepth 10000 in
set_option maxHeartbeats 1000000 in
theorem DropSlot {l : List Slt} (h : l.length ≤ 1048576) (x : Int) : ARet Pg I.burrowref14_DropSlot [encSls l, .int .u32 x] (encSls (l.filter (neS x))) := by
  refine ACalls.intro T.burrowref14_DropSlot (by simp [F.burrowref14_DropSlot]) ?_
  simp [F.burrowref14_DropSlot, argEnv, fpBx, encSls]
  refine LpS.rng l.length (fun _ => True) [1, 4, 5, 8, 9, 10] (fun i => [(5, .rs 5 [] 0 ((l.take i).filter (neS x)).length ((l.take i).filter (neS x)).length 34 .tip), (10, .int .i64 i)]) (fun i => [(5, .arr 34 (((l.take i).filter (neS x)).map encSl))]) [.vt 5 5 34] ?_
  simp
  refine ⟨fun i hi K hK => ?_, fun K => ?_⟩
  · have hx : l[i]? = some l[i] := List.getElem?_eq_getElem hi
    have hlen := filter_take_le (neS x) l i
    rw [filter_succ _ hi] at hK
    generalize (l.take i).filter (neS x) = out at *
    by_cases h1 : l[i].index = x
    · simp [F.burrowref14_DropSlotl0, hx, hi, h1, wrapi hi h]
      refine ⟨[.keep [1, 4, 5, 8, 9, 10], .dr 7], ?_⟩
      simp [refsEnv, refsBx, refsOk, refsOkB]
      exact hK _ (by simp [neS, h1])
    · simp [F.burrowref14_DropSlotl0, hx, hi, h1, wrapi hi h]
      refine ⟨⟨by omega, by omega⟩, [.keep [1, 4, 5, 8, 9, 10], .dr 7], ?_⟩
      simp [refsEnv, refsBx, refsOk, refsOkB]
      exact hK _ (by simp [neS, h1])
  · simp [F.burrowref14_DropSlotl0, F.burrowref14_DropSlotc1]
    refine RetS.plain [.keep [4], .fz 5, .wk 4] ?_
    simp
set_option maxRecDepth 10000 in
theorem find_yes {d : Dmn} (hl : d.peers.length ≤ 1048576) {k : Key} {f : Nat} (hf : f < d.peers.length) (he : d.peers[f].pub = k) (h : ∀ j (hj : j < d.peers.length), j < f → d.peers[j].pub ≠ k) : ARet Pg I.burrowref24_find [encD d, encK k] (.int .i64 f) := by
  refine ACalls.intro T.burrowref24_find (by simp [F.burrowref24_find]) ?_
  simp [F.burrowref24_find, argEnv, fpBx]
  refine LpS.rng f (fun _ => True) [2, 3, 4, 8, 9, 10] (fun i => [(10, .int .i64 i)]) (fun i => []) [.keep [2, 3, 4, 8, 9, 10]] ?_
  simp
  refine ⟨fun i hi K hK => ?_, fun K => ?_⟩
  · have hi2 : i < d.peers.length := by omega
    have hx : d.peers[i]? = some d.peers[i] := List.getElem?_eq_getElem hi2
    have he := h i hi2 hi
    simp [F.burrowref24_findl0, hx, hi2, he, beq_K, wrapi hi2 hl]
    refine ⟨[.keep [2, 3, 4, 8, 9, 10], .dr 6], ?_⟩
    simp
    exact hK _ (by simp)
  · have hx : d.peers[f]? = some d.peers[f] := List.getElem?_eq_getElem hf
    simp [F.burrowref24_findl0, hx, hf, he, beq_K]
    refine RetS.plain [] ?_
    simp
/-- the key of peer i -/
def kOf (i : Nat) : Key := ⟨[UInt8.ofNat (40 * (i + 1)), 9, 7] ++ List.replicate 29 0, rfl⟩
theorem burrowmake_Peer {i : Nat} (h : i < 3) : ARet Pg I.burrowmake_Peer [.int .i64 i] (encK (kOf i)) := by
  refine ACalls.intro T.burrowmake_Peer (by simp [F.burrowmake_Peer]) ?_
  have hw : IntKind.i64.wrap ((i : Int) + 1) = (i : Int) + 1 := wrap_i64 (by omega)
  have hw2 : IntKind.i64.wrap (40 * ((i : Int) + 1)) = 40 * ((i : Int) + 1) := wrap_i64 (by omega)
  have hw3 : IntKind.u8.wrap (40 * ((i : Int) + 1)) = 40 * ((i : Int) + 1) := wrap_u8 (by omega)
  simp [F.burrowmake_Peer, argEnv, fpBx, zr, List.replicate, hw, hw2, hw3]
  refine RetS.plain [] ?_
  have h40 : (UInt8.ofNat (40 * (i + 1))).toNat = 40 * (i + 1) := by simp [UInt8.toNat_ofNat]; omega
  simp [encK, kOf, u8, h40, List.replicate]
  omega
def atOf (i : Nat) : Epn := ⟨⟨false, [192, 0, 2, UInt8.ofNat (i + 1), 0, 0, 0, 0, 0, 0, 0, 0, 0, 0, 0, 0], rfl⟩, 1000 + i⟩
theorem burrowmake_At {i : Nat} (h : i < 3) : ARet Pg I.burrowmake_At [.int .i64 i] (encE (atOf i)) := by
  refine ACalls.intro T.burrowmake_At (by simp [F.burrowmake_At]) ?_
  have hw : IntKind.i64.wrap ((i : Int) + 1) = (i : Int) + 1 := wrap_i64 (by omega)
  have hw2 : IntKind.i64.wrap (1000 + (i : Int)) = 1000 + (i : Int) := wrap_i64 (by omega)
  have hw3 : IntKind.u8.wrap ((i : Int) + 1) = (i : Int) + 1 := wrap_u8 (by omega)
  simp [F.burrowmake_At, argEnv, fpBx, zr, List.replicate, hw, hw2, hw3]
  refine RetS.plain [] ?_
  have h40 : (UInt8.ofNat (i + 1)).toNat = i + 1 := by simp [UInt8.toNat_ofNat]; omega
  simp [encE, encA, atOf, u8, h40, List.replicate]
  omega
/-- where an index belongs -/
def posS (x : Int) : List Slt → Nat
  | [] => 0
  | s :: r => if s.index < x then posS x r + 1 else 0
def putS (l : List Slt) (s : Slt) : List Slt := l.take (posS s.index l) ++ [s] ++ l.drop (posS s.index l)
theorem posS_le (x : Int) : ∀ l, posS x l ≤ l.length
  | [] => Nat.le_refl _
  | s :: r => by simp only [posS]; split <;> simp; exact posS_le x r
theorem posS_lt (x : Int) : ∀ (l : List Slt) (i : Nat) (h : i < l.length), i < posS x l → l[i].index < x
  | s :: r, 0, h, hi => by simp only [posS] at hi; split at hi <;> simp_all
  | s :: r, i + 1, h, hi => by
    simp only [posS] at hi
    split at hi
    · simpa using posS_lt x r i (by simpa using h) (by omega)
    · omega
theorem posS_at (x : Int) : ∀ (l : List Slt) (h : posS x l < l.length), ¬ l[posS x l].index < x
  | [], h => by simp at h
  | s :: r, h => by
    simp only [posS] at h ⊢
    by_cases hx : s.index < x
    · simp only [hx, if_true] at h ⊢
      simpa using posS_at x r (by simpa using h)
    · simp [hx]
set_option maxRecDepth 10000 in
set_option maxHeartbeats 1000000 in
theorem Take {l : List Slt} (hl : l.length < 32) {x : Int} (hx1 : 1 ≤ x) (h : ∀ s ∈ l, s.index ≠ x) (k : Key) (b : Bool) : ARet Pg I.burrowref14_Take [encSls l, .int .u32 x, encK k, .bl b] (.tup [encSls (putS l ⟨x, k, b⟩), .int .u32 x, .int .i64 0]) := by
  refine ACalls.intro T.burrowref14_Take (by simp [F.burrowref14_Take]) ?_
  have hl' : ¬ (32 : Int) ≤ l.length := by omega
  have hm : max x 1 = x := by omega
  simp [F.burrowref14_Take, argEnv, fpBx, hl', hm]
  refine LpS.rng 0 (fun _ => True) [0, 1, 2, 3, 6, 8, 9, 10, 11] (fun i => []) (fun i => []) [.keep [0, 1, 2, 3, 6, 8, 9, 10, 11]] ?_
  simp
  intro K
  simp [F.burrowref14_Takel0]
  refine callS.ret (FindSlot_no (by omega) h) (by simp) (by simp) (by simp) ?_
  simp [F.burrowref14_Takec3]
  have hp := posS_le x l
  have hr : putS l ⟨x, k, b⟩ = l.take (posS x l) ++ [⟨x, k, b⟩] ++ l.drop (posS x l) := rfl
  refine LpS.rng (posS x l) (fun _ => True) [0, 3, 6, 8, 9, 10, 11, 14] (fun i => [(14, .int .i64 i)]) (fun i => []) [.keep [0, 3, 6, 8, 9, 10, 11, 14], .dr 12] ?_
  simp
  refine ⟨fun i hi K hK => ?_, fun K => ?_⟩
  · have hi2 : i < l.length := by omega
    have hx : l[i]? = some l[i] := List.getElem?_eq_getElem hi2
    have he := posS_lt x l i hi2 hi
    simp [F.burrowref14_Takel1, hx, hi2, he, wrapi hi2 (by omega)]
    refine ⟨[.keep [0, 3, 6, 8, 9, 10, 11, 14]], ?_⟩
    simp
    exact hK _ (by simp)
  · by_cases hq : posS x l < l.length
    · have hx : l[posS x l]? = some l[posS x l] := List.getElem?_eq_getElem hq
      have he := posS_at x l hq
      simp [F.burrowref14_Takel1, F.burrowref14_Takec2, hx, hq, he, encSls, hp]
      refine ⟨⟨by omega, by omega⟩, ⟨by omega, by omega⟩, ⟨by omega, by omega⟩, ?_⟩
      refine RetS.plain [.keep [8, 9, 10], .fz 50, .wk 8] ?_
      have h1 : min (posS x l) l.length = posS x l := by omega
      have h2 : posS x l + (l.length - posS x l + 1) = posS x l + 1 + (l.length - posS x l) := by omega
      simp [refsEnv, refsBx, refsOk, refsOkB, refsOkL, h1, h2, List.take_of_length_le, hr, encSl]
    · simp [F.burrowref14_Takel1, F.burrowref14_Takec2, hq, encSls, hp]
      refine ⟨⟨by omega, by omega⟩, ⟨by omega, by omega⟩, ⟨by omega, by omega⟩, ?_⟩
      refine RetS.plain [.keep [8, 9, 10], .fz 50, .wk 8] ?_
      have h1 : min (posS x l) l.length = posS x l := by omega
      have h2 : posS x l + (l.length - posS x l + 1) = posS x l + 1 + (l.length - posS x l) := by omega
      simp [refsEnv, refsBx, refsOk, refsOkB, refsOkL, h1, h2, List.take_of_length_le, hr, encSl]
/-- the indices ascend, none is 0 -/
def SortS (l : List Slt) : Prop := (∀ (i : Nat) (h : i < l.length), l[i].index ≠ 0) ∧ ∀ (i : Nat) (h : i + 1 < l.length), l[i].index < l[i + 1].index
set_option maxRecDepth 10000 in
theorem ValidSlots {l : List Slt} (hl : l.length ≤ 32) (h : SortS l) : ARet Pg I.burrowref14_ValidSlots [encSls l] (.bl true) := by
  refine ACalls.intro T.burrowref14_ValidSlots (by simp [F.burrowref14_ValidSlots]) ?_
  simp [F.burrowref14_ValidSlots, argEnv, fpBx]
  refine LpS.rng l.length (fun _ => True) [0, 2, 5, 6, 7] (fun i => [(7, .int .i64 i)]) (fun i => []) [.keep [0, 2, 5, 6, 7]] ?_
  simp
  refine ⟨fun i hi K hK => ?_, fun K => ?_⟩
  · have hx : l[i]? = some l[i] := List.getElem?_eq_getElem hi
    have h0 := h.1 i hi
    by_cases hz : i = 0
    · subst hz
      simp [F.burrowref14_ValidSlotsl0, hx, hi, h0]
      refine ⟨[.keep [0, 2, 5, 6, 7], .dr 4], ?_⟩
      simp
      exact hK _ (by simp)
    · obtain ⟨j, hji⟩ : ∃ j, i = j + 1 := ⟨i - 1, by omega⟩
      have hj : j < l.length := by omega
      have hy : l[j]? = some l[j] := List.getElem?_eq_getElem hj
      have hlt := h.2 j (by omega)
      have hnl : ¬ l[i].index ≤ l[j].index := by subst hji; omega
      have hw : IntKind.i64.wrap ((i : Int) - 1) = j := by rw [wrap_i64 (by omega)]; omega
      simp [F.burrowref14_ValidSlotsl0, hx, hy, hi, hj, h0, hw, hnl, show 0 < i by omega, wrapi hi (by omega)]
      refine ⟨[.keep [0, 2, 5, 6, 7], .dr 4], ?_⟩
      simp
      exact hK _ (by simp)
  · simp [F.burrowref14_ValidSlotsl0, F.burrowref14_ValidSlotsc1]
    refine RetS.plain [] ?_
    simp [hl]
    omega
end Go.Ab
