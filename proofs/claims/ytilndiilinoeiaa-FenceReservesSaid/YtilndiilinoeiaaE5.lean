/- Routes of made daemons: burrowref14.InsertRoute. Conditions: the new prefix 10.n.0.0/16 lies behind all others. -/
import Derived.Test.YtilndiilinoeiaaE4
set_option linter.all false
namespace Go.Ab
open Go.Ab
def pfxA (n : UInt8) : Pfx := ⟨hostA n 0, 16⟩
theorem hostA_len (n h : UInt8) : (hostA n h).ip.length = 16 := rfl
theorem hostA_less {n m : UInt8} (h : n < m) : Op.bytesLess (hostA n 0).ip (hostA m 0).ip = true := by
  have h' : ¬ m < n := fun e => absurd (UInt8.lt_iff_toNat_lt.1 e) (by have := UInt8.lt_iff_toNat_lt.1 h; omega)
  simp [hostA, Op.bytesLess, h, h']
theorem hostA_nless {n m : UInt8} (h : n < m) : Op.bytesLess (hostA m 0).ip (hostA n 0).ip = false := by
  have h' : ¬ m < n := fun e => absurd (UInt8.lt_iff_toNat_lt.1 e) (by have := UInt8.lt_iff_toNat_lt.1 h; omega)
  simp [hostA, Op.bytesLess, h, h']
theorem burrowref09_Less (a b : Adr) (h1 : a.six = false) (h2 : b.six = false) : ARet Pg I.burrowref09_Less [encA a, encA b] (.bl (Op.bytesLess a.ip b.ip)) := by
  refine ACalls.intro T.burrowref09_Less (by simp [F.burrowref09_Less]) ?_
  have ta : (a.ip.map u8).take 16 = a.ip.map u8 := List.take_of_length_le (by simp [a.h])
  have tb : (b.ip.map u8).take 16 = b.ip.map u8 := List.take_of_length_le (by simp [b.h])
  simp [F.burrowref09_Less, argEnv, fpBx, h1, h2, ta, tb]
  refine RetS.plain [] ?_
  simp
theorem beq_A {n m : UInt8} (h : n ≠ m) : PV.beq (encA (hostA n 0)) (encA (hostA m 0)) = false := by
  have : ¬ (n.toNat = m.toNat) := fun e => h (UInt8.toNat_inj.1 e)
  simp [encA, hostA, PV.beq, PV.beqL, u8, this]
  intro e; omega
theorem burrowref14_before {n m : UInt8} (h : n ≠ m) : ARet Pg I.burrowref14_before [encX (pfxA n), encX (pfxA m)] (.bl (Op.bytesLess (hostA n 0).ip (hostA m 0).ip)) := by
  refine ACalls.intro T.burrowref14_before (by simp [F.burrowref14_before]) ?_
  simp [F.burrowref14_before, argEnv, fpBx, pfxA, beq_A h]
  refine callS.ret (burrowref09_Less (hostA n 0) (hostA m 0) rfl rfl) (by simp) (by simp) (by simp) ?_
  simp
  refine RetS.plain [] ?_
  simp

theorem beq_X {n m : UInt8} (h : n ≠ m) : PV.beq (encX (pfxA n)) (encX (pfxA m)) = false := by
  simp [encX, pfxA, PV.beq, PV.beqL, beq_A h]
set_option maxRecDepth 10000 in
set_option maxHeartbeats 1000000 in
theorem burrowref14_InsertRoute {l : List Rte} {n : UInt8} (h : ∀ r ∈ l, ∃ m, m < n ∧ r.pfx = pfxA m) (hl : l.length < 16) (k : Key) : ARet Pg I.burrowref14_InsertRoute [encRts l, encX (pfxA n), encK k] (.tup [encRts (l ++ [⟨pfxA n, k⟩]), .int .i64 0]) := by
  refine ACalls.intro T.burrowref14_InsertRoute (by simp [F.burrowref14_InsertRoute]) ?_
  simp [F.burrowref14_InsertRoute, argEnv, fpBx]
  refine callS.ret (burrowref09_Valid (hostA_z n) rfl) (by simp [pfxA]) (by simp) (by simp) ?_
  simp (disch := omega) [encRts]
  refine ⟨⟨by omega, by omega⟩, ?_⟩
  refine LpS.rng l.length (fun _ => True) [0, 4, 5, 6, 7, 8, 17, 18] (fun i => [(18, .int .i64 i)]) (fun i => []) [.keep [0, 4, 5, 6, 7, 8, 17, 18]] ?_
  simp
  refine ⟨fun i hi K hK => ?_, fun K => ?_⟩
  · have hx : l[i]? = some l[i] := List.getElem?_eq_getElem hi
    obtain ⟨m, hm, he⟩ := h _ (List.getElem_mem hi)
    have hb : (encX (pfxA m)).beq (encX (pfxA n)) = false := beq_X (UInt8.ne_of_lt hm)
    have hw : IntKind.i64.wrap ((i : Int) + 1) = (i : Int) + 1 := wrap_i64 (by omega)
    simp [F.burrowref14_InsertRoutel0, hx, hi, he, hb, hw]
    refine ⟨[.keep [0, 4, 5, 6, 7, 8, 17, 18]], ?_⟩
    simp
    exact hK _ (by simp)
  · have hl' : ¬ (16 : Int) ≤ l.length := by omega
    simp [F.burrowref14_InsertRoutel0, F.burrowref14_InsertRoutec3, hl']
    refine LpS.rng l.length (fun _ => True) [0, 4, 5, 6, 7, 8, 10] (fun i => [(10, .int .i64 i)]) (fun i => []) [.keep [0, 4, 5, 6, 7, 8, 10]] ?_
    simp
    refine ⟨fun i hi K hK => ?_, fun K => ?_⟩
    · have hx : l[i]? = some l[i] := List.getElem?_eq_getElem hi
      obtain ⟨m, hm, he⟩ := h _ (List.getElem_mem hi)
      have hw : IntKind.i64.wrap ((i : Int) + 1) = (i : Int) + 1 := wrap_i64 (by omega)
      have hb := burrowref14_before (n := n) (m := m) (fun e => UInt8.ne_of_lt hm e.symm)
      rw [hostA_nless hm] at hb
      simp [F.burrowref14_InsertRoutel1, hx, hi, he, hw]
      refine callT.ret hb (by simp) (by simp) (by simp) ?_
      simp [hw]
      refine ⟨[.keep [0, 4, 5, 6, 7, 8, 10]], ?_⟩
      simp
      exact hK _ (by simp)
    · simp [F.burrowref14_InsertRoutel1, F.burrowref14_InsertRoutec2]
      refine DrS.run [61, 66] rfl ?_
      simp
      refine ⟨⟨by omega, by omega⟩, ?_⟩
      refine RetS.plain [.keep [6, 7], .dr 61, .dr 15, .fz 66, .wk 6] ?_
      simp [refsEnv, refsBx, refsOk, refsOkB, refsOkL, encRts, encRt]
end Go.Ab
