/- Prefixes of made daemons: burrowcase.Host, Masked; burrowref09.Sound, Valid. No condition. -/
import Derived.Test.YtilndiilinoeiaaE3
import Derived.Laws.BitsAllLaws
set_option linter.all false
namespace Go.Ab
open Go.Ab
theorem wrap_u8n {n : Nat} (h : n < 2 ^ 8) : IntKind.u8.wrap (n : Int) = (n : Int) := wrap_u8 (by omega)
/-- the address 10.net.0.host -/
def hostA (net host : UInt8) : Adr := ⟨false, [10, net, 0, host, 0, 0, 0, 0, 0, 0, 0, 0, 0, 0, 0, 0], rfl⟩
theorem burrowcase_Host (n h : UInt8) : ARet Pg I.burrowcase_Host [.int .i64 (n.toNat : Int), .int .i64 (h.toNat : Int)] (encA (hostA n h)) := by
  refine ACalls.intro T.burrowcase_Host (by simp [F.burrowcase_Host]) ?_
  have h1 := n.toNat_lt
  have h2 := h.toNat_lt
  simp [F.burrowcase_Host, argEnv, fpBx, zr, List.replicate, wrap_u8n h1, wrap_u8n h2]
  refine RetS.plain [] ?_
  simp [encA, hostA, u8]

/-- all bytes from k on are zero -/
def ZFrom (a : Adr) (k : Nat) : Prop := ∀ j, k ≤ j → j < 16 → a.ip[j]? = some 0
theorem hostA_z (n : UInt8) : ZFrom (hostA n 0) 2 := by
  intro j h1 h2
  simp only [hostA]
  rcases (by omega : j = 2 ∨ j = 3 ∨ j = 4 ∨ j = 5 ∨ j = 6 ∨ j = 7 ∨ j = 8 ∨ j = 9 ∨ j = 10 ∨ j = 11 ∨ j = 12 ∨ j = 13 ∨ j = 14 ∨ j = 15) with rfl | rfl | rfl | rfl | rfl | rfl | rfl | rfl | rfl | rfl | rfl | rfl | rfl | rfl <;> rfl
theorem ZFrom.mono {a : Adr} {k m : Nat} (h : ZFrom a k) (hk : k ≤ m) : ZFrom a m := fun j h1 h2 => h j (by omega) h2

set_option maxRecDepth 10000 in
theorem burrowref09_Sound {a : Adr} (h : ZFrom a 4) : ARet Pg I.burrowref09_Sound [encA a] (.bl true) := by
  refine ACalls.intro T.burrowref09_Sound (by simp [F.burrowref09_Sound]) ?_
  simp [F.burrowref09_Sound, argEnv, fpBx]
  refine LpS.rng 12 (fun _ => True) [1, 2, 6, 7, 8] (fun i => [(8, .int .i64 i)]) (fun i => []) [.keep [1, 2, 6, 7, 8]] ?_
  simp
  refine ⟨fun i hi K hK => ?_, fun K => ?_⟩
  · have hx : a.ip[4 + i]? = some 0 := h _ (by omega) (by omega)
    have hw : IntKind.i64.wrap ((i : Int) + 1) = (i : Int) + 1 := wrap_i64 (by omega)
    have hi' : (i : Int) < 12 := by omega
    simp [F.burrowref09_Soundl0, hi, hi', hx, hw, u8]
    refine ⟨[.keep [1, 2, 6, 7, 8]], ?_⟩
    simp
    exact hK _ (by simp)
  · simp [F.burrowref09_Soundl0, F.burrowref09_Soundc1]
    refine RetS.plain [] ?_
    simp
theorem burrowref09_width (a : Adr) : ARet Pg I.burrowref09_width [encA a] (.int .i64 (if a.six = true then 128 else 32)) := by
  refine ACalls.intro T.burrowref09_width (by simp [F.burrowref09_width]) ?_
  by_cases h : a.six = true
  · simp [F.burrowref09_width, argEnv, fpBx, h]
    refine RetS.plain [] ?_
    simp
  · simp [F.burrowref09_width, argEnv, fpBx, h]
    refine RetS.plain [] ?_
    simp
theorem div8 (i : Nat) : (i : Int) / 8 = ((i / 8 : Nat) : Int) := by omega
theorem tmod8 (i : Nat) : (i : Int).tmod 8 = ((i % 8 : Nat) : Int) := by rw [show (8 : Int) = ((8 : Nat) : Int) from rfl, ← Int.ofNat_tmod]
theorem fdiv0 (n : Nat) : (0 : Int).fdiv (2 ^ n) = 0 := Int.zero_fdiv _
theorem burrowref09_bit {a : Adr} {k : Nat} (h : ZFrom a k) {i : Nat} (hi : 8 * k ≤ i) (hi2 : i < 128) : ARet Pg I.burrowref09_bit [encA a, .int .i64 (i : Int)] (.int .u8 0) := by
  refine ACalls.intro T.burrowref09_bit (by simp [F.burrowref09_bit]) ?_
  have hx : a.ip[i / 8]? = some 0 := h _ (by omega) (by omega)
  have hw : IntKind.i64.wrap ((i / 8 : Nat) : Int) = ((i / 8 : Nat) : Int) := wrap_i64 (by omega)
  have hw2 : IntKind.i64.wrap (7 - ((i % 8 : Nat) : Int)) = ((7 - i % 8 : Nat) : Int) := by rw [wrap_i64 (by omega)]; omega
  have hd : (i : Int).tdiv 8 = ((i / 8 : Nat) : Int) := by rw [show (8 : Int) = ((8 : Nat) : Int) from rfl, ← Int.ofNat_tdiv]
  have hb : bits .and .u8 0 1 = 0 := rfl
  simp [F.burrowref09_bit, argEnv, fpBx, hx, tmod8, hw, hw2, hd, hb, u8, -Int.natCast_ediv, -Int.natCast_emod,]
  refine ⟨by omega, ?_⟩
  refine RetS.plain [] ?_
  simp
theorem encA_s1_f (a : Adr) : encA_s1 a (.ar 1 16 (a.ip.map u8)) = encA a := rfl
theorem set_same {α : Type} {l : List α} {i : Nat} {x : α} (h : l[i]? = some x) : l.set i x = l := by
  apply List.ext_getElem? ; intro j
  rw [List.getElem?_set]
  split
  · rename_i e; subst e; split
    · exact h.symm
    · rename_i hl; rw [List.getElem?_eq_none (by omega)]
  · rfl
set_option maxRecDepth 10000 in
theorem burrowcase_Masked {a : Adr} (h : ZFrom a 2) : ARet Pg I.burrowcase_Masked [encA a, .int .i64 16] (encX ⟨a, 16⟩) := by
  refine ACalls.intro T.burrowcase_Masked (by simp [F.burrowcase_Masked]) ?_
  simp [F.burrowcase_Masked, argEnv, fpBx]
  refine LpS.rng 112 (fun _ => True) [1, 2, 4, 5] (fun i => [(5, .int .i64 (16 + (i : Int)))]) (fun i => []) [.keep [1, 2, 4, 5]] ?_
  simp
  refine ⟨fun i hi K hK => ?_, fun K => ?_⟩
  · obtain ⟨m, hm⟩ : ∃ m, m = (16 + i) / 8 := ⟨_, rfl⟩
    obtain ⟨t, ht⟩ : ∃ t, t = (16 + i) % 8 := ⟨_, rfl⟩
    have hx : a.ip[m]? = some 0 := h _ (by omega) (by omega)
    have hx2 : (a.ip.map u8)[m]? = some (.int .u8 0) := by simp [hx, u8]
    have hw : IntKind.i64.wrap (16 + (i : Int) + 1) = 16 + ((i : Int) + 1) := by rw [wrap_i64 (by omega)]; omega
    have hd : IntKind.i64.wrap ((16 + (i : Int)).tdiv 8) = (m : Int) := by
      rw [show (16 + (i : Int)) = ((16 + i : Nat) : Int) by omega, show (8 : Int) = ((8 : Nat) : Int) from rfl, ← Int.ofNat_tdiv, hm]; exact wrap_i64 (by omega)
    have ht' : (16 + (i : Int)).tmod 8 = (t : Int) := by
      rw [show (16 + (i : Int)) = ((16 + i : Nat) : Int) by omega, show (8 : Int) = ((8 : Nat) : Int) from rfl, ← Int.ofNat_tmod, ht]
    have hi' : 16 + (i : Int) < 128 := by omega
    have hm' : (m : Int) < 16 := by omega
    have hb : ∀ n : Int, bits .andNot .u8 0 n = 0 := by
      intro n; simp [bits, BitVec.ofInt]
    simp [F.burrowcase_Maskedl0, hi, hi', hx, hx2, hw, hd, ht', hm', hb, u8, encA_s1_f]
    rw [set_same hx2]
    refine ⟨[.keep [1, 2, 4, 5]], ?_⟩
    simp [encA_s1_f]
    exact hK _ (by simp)
  · simp [F.burrowcase_Maskedl0, F.burrowcase_Maskedc1]
    refine RetS.plain [] ?_
    simp [encX]
theorem burrowref09_Valid {a : Adr} (h : ZFrom a 2) (h6 : a.six = false) : ARet Pg I.burrowref09_Valid [encX ⟨a, 16⟩] (.bl true) := by
  refine ACalls.intro T.burrowref09_Valid (by simp [F.burrowref09_Valid]) ?_
  simp [F.burrowref09_Valid, argEnv, fpBx]
  refine callT.ret (burrowref09_Sound (h.mono (by omega))) (by simp) (by simp) (by simp) ?_
  simp
  refine callT.ret (burrowref09_width a) (by simp) (by simp) (by simp) ?_
  simp [h6]
  refine LpS.rng 112 (fun _ => True) [1, 2, 3] (fun i => [(3, .int .i64 (16 + (i : Int)))]) (fun i => []) [.keep [1, 2, 3]] ?_
  simp
  refine ⟨fun i hi K hK => ?_, fun K => ?_⟩
  · have hw : IntKind.i64.wrap (16 + (i : Int) + 1) = 16 + ((i : Int) + 1) := by rw [wrap_i64 (by omega)]; omega
    have hi' : 16 + (i : Int) < 128 := by omega
    have hb := burrowref09_bit h (i := 16 + i) (by omega) (by omega)
    rw [show ((16 + i : Nat) : Int) = 16 + (i : Int) by omega] at hb
    simp [F.burrowref09_Validl0, hi, hi', hw]
    refine callS.ret hb (by simp) (by simp) (by simp) ?_
    simp [hw]
    refine ⟨[.keep [1, 2, 3]], ?_⟩
    simp
    exact hK _ (by simp)
  · simp [F.burrowref09_Validl0, F.burrowref09_Validc1]
    refine RetS.plain [] ?_
    simp
end Go.Ab
