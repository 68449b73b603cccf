/- Bytes, keys and rules from a short list of numbers: burrowcase. No condition. -/
import Derived.Test.YtilndiilinoeiaaE1
import Derived.Test.YtilndiilinoeiaaA5
set_option linter.all false
namespace Go.Ab
open Go.Ab

theorem wrapi {i n : Nat} (h : i < n) (hn : n ≤ 1048576) : IntKind.i64.wrap ((i : Int) + 1) = (i : Int) + 1 := wrap_i64 (by omega)
theorem u8_wrap (m : Int) : ∃ b : UInt8, PV.int .u8 (IntKind.u8.wrap m) = u8 b := by
  have h : 0 ≤ IntKind.u8.wrap m ∧ IntKind.u8.wrap m < 256 := by
    simp only [IntKind.wrap, IntKind.bits, IntKind.signed]; simp; omega
  refine ⟨UInt8.ofNat (IntKind.u8.wrap m).toNat, ?_⟩
  simp only [u8]
  congr 1
  rw [UInt8.toNat_ofNat']
  omega

@[simp] theorem u8_width (b : UInt8) : (u8 b).width = 1 := _root_.id rfl
@[simp] theorem u8_cell (b : UInt8) : (u8 b).cellular = true := _root_.id rfl
def mixB (f : Nat → UInt8) (n i : Nat) : List UInt8 := (List.range n).map fun j => if j < i then f j else 0
@[simp] theorem mixB_length (f : Nat → UInt8) (n i : Nat) : (mixB f n i).length = n := by simp [mixB]
theorem mixB_zero (f : Nat → UInt8) (n : Nat) : List.replicate n (PV.int .u8 0) = (mixB f n 0).map u8 := by
  apply List.ext_getElem <;> simp [mixB, u8]
theorem mixB_set (f : Nat → UInt8) (n i : Nat) : ((mixB f n i).map u8).set i (u8 (f i)) = (mixB f n (i + 1)).map u8 := by
  rw [← List.map_set]
  congr 1
  apply List.ext_getElem
  · simp
  · intro j h1 h2
    simp only [mixB, List.getElem_set, List.getElem_map, List.getElem_range]
    by_cases e : i = j
    · subst e; simp
    · simp only [e, if_false]
      by_cases e2 : j < i
      · rw [if_pos e2, if_pos (by omega)]
      · rw [if_neg e2, if_neg (by omega)]

set_option maxRecDepth 10000 in
set_option maxHeartbeats 1000000 in
theorem Codes_Bytes {c : Cds} (h : CdsOk c) (n : Nat) (hn : n ≤ 1048576) : ACalls Pg I.burrowcase_Codes_Bytes [.pt KB [] 0, .int .i64 n] [.box (encC c)] (fun r fp => ∃ w : List UInt8 × Cds, (CdsOk w.2 ∧ w.1.length = n) ∧ r = encB w.1 ∧ fp = [.box (encC w.2)]) := by
  refine ACalls.intro T.burrowcase_Codes_Bytes (by simp [F.burrowcase_Codes_Bytes]) ?_
  simp [F.burrowcase_Codes_Bytes, argEnv, fpBx]
  refine ⟨⟨by omega, by omega⟩, ?_⟩
  refine callS.cds KB (Codes_Next h 256 (by omega)) (by simp) (by simp [refsOkL, refsOk, inKs, idx]) (by simp [renL, ren, ren1, idx]) (by simp) ?_
  have o1 := nxt_ok h 256
  generalize nxt c 256 = a at *
  simp
  generalize IntKind.i64.wrap (IntKind.i64.wrap (2 * ↑a.snd.at_) + 1) = st
  have hf : ∃ f : Nat → UInt8, ∀ i : Nat, PV.int .u8 (IntKind.u8.wrap (IntKind.i64.wrap ((a.1 : Int) + IntKind.i64.wrap ((i : Int) * st)))) = u8 (f i) :=
    ⟨fun i => Classical.choose (u8_wrap _), fun i => Classical.choose_spec (u8_wrap _)⟩
  obtain ⟨f, hf⟩ := hf
  rw [mixB_zero f]
  refine LpS.rng n (fun _ => True) [0, 4, 5, 6, 7, 20, 21] (fun i => [(21, .int .i64 i)]) (fun i => [(10, .arr 1 ((mixB f n i).map u8))]) [.keep [0, 4, 5, 6, 7, 20, 21]] ?_
  simp
  refine ⟨fun i hi K hK => ?_, fun K => ?_⟩
  · simp [F.burrowcase_Codes_Bytesl0, hi, hf, wrapi hi hn]
    refine ⟨⟨rfl, rfl⟩, [.keep [0, 4, 5, 6, 7, 20, 21]], ?_⟩
    simp
    exact hK _ (by simp [mixB_set])
  · simp [F.burrowcase_Codes_Bytesl0, F.burrowcase_Codes_Bytesc1]
    refine RetS.with [.keep [4], .fz 10] [KB] ?_
    simp [refsOkB, (pure_encC _).refs, renB, (pure_encC _).ren, refsOk, refsOkL]
    exact ⟨mixB f n n, a.2, ⟨o1, by simp⟩, by rw [List.take_of_length_le (by simp)]; rfl, rfl⟩

set_option maxRecDepth 10000 in
theorem Codes_Key {c : Cds} (h : CdsOk c) : ACalls Pg I.burrowcase_Codes_Key [.pt KB [] 0] [.box (encC c)] (fun r fp => ∃ w : Key × Cds, CdsOk w.2 ∧ r = encK w.1 ∧ fp = [.box (encC w.2)]) := by
  refine ACalls.intro T.burrowcase_Codes_Key (by simp [F.burrowcase_Codes_Key]) ?_
  simp [F.burrowcase_Codes_Key, argEnv, fpBx]
  refine DrS.run [KB] rfl ?_
  simp
  refine callS.cdsE KB (Codes_Bytes h 32 (by omega)) (by simp) (by simp [refsOkL, refsOk, inKs, idx]) (by simp [renL, ren, ren1, idx]) (by simp) ?_
  rintro ⟨l, c'⟩ ⟨hc, hl⟩
  simp at hc hl
  have hl2 : l.take 32 = l := List.take_of_length_le (by omega)
  simp [hl, encB]
  have e : PV.ar 1 32 (List.take 32 (List.map u8 l) ++ List.drop 32 (zr 32 (PV.int .u8 0))) = encK ⟨l, hl⟩ := by
    rw [List.take_of_length_le (by simp [hl]), List.drop_of_length_le (by simp [zr])]; simp [encK]
  rw [e]
  refine RetS.with [] [KB] ?_
  simp [refsOkB, (pure_encC _).refs, renB, (pure_encC _).ren, (pure_encK _).refs]
  exact ⟨⟨l, hl⟩, c', hc, rfl, rfl⟩

def RulOk (r : Rul) : Prop := 1 ≤ r.rekm ∧ r.rekm ≤ r.rejm ∧ r.rejm ≤ 18446744073709543423 ∧ 1000 ≤ r.ret ∧ r.ret ≤ 3000 ∧ 2000 ≤ r.kat ∧ r.kat ≤ 6000 ∧ r.cot = 30000 ∧ 20000 ≤ r.rekt ∧ r.rekt ≤ r.rejt ∧ r.rejt ≤ 100000 ∧ r.ret ≤ r.att ∧ r.att ≤ 20 * r.ret ∧ 1 ≤ r.load ∧ r.load ≤ 6 ∧ 1 ≤ r.stage ∧ r.stage ≤ 8

theorem RulOk.mk' {a b c d e f g i j k : Int} (h1 : 1 ≤ a) (h2 : a ≤ b) (h3 : b ≤ 18446744073709543423) (h4 : 1000 ≤ f) (h5 : f ≤ 3000) (h6 : 2000 ≤ g) (h7 : g ≤ 6000) (h8 : 20000 ≤ c) (h9 : c ≤ d) (h10 : d ≤ 100000) (h11 : f ≤ e) (h12 : e ≤ 20 * f) (h13 : 1 ≤ j) (h14 : j ≤ 6) (h15 : 1 ≤ k) (h16 : k ≤ 8) (h17 : i = 30000 := by rfl) : RulOk ⟨a, b, c, d, e, f, g, i, j, k⟩ :=
  ⟨h1, h2, h3, h4, h5, h6, h7, h17, h8, h9, h10, h11, h12, h13, h14, h15, h16⟩

set_option maxRecDepth 10000 in
set_option maxHeartbeats 4000000 in
theorem Codes_Rules {c : Cds} (h : CdsOk c) : ACalls Pg I.burrowcase_Codes_Rules [.pt KB [] 0] [.box (encC c)] (fun r fp => ∃ w : Rul × Cds, (RulOk w.1 ∧ CdsOk w.2) ∧ r = encRu w.1 ∧ fp = [.box (encC w.2)]) := by
  refine ACalls.intro T.burrowcase_Codes_Rules (by simp [F.burrowcase_Codes_Rules]) ?_
  simp [F.burrowcase_Codes_Rules, argEnv, fpBx]
  refine callS.cds KB (Codes_Next h 40 (by omega)) (by simp) (by simp [refsOkL, refsOk, inKs, idx]) (by simp [renL, ren, ren1, idx]) (by simp) ?_
  have l0 := nxt_lt c (n := 40) (by omega)
  have o0 := nxt_ok h 40
  generalize nxt c 40 = x0 at *
  simp (disch := omega)
  refine callS.cds KB (Codes_Next o0 20 (by omega)) (by simp) (by simp [refsOkL, refsOk, inKs, idx]) (by simp [renL, ren, ren1, idx]) (by simp) ?_
  have l1 := nxt_lt x0.2 (n := 20) (by omega)
  have o1 := nxt_ok o0 20
  generalize nxt x0.2 20 = x1 at *
  simp (disch := omega)
  refine callS.cds KB (Codes_Next o1 5 (by omega)) (by simp) (by simp [refsOkL, refsOk, inKs, idx]) (by simp [renL, ren, ren1, idx]) (by simp) ?_
  have l2 := nxt_lt x1.2 (n := 5) (by omega)
  have o2 := nxt_ok o1 5
  generalize nxt x1.2 5 = x2 at *
  simp (disch := omega)
  refine callS.cds KB (Codes_Next o2 5 (by omega)) (by simp) (by simp [refsOkL, refsOk, inKs, idx]) (by simp [renL, ren, ren1, idx]) (by simp) ?_
  have l3 := nxt_lt x2.2 (n := 5) (by omega)
  have o3 := nxt_ok o2 5
  generalize nxt x2.2 5 = x3 at *
  simp (disch := omega)
  refine callS.cds KB (Codes_Next o3 6 (by omega)) (by simp) (by simp [refsOkL, refsOk, inKs, idx]) (by simp [renL, ren, ren1, idx]) (by simp) ?_
  have l4 := nxt_lt x3.2 (n := 6) (by omega)
  have o4 := nxt_ok o3 6
  generalize nxt x3.2 6 = x4 at *
  simp (disch := omega)
  refine callS.cds KB (Codes_Next o4 8 (by omega)) (by simp) (by simp [refsOkL, refsOk, inKs, idx]) (by simp [renL, ren, ren1, idx]) (by simp) ?_
  have l5 := nxt_lt x4.2 (n := 8) (by omega)
  have o5 := nxt_ok o4 8
  generalize nxt x4.2 8 = x5 at *
  simp (disch := omega)
  refine DrS.run [KB] rfl ?_
  simp (disch := omega)
  refine callS.cds KB (Codes_Next o5 60 (by omega)) (by simp) (by simp [refsOkL, refsOk, inKs, idx]) (by simp [renL, ren, ren1, idx]) (by simp) ?_
  have l6 := nxt_lt x5.2 (n := 60) (by omega)
  have o6 := nxt_ok o5 60
  generalize nxt x5.2 60 = x6 at *
  simp (disch := omega)
  refine DrS.run [KB] rfl ?_
  simp (disch := omega)
  refine callS.cds KB (Codes_Next o6 40 (by omega)) (by simp) (by simp [refsOkL, refsOk, inKs, idx]) (by simp [renL, ren, ren1, idx]) (by simp) ?_
  have l7 := nxt_lt x6.2 (n := 40) (by omega)
  have o7 := nxt_ok o6 40
  generalize nxt x6.2 40 = x7 at *
  simp (disch := omega)
  refine DrS.run [KB] rfl ?_
  simp (disch := omega)
  refine callS.cds KB (Codes_Next o7 5 (by omega)) (by simp) (by simp [refsOkL, refsOk, inKs, idx]) (by simp [renL, ren, ren1, idx]) (by simp) ?_
  have l8 := nxt_lt x7.2 (n := 5) (by omega)
  have o8 := nxt_ok o7 5
  generalize nxt x7.2 5 = x8 at *
  simp (disch := omega)
  refine callS.cds KB (Codes_Next o8 4 (by omega)) (by simp) (by simp [refsOkL, refsOk, inKs, idx]) (by simp [renL, ren, ren1, idx]) (by simp) ?_
  have l9 := nxt_lt x8.2 (n := 4) (by omega)
  have o9 := nxt_ok o8 4
  generalize nxt x8.2 4 = x9 at *
  simp (disch := omega)
  have hP : ∃ Q : Int, IntKind.i64.wrap ((1000 + (x2.1 : Int) * 500) * (1 + (x8.1 : Int))) = Q ∧ 1000 + (x2.1 : Int) * 500 ≤ Q ∧ Q ≤ 20 * (1000 + (x2.1 : Int) * 500) := by
    have hc : x8.1 = 0 ∨ x8.1 = 1 ∨ x8.1 = 2 ∨ x8.1 = 3 ∨ x8.1 = 4 := by omega
    rcases hc with h | h | h | h | h <;> rw [h]
    · exact ⟨_, wrap_i64 (by omega), by omega, by omega⟩
    · exact ⟨_, wrap_i64 (by omega), by omega, by omega⟩
    · exact ⟨_, wrap_i64 (by omega), by omega, by omega⟩
    · exact ⟨_, wrap_i64 (by omega), by omega, by omega⟩
    · exact ⟨_, wrap_i64 (by omega), by omega, by omega⟩
  obtain ⟨Q, hQ, hQ1, hQ2⟩ := hP
  rw [hQ]
  refine ⟨fun hz => ?_, fun hz => ?_⟩
  · refine RetS.with [] [KB] ?_
    simp [refsOkB, (pure_encC _).refs, renB, (pure_encC _).ren, refsOk, refsOkL]
    exact ⟨⟨1152921504606846976, 18446744073709543423, 20000 + (x1.1 : Int) * 1000, 20000 + (x1.1 : Int) * 1000 + (x7.1 : Int) * 1000, Q, 1000 + (x2.1 : Int) * 500, 2000 + (x3.1 : Int) * 1000, 30000, 1 + (x4.1 : Int), 1 + (x5.1 : Int)⟩, x9.2, ⟨RulOk.mk' (by omega) (by omega) (by omega) (by omega) (by omega) (by omega) (by omega) (by omega) (by omega) (by omega) (by omega) (by omega) (by omega) (by omega) (by omega) (by omega), o9⟩, rfl, rfl⟩
  · refine RetS.with [] [KB] ?_
    simp [refsOkB, (pure_encC _).refs, renB, (pure_encC _).ren, refsOk, refsOkL]
    exact ⟨⟨1 + (x0.1 : Int), 1 + (x0.1 : Int) + (x6.1 : Int), 20000 + (x1.1 : Int) * 1000, 20000 + (x1.1 : Int) * 1000 + (x7.1 : Int) * 1000, Q, 1000 + (x2.1 : Int) * 500, 2000 + (x3.1 : Int) * 1000, 30000, 1 + (x4.1 : Int), 1 + (x5.1 : Int)⟩, x9.2, ⟨RulOk.mk' (by omega) (by omega) (by omega) (by omega) (by omega) (by omega) (by omega) (by omega) (by omega) (by omega) (by omega) (by omega) (by omega) (by omega) (by omega) (by omega), o9⟩, rfl, rfl⟩
end Go.Ab
