/- Arithmetic of many words; the numbers of the tag. No condition. -/
import Derived.Test.YtdfkcobijmbidaaGreatSF1
import Derived.Test.YtdfkcobijmbidaaGreatSF2
import Derived.Test.YtdfkcobijmbidaaGreatSF3
import Derived.Test.YtdfkcobijmbidaaGreatSF4
import Derived.Test.YtdfkcobijmbidaaGreatA5
import Derived.Laws.Externs
import Derived.Test.YtdfkcobijmbidaaGreatB3
set_option linter.all false
noncomputable section M3s
namespace Go.Ab
open Go.Ab
theorem AllR.three {Γ : Cx} {k : IntKind} {x y c : Int} {vs : List Value} (h : AllR Γ [.int k x, .int k y, .int k c] vs) : vs = [.int k x, .int k y, .int k c] := by
  match vs, h with
  | [a, b, d], h =>
    simp only [AllR] at h
    rw [h.1.int, h.2.1.int, h.2.2.1.int]
  | [], h => simp [AllR] at h
  | [_], h => simp [AllR] at h
  | [_, _], h => simp [AllR] at h
  | _ :: _ :: _ :: _ :: _, h => simp [AllR] at h
theorem ARet.pair {f : FuncId} {x y c a b : Int} (h : ∀ w, (callFunc f #[.int .u64 x, .int .u64 y, .int .u64 c]).run Pg w = .ok (.value (.tuple #[.int .u64 a, .int .u64 b])) w) :
    ARet Pg f [.int .u64 x, .int .u64 y, .int .u64 c] (.tup [.int .u64 a, .int .u64 b]) := by
  intro Γ w vs hw hm hbx hA
  rw [hA.three]
  exact .inr ⟨_, w, h w, _, _, [], Γ, rfl, ⟨rfl, rfl⟩, hw, hm, hbx, ⟨[.int .u64 a, .int .u64 b], rfl, .int _ _ .nil, .int _ _ .nil, trivial⟩, Le.refl Γ, WF.refl w⟩
theorem bits_Add64 (x y c : Int) (hx : 0 ≤ x) (hy : 0 ≤ y) (hc : c = 0 ∨ c = 1) :
    ARet Pg I.math_bits_Add64 [.int .u64 x, .int .u64 y, .int .u64 c] (.tup [.int .u64 ((x + y + c) % 18446744073709551616), .int .u64 ((x + y + c) / 18446744073709551616)]) := by
  refine ARet.pair fun w => ?_
  rw [run_callFunc_extern (fn := (Pg.funcs[I.math_bits_Add64]?).getD default) (by kernel_rfl) (by kernel_rfl) (by kernel_rfl) (by kernel_rfl) (e := add64Entry) (by kernel_rfl), run_add64 x y c hx hy (by omega) (by omega)]
  rfl
def sub64E : Array Value → Sem Value := fun args => do
  let (x, y, b) ← Extern.MathBitsCarry.three "Sub64" args
  pure (Extern.MathBitsCarry.pair ((x + Extern.MathBitsCarry.m64 - y - b) % Extern.MathBitsCarry.m64) (if x < y + b then 1 else 0))
theorem run_sub64E (x y b : Nat) (hb : b ≤ 1) (w : World) :
    (sub64E #[.int .u64 x, .int .u64 y, .int .u64 b]).run Pg w = .ok (.tuple #[.int .u64 (((x + 18446744073709551616 - y - b) % 18446744073709551616 : Nat) : Int), .int .u64 ((if x < y + b then 1 else 0 : Nat) : Int)]) w := by
  have : b = 0 ∨ b = 1 := by omega
  rcases this with rfl | rfl <;> rfl
theorem bits_Sub64 (x y b : Nat) (hb : b ≤ 1) :
    ARet Pg I.math_bits_Sub64 [.int .u64 x, .int .u64 y, .int .u64 b] (.tup [.int .u64 (((x + 18446744073709551616 - y - b) % 18446744073709551616 : Nat) : Int), .int .u64 ((if x < y + b then 1 else 0 : Nat) : Int)]) := by
  refine ARet.pair fun w => ?_
  rw [run_callFunc_extern (fn := (Pg.funcs[I.math_bits_Sub64]?).getD default) (by kernel_rfl) (by kernel_rfl) (by kernel_rfl) (by kernel_rfl) (e := sub64E) (by kernel_rfl), run_sub64E x y b hb]
  rfl
def R64 (n : Int) : Prop := 0 ≤ n ∧ n < 18446744073709551616
theorem R64.wrap (n : Int) : R64 (IntKind.u64.wrap n) := by
  simp only [R64, IntKind.wrap, IntKind.bits, IntKind.signed]
  simp
  omega
def mulHi (x y : Int) : Int := IntKind.u64.wrap
        (IntKind.u64.wrap
            (IntKind.u64.wrap (x.fdiv (2 ^ min 32 IntKind.u64.bits) * y.fdiv (2 ^ min 32 IntKind.u64.bits)) +
              (IntKind.u64.wrap
                    (IntKind.u64.wrap (x.fdiv (2 ^ min 32 IntKind.u64.bits) * bits BinOp.and IntKind.u64 y 4294967295) +
                      (IntKind.u64.wrap
                            (bits BinOp.and IntKind.u64 x 4294967295 * bits BinOp.and IntKind.u64 y 4294967295)).fdiv
                        (2 ^ min 32 IntKind.u64.bits))).fdiv
                (2 ^ min 32 IntKind.u64.bits)) +
          (IntKind.u64.wrap
                (bits BinOp.and IntKind.u64
                    (IntKind.u64.wrap
                      (IntKind.u64.wrap
                          (x.fdiv (2 ^ min 32 IntKind.u64.bits) * bits BinOp.and IntKind.u64 y 4294967295) +
                        (IntKind.u64.wrap
                              (bits BinOp.and IntKind.u64 x 4294967295 * bits BinOp.and IntKind.u64 y 4294967295)).fdiv
                          (2 ^ min 32 IntKind.u64.bits)))
                    4294967295 +
                  IntKind.u64.wrap
                    (bits BinOp.and IntKind.u64 x 4294967295 * y.fdiv (2 ^ min 32 IntKind.u64.bits)))).fdiv
            (2 ^ min 32 IntKind.u64.bits))
def mulLo (x y : Int) : Int := IntKind.u64.wrap (x * y)
theorem R64.hi (x y : Int) : R64 (mulHi x y) := R64.wrap _
theorem R64.lo (x y : Int) : R64 (mulLo x y) := R64.wrap _
set_option maxRecDepth 20000 in
set_option maxHeartbeats 2000000 in
theorem bits_Mul64 (x y : Int) : ARet Pg I.math_bits_Mul64 [.int .u64 x, .int .u64 y] (.tup [.int .u64 (mulHi x y), .int .u64 (mulLo x y)]) := by
  refine ACalls.intro T.math_bits_Mul64 (by simp [F.math_bits_Mul64]) ?_
  simp [F.math_bits_Mul64, argEnv, fpBx]
  refine RetS.plain [] ?_
  simp [mulHi, mulLo]
def eW (x : Int × Int) : PV := .st 2 [.int .u64 x.1, .int .u64 x.2]
def eN (h : Int × Int × Int) : PV := .ar 1 3 [.int .u64 h.1, .int .u64 h.2.1, .int .u64 h.2.2]
@[simp] theorem eW_pure (x : Int × Int) : Pure (eW x) := by simp [eW]
@[simp] theorem eN_pure (x : Int × Int × Int) : Pure (eN x) := by simp [eN]
theorem poly_product (a b : Int) : ARet Pg I.poly_product [.int .u64 a, .int .u64 b] (eW (mulHi a b, mulLo a b)) := by
  refine ACalls.intro T.poly_product (by simp [F.poly_product]) ?_
  simp [F.poly_product, argEnv, fpBx]
  refine callS.ret (bits_Mul64 a b) (by simp) (by simp) (by simp) ?_
  simp
  refine RetS.plain [] ?_
  simp [eW]
def adL (x y c : Int) : Int := (x + y + c) % 18446744073709551616
def adC (x y c : Int) : Int := (x + y + c) / 18446744073709551616
theorem R64.adL (x y c : Int) : R64 (adL x y c) := ⟨Int.emod_nonneg _ (by omega), Int.emod_lt_of_pos _ (by omega)⟩
theorem adC_bit {x y c : Int} (hx : R64 x) (hy : R64 y) (hc : c = 0 ∨ c = 1) : adC x y c = 0 ∨ adC x y c = 1 := by
  obtain ⟨a1, a2⟩ := hx
  obtain ⟨b1, b2⟩ := hy
  unfold adC
  omega
def wPlus (a b : Int × Int) : Int × Int := (adL a.1 b.1 (adC a.2 b.2 0), adL a.2 b.2 0)
def nAdd (h : Int × Int × Int) (x : Int × Int) : Int × Int × Int :=
  (adL h.1 x.2 0, adL h.2.1 x.1 (adC h.1 x.2 0), IntKind.u64.wrap (h.2.2 + adC h.2.1 x.1 (adC h.1 x.2 0)))
theorem bits_Add64' {x y c : Int} (hx : R64 x) (hy : R64 y) (hc : c = 0 ∨ c = 1) : ARet Pg I.math_bits_Add64 [.int .u64 x, .int .u64 y, .int .u64 c] (.tup [.int .u64 (adL x y c), .int .u64 (adC x y c)]) :=
  bits_Add64 x y c hx.1 hy.1 hc
theorem poly_plus {a b : Int × Int} (h1 : R64 a.1) (h2 : R64 a.2) (h3 : R64 b.1) (h4 : R64 b.2) : ARet Pg I.poly_wide_plus [eW a, eW b] (eW (wPlus a b)) := by
  refine ACalls.intro T.poly_wide_plus (by simp [F.poly_wide_plus]) ?_
  simp [F.poly_wide_plus, argEnv, fpBx, eW]
  refine callS.ret (bits_Add64' h2 h4 (.inl rfl)) (by simp) (by simp) (by simp) ?_
  simp
  refine callS.ret (bits_Add64' h1 h3 (adC_bit h2 h4 (.inl rfl))) (by simp) (by simp) (by simp) ?_
  simp
  refine RetS.plain [] ?_
  simp [wPlus]
theorem poly_add {h : Int × Int × Int} {x : Int × Int} (h1 : R64 h.1) (h2 : R64 h.2.1) (h3 : R64 x.1) (h4 : R64 x.2) : ARet Pg I.poly_number_add [eN h, eW x] (eN (nAdd h x)) := by
  refine ACalls.intro T.poly_number_add (by simp [F.poly_number_add]) ?_
  simp [F.poly_number_add, argEnv, fpBx, eW, eN]
  refine callS.ret (bits_Add64' h1 h4 (.inl rfl)) (by simp) (by simp) (by simp) ?_
  simp
  refine callS.ret (bits_Add64' h2 h3 (adC_bit h1 h4 (.inl rfl))) (by simp) (by simp) (by simp) ?_
  simp
  refine RetS.plain [] ?_
  simp [nAdd]
end Go.Ab
end M3s
noncomputable section M4s
namespace Go.Ab
open Go.Ab
def mul2 (a b : Int) : Int × Int := (mulHi a b, mulLo a b)
structure T4 where
  t0 : Int
  t1 : Int
  t2 : Int
  t3 : Int
def t4 (h : Int × Int × Int) (r0 r1 : Int) : T4 :=
  let m0 := mul2 h.1 r0
  let m1 := wPlus (mul2 h.2.1 r0) (mul2 h.1 r1)
  let m2 := wPlus (mul2 h.2.2 r0) (mul2 h.2.1 r1)
  let m3 := mul2 h.2.2 r1
  let c1 := adC m1.2 m0.1 0
  let c2 := adC m2.2 m1.1 c1
  ⟨m0.2, adL m1.2 m0.1 0, adL m2.2 m1.1 c1, adL m3.2 m2.1 c2⟩
def nTimes (h : Int × Int × Int) (r0 r1 : Int) : Int × Int × Int :=
  let t := t4 h r0 r1
  nAdd (nAdd (t.t0, t.t1, bits .and .u64 t.t2 3) (t.t3, bits .andNot .u64 t.t2 3)) (t.t3.fdiv (2 ^ min 2 IntKind.u64.bits), bits .or .u64 (IntKind.u64.wrap (t.t3 * 2 ^ min 62 IntKind.u64.bits)) (t.t2.fdiv (2 ^ min 2 IntKind.u64.bits)))
theorem R64.andNot {a : Int} (h : R64 a) : R64 (bits .andNot .u64 a 3) := by
  rw [u64_andNot a 3 h.1 h.2 (by omega) (by omega)]
  have := Nat.and_le_left (n := a.toNat) (m := 18446744073709551615 - (3 : Int).toNat)
  have := h.2; have := h.1
  constructor <;> omega
theorem R64.or {a b : Int} (h : R64 a) (h' : R64 b) : R64 (bits .or .u64 a b) := by
  rw [u64_or a b h.1 h.2 h'.1 h'.2]
  obtain ⟨h1, h2⟩ := h
  obtain ⟨h3, h4⟩ := h'
  have := Nat.or_lt_two_pow (x := a.toNat) (y := b.toNat) (n := 64) (by omega) (by omega)
  constructor <;> omega
theorem R64.shr {a : Int} (h : R64 a) : R64 (a.fdiv (2 ^ min 2 IntKind.u64.bits)) := by
  have e : (2 : Int) ^ min 2 IntKind.u64.bits = 4 := rfl
  rw [e, Int.fdiv_eq_ediv_of_nonneg _ (by omega)]
  obtain ⟨h1, h2⟩ := h
  constructor <;> omega
theorem nAdd_R (h : Int × Int × Int) (x : Int × Int) : R64 (nAdd h x).1 ∧ R64 (nAdd h x).2.1 ∧ R64 (nAdd h x).2.2 := ⟨R64.adL _ _ _, R64.adL _ _ _, R64.wrap _⟩
set_option maxRecDepth 20000 in
set_option maxHeartbeats 4000000 in
theorem poly_times (h : Int × Int × Int) (r0 r1 : Int) : ARet Pg I.poly_number_times [eN h, .int .u64 r0, .int .u64 r1] (eN (nTimes h r0 r1)) := by
  refine ACalls.intro T.poly_number_times (by simp [F.poly_number_times]) ?_
  simp [F.poly_number_times, argEnv, fpBx, eN]
  refine callS.ret (poly_product h.1 r0) (by simp) (by simp) (by simp) ?_
  simp [eW]
  refine DrS.run [8] rfl ?_
  simp
  refine callT.ret (poly_product h.2.1 r0) (by simp) (by simp) (by simp) ?_
  simp [eW]
  refine callT.ret (poly_product h.1 r1) (by simp) (by simp) (by simp) ?_
  simp [eW]
  refine callT.ret (poly_plus (a := mul2 h.2.1 r0) (b := mul2 h.1 r1) (R64.hi _ _) (R64.lo _ _) (R64.hi _ _) (R64.lo _ _)) (by simp [eW, mul2]) (by simp) (by simp) ?_
  simp [eW]
  refine DrS.run [9] rfl ?_
  simp
  refine callT.ret (poly_product h.2.2 r0) (by simp) (by simp) (by simp) ?_
  simp [eW]
  refine callT.ret (poly_product h.2.1 r1) (by simp) (by simp) (by simp) ?_
  simp [eW]
  refine callT.ret (poly_plus (a := mul2 h.2.2 r0) (b := mul2 h.2.1 r1) (R64.hi _ _) (R64.lo _ _) (R64.hi _ _) (R64.lo _ _)) (by simp [eW, mul2]) (by simp) (by simp) ?_
  simp [eW]
  refine callS.ret (poly_product h.2.2 r1) (by simp) (by simp) (by simp) ?_
  simp [eW]
  have b1 : R64 (mulHi h.1 r0) := R64.hi _ _
  have p1 : R64 (wPlus (mul2 h.2.1 r0) (mul2 h.1 r1)).1 := R64.adL _ _ _
  have p2 : R64 (wPlus (mul2 h.2.1 r0) (mul2 h.1 r1)).2 := R64.adL _ _ _
  have p3 : R64 (wPlus (mul2 h.2.2 r0) (mul2 h.2.1 r1)).1 := R64.adL _ _ _
  have p4 : R64 (wPlus (mul2 h.2.2 r0) (mul2 h.2.1 r1)).2 := R64.adL _ _ _
  have p5 : R64 (mulLo h.2.2 r1) := R64.lo _ _
  refine callS.ret (bits_Add64' p2 b1 (.inl rfl)) (by simp) (by simp) (by simp) ?_
  simp
  have c1 := adC_bit p2 b1 (.inl rfl : (0 : Int) = 0 ∨ (0 : Int) = 1)
  refine callS.ret (bits_Add64' p4 p1 c1) (by simp) (by simp) (by simp) ?_
  simp
  have c2 := adC_bit p4 p1 c1
  refine callS.ret (bits_Add64' p5 p3 c2) (by simp) (by simp) (by simp) ?_
  have z3 : zr 3 (PV.int .u64 0) = [.int .u64 0, .int .u64 0, .int .u64 0] := by rw [zr_eq]; rfl
  simp [z3]
  generalize hT : t4 h r0 r1 = T
  have e0 : mulLo h.1 r0 = T.t0 := by rw [← hT]; rfl
  have e1 : adL (wPlus (mul2 h.2.1 r0) (mul2 h.1 r1)).2 (mulHi h.1 r0) 0 = T.t1 := by rw [← hT]; rfl
  have e2 : adL (wPlus (mul2 h.2.2 r0) (mul2 h.2.1 r1)).2 (wPlus (mul2 h.2.1 r0) (mul2 h.1 r1)).1 (adC (wPlus (mul2 h.2.1 r0) (mul2 h.1 r1)).2 (mulHi h.1 r0) 0) = T.t2 := by rw [← hT]; rfl
  have e3 : adL (mulLo h.2.2 r1) (wPlus (mul2 h.2.2 r0) (mul2 h.2.1 r1)).1 (adC (wPlus (mul2 h.2.2 r0) (mul2 h.2.1 r1)).2 (wPlus (mul2 h.2.1 r0) (mul2 h.1 r1)).1 (adC (wPlus (mul2 h.2.1 r0) (mul2 h.1 r1)).2 (mulHi h.1 r0) 0)) = T.t3 := by rw [← hT]; rfl
  have n0 : R64 T.t0 := by rw [← hT]; exact R64.lo _ _
  have n1 : R64 T.t1 := by rw [← hT]; exact R64.adL _ _ _
  have n2 : R64 T.t2 := by rw [← hT]; exact R64.adL _ _ _
  have n3 : R64 T.t3 := by rw [← hT]; exact R64.adL _ _ _
  rw [e0, e1, e2, e3]
  refine callS.ret (poly_add (h := (T.t0, T.t1, bits .and .u64 T.t2 3)) (x := (T.t3, bits .andNot .u64 T.t2 3)) n0 n1 n3 n2.andNot) (by simp [eN, eW]) (by simp) (by simp) ?_
  simp [eN]
  have hR := nAdd_R (T.t0, T.t1, bits .and .u64 T.t2 3) (T.t3, bits .andNot .u64 T.t2 3)
  generalize hU : nAdd (T.t0, T.t1, bits .and .u64 T.t2 3) (T.t3, bits .andNot .u64 T.t2 3) = U at *
  refine callS.ret (poly_add (h := U) (x := (T.t3.fdiv (2 ^ min 2 IntKind.u64.bits), bits .or .u64 (IntKind.u64.wrap (T.t3 * 2 ^ min 62 IntKind.u64.bits)) (T.t2.fdiv (2 ^ min 2 IntKind.u64.bits)))) hR.1 hR.2.1 n3.shr ((R64.wrap _).or n2.shr)) (by simp [eN, eW]) (by simp) (by simp) ?_
  simp [eN]
  refine RetS.plain [] ?_
  simp [nTimes, hT, hU]
def sbL (x y b : Int) : Int := (x - y - b) % 18446744073709551616
def sbC (x y b : Int) : Int := if x < y + b then 1 else 0
theorem sbC_bit (x y b : Int) : sbC x y b = 0 ∨ sbC x y b = 1 := by unfold sbC; split <;> simp
theorem R64.sbL (x y b : Int) : R64 (sbL x y b) := ⟨Int.emod_nonneg _ (by omega), Int.emod_lt_of_pos _ (by omega)⟩
theorem bits_Sub64' {x y b : Int} (hx : R64 x) (hy : R64 y) (hb : b = 0 ∨ b = 1) : ARet Pg I.math_bits_Sub64 [.int .u64 x, .int .u64 y, .int .u64 b] (.tup [.int .u64 (sbL x y b), .int .u64 (sbC x y b)]) := by
  obtain ⟨h1, h2⟩ := hx
  obtain ⟨h3, h4⟩ := hy
  obtain ⟨X, rfl⟩ := Int.eq_ofNat_of_zero_le h1
  obtain ⟨Y, rfl⟩ := Int.eq_ofNat_of_zero_le h3
  obtain ⟨B, rfl⟩ := Int.eq_ofNat_of_zero_le (show 0 ≤ b by omega)
  have := bits_Sub64 X Y B (by omega)
  have e1 : (((X + 18446744073709551616 - Y - B) % 18446744073709551616 : Nat) : Int) = sbL X Y B := by unfold sbL; omega
  have e2 : ((if X < Y + B then 1 else 0 : Nat) : Int) = sbC X Y B := by
    unfold sbC
    by_cases h : X < Y + B
    · rw [if_pos h, if_pos (by omega)]; rfl
    · rw [if_neg h, if_neg (by omega)]; rfl
  rw [e1, e2] at this
  exact this
def nRed (h : Int × Int × Int) : Int × Int × Int :=
  let c0 := sbC h.1 18446744073709551611 0
  let c1 := sbC h.2.1 18446744073709551615 c0
  if sbC h.2.2 3 c1 = 1 then h else (sbL h.1 18446744073709551611 0, sbL h.2.1 18446744073709551615 c0, sbL h.2.2 3 c1)
theorem nRed_R {h : Int × Int × Int} (h1 : R64 h.1) (h2 : R64 h.2.1) : R64 (nRed h).1 ∧ R64 (nRed h).2.1 := by
  unfold nRed
  simp only
  split
  · exact ⟨h1, h2⟩
  · exact ⟨R64.sbL _ _ _, R64.sbL _ _ _⟩
set_option maxRecDepth 20000 in
theorem poly_reduced {h : Int × Int × Int} (h1 : R64 h.1) (h2 : R64 h.2.1) (h3 : R64 h.2.2) : ARet Pg I.poly_number_reduced [eN h] (eN (nRed h)) := by
  have z3 : zr 3 (PV.int .u64 0) = [.int .u64 0, .int .u64 0, .int .u64 0] := by rw [zr_eq]; rfl
  refine ACalls.intro T.poly_number_reduced (by simp [F.poly_number_reduced]) ?_
  simp [F.poly_number_reduced, argEnv, fpBx, eN]
  have q0 := sbC_bit h.1 18446744073709551611 0
  have q1 := sbC_bit h.2.1 18446744073709551615 (sbC h.1 18446744073709551611 0)
  refine callS.ret (bits_Sub64' h1 (show R64 18446744073709551611 from ⟨by omega, by omega⟩) (.inl rfl)) (by simp) (by simp) (by simp) ?_
  simp
  refine callS.ret (bits_Sub64' h2 (show R64 18446744073709551615 from ⟨by omega, by omega⟩) q0) (by simp) (by simp) (by simp) ?_
  simp
  refine callS.ret (bits_Sub64' h3 (show R64 3 from ⟨by omega, by omega⟩) q1) (by simp) (by simp) (by simp) ?_
  by_cases hc : sbC h.2.2 3 (sbC h.2.1 18446744073709551615 (sbC h.1 18446744073709551611 0)) = 1
  · simp [hc]
    refine RetS.plain [] ?_
    simp [nRed, hc]
  · simp [hc, z3]
    refine RetS.plain [] ?_
    simp [nRed, hc]
end Go.Ab
end M4s
