/- Choices from a short list of numbers: burrowcase. No condition. -/
import Derived.Test.YtilndiilinoeiaaD6
set_option linter.all false
namespace Go.Ab
open Go.Ab
@[simp] theorem fpKeys_1' : fpKeys 1 = [KB] := rfl
structure Cds where
  l : List UInt8
  at_ : Nat
def encC (c : Cds) : PV := .st 2 [encB c.l, .int .i64 c.at_]
@[simp] theorem pure_encC (e : Cds) : Pure (encC e) := by simp [encC]
@[simp] theorem wk_encC (e : Cds) : wk (encC e) = encC e := by simp [encC]
@[simp ↓] theorem vgk_encC (g : Bool) (e : Cds) (K : PV → Prop) : vgk g (encC e) K = K (encC e) := _root_.id rfl
@[simp] theorem encC_width (e : Cds) : (encC e).width = 2 := _root_.id rfl
@[simp] theorem encC_agg (e : Cds) : (encC e).isAgg = true := _root_.id rfl
@[simp] theorem encC_cell (e : Cds) : (encC e).cellular = true := _root_.id rfl
@[simp ↓] theorem getP_encC_0 (e : Cds) (r : List Step) : getP (encC e) (.f 0 0 :: r) = getP (encB e.l) r := by simp [encC, widths]
@[simp ↓] theorem getP_encC_1 (e : Cds) (r : List Step) : getP (encC e) (.f 1 1 :: r) = getP (.int .i64 e.at_) r := by simp [encC, widths]
@[simp ↓] theorem setP_encC_1 (e : Cds) (n : Nat) : setP (encC e) [.f 1 1] (.int .i64 n) = some (encC { e with at_ := n }) := by simp [encC, widths]

/-- the list is short, and the place within it -/
structure CdsOk (c : Cds) : Prop where
  len : c.l.length ≤ 1048576
  at_ : c.at_ ≤ c.l.length

theorem Codes_Left (c : Cds) : ACalls Pg I.burrowcase_Codes_Left [.pt KB [] 0] [.box (encC c)] (fun r fp => r = .bl (decide (c.at_ < c.l.length)) ∧ fp = [.box (encC c)]) := by
  refine ACalls.intro T.burrowcase_Codes_Left (by simp [F.burrowcase_Codes_Left]) ?_
  simp [F.burrowcase_Codes_Left, argEnv, fpBx]
  refine RetS.with [] [KB] ?_
  simp

def nxt (c : Cds) (n : Nat) : Nat × Cds := if h : c.at_ < c.l.length ∧ 1 ≤ n then ((c.l[c.at_]'h.1).toNat % n, { c with at_ := c.at_ + 1 }) else (0, c)
theorem nxt_ok {c : Cds} (h : CdsOk c) (n : Nat) : CdsOk (nxt c n).2 := by
  unfold nxt; split
  · rename_i hh; exact ⟨h.len, hh.1⟩
  · exact h
theorem nxt_lt (c : Cds) {n : Nat} (h : 1 ≤ n) : (nxt c n).1 < n := by
  unfold nxt; split
  · exact Nat.mod_lt _ h
  · exact h

set_option maxRecDepth 10000 in
theorem Codes_Next {c : Cds} (h : CdsOk c) (n : Nat) (hn : n ≤ 1048576) : ACalls Pg I.burrowcase_Codes_Next [.pt KB [] 0, .int .i64 n] [.box (encC c)] (fun r fp => r = .int .i64 (nxt c n).1 ∧ fp = [.box (encC (nxt c n).2)]) := by
  refine ACalls.intro T.burrowcase_Codes_Next (by simp [F.burrowcase_Codes_Next]) ?_
  have hlen := h.len
  simp [F.burrowcase_Codes_Next, argEnv, fpBx]
  refine callS.gen [KB] [] [.box (encC c)] (Codes_Left c) (by simp [getAll]) (by simp) (by simp) (by simp [refsOkL, refsOk, inKs, idx]) (by simp [refsOkB, (pure_encC c).refs]) (by simp [renL, ren, ren1, idx]) (by simp [renB, (pure_encC c).ren]) (by simp [refsOkB, refsOk, (pure_encC c).refs]) ?_
  simp [putAll, renB, ren, (pure_encC c).ren]
  by_cases hl : c.at_ < c.l.length
  · by_cases h1 : 1 ≤ n
    · have hw : IntKind.i64.wrap ((c.at_ : Int) + 1) = ((c.at_ + 1 : Nat) : Int) := by rw [wrap_i64 (by omega)]; rfl
      have hx : c.l[c.at_]? = some c.l[c.at_] := List.getElem?_eq_getElem hl
      have hb := (c.l[c.at_]).toNat_lt
      have hm := Nat.mod_le (c.l[c.at_]).toNat n
      have hq : IntKind.i64.wrap (((c.at_ + 1 : Nat) : Int) - 1) = (c.at_ : Int) := by rw [wrap_i64 (by omega)]; omega
      have hw3 : IntKind.i64.wrap (((c.l[c.at_]).toNat : Int)) = ((c.l[c.at_]).toNat : Int) := wrap_i64 (by omega)
      have hw4 : IntKind.i64.wrap (((c.l[c.at_]).toNat : Int).tmod n) = ((c.l[c.at_].toNat % n : Nat) : Int) := by
        rw [← Int.ofNat_tmod]; exact wrap_i64 (by omega)
      simp [hl, show ¬ (n : Int) < 1 by omega, hw, hq, hx, hw3, hw4, -Int.natCast_add, -Int.natCast_emod]
      refine ⟨fun h' => absurd h' (by omega), fun _ => ?_⟩
      simp only [u8]
      simp [hw3, show ¬ n = 0 by omega]
      refine RetS.with [] [KB] ?_
      simp [nxt, hl, h1]
      rw [← Int.ofNat_tmod]; rfl
    · have h0 : n = 0 := by omega
      subst h0
      simp [hl]
      refine RetS.with [] [KB] ?_
      simp [nxt]
  · simp [hl]
    intro _
    refine RetS.with [] [KB] ?_
    simp [nxt, hl]

theorem i64_or_nat (a b : Nat) (ha : a < 4611686018427387904) (hb : b < 4611686018427387904) : bits .or .i64 (a : Int) (b : Int) = ((a ||| b : Nat) : Int) := by
  have hx : a ||| b < 2 ^ 62 := Nat.or_lt_two_pow (by omega) (by omega)
  have h1 : (BitVec.ofInt 64 (a : Int)).toNat = a := by
    rw [BitVec.ofInt_natCast, BitVec.toNat_ofNat]; exact Nat.mod_eq_of_lt (by omega)
  have h2 : (BitVec.ofInt 64 (b : Int)).toNat = b := by
    rw [BitVec.ofInt_natCast, BitVec.toNat_ofNat]; exact Nat.mod_eq_of_lt (by omega)
  show IntKind.i64.wrap ((BitVec.ofInt 64 (a : Int) ||| BitVec.ofInt 64 (b : Int)).toNat : Int) = _
  rw [BitVec.toNat_or, h1, h2]
  exact wrap_i64 (by omega)

/-- the same, with a choice of what comes back -/
theorem callS.cdsE {P : Program} {s : St} {α : Type} {d : Option Nat} {f : FuncId} {args args' : List PV} {c : Cds} {Φ : α → Prop} {r : α → PV} {c' : α → Cds} {K : St → Prop} {t : Tg K} (k : Nat) (hA : ACalls P f args' [.box (encC c)] fun x fp => ∃ w, Φ w ∧ x = r w ∧ fp = [.box (encC (c' w))]) (hb : get s.bx k = some (.box (encC c)))
    (hargs : refsOkL (inKs [k]) args = true) (ha : wkL (renL (ren1 [k]) args) = args') (hr : ∀ w, Pure (r w)) (h : ∀ w, Φ w → K ({ s with bx := put s.bx k (.box (encC (c' w))) }.put d (r w))) : callS P s d f args K t := by
  subst ha
  refine ⟨[k], [], [.box (encC c)], _, by simp [getAll, hb], by simp, by simp, hargs, by simp [refsOkB, (pure_encC c).refs], ACalls.wkA (by simpa [renB, (pure_encC c).ren] using hA), ?_⟩
  rintro x fp ⟨w, hw, rfl, rfl⟩
  refine ⟨⟨rfl, (hr w).refs _, by simp [refsOkB, (pure_encC _).refs]⟩, ?_⟩
  simpa [putAll, renB, (pure_encC _).ren, (hr w).ren] using h w hw

/-- a call of a choice: the list is lent -/
theorem callS.cds {P : Program} {s : St} {d : Option Nat} {f : FuncId} {args args' : List PV} {c c' : Cds} {r : PV} {K : St → Prop} {t : Tg K} (k : Nat) (hA : ACalls P f args' [.box (encC c)] fun x fp => x = r ∧ fp = [.box (encC c')]) (hb : get s.bx k = some (.box (encC c)))
    (hargs : refsOkL (inKs [k]) args = true) (ha : wkL (renL (ren1 [k]) args) = args') (hr : Pure r) (h : K ({ s with bx := put s.bx k (.box (encC c')) }.put d r)) : callS P s d f args K t := by
  refine callS.gen [k] [] [.box (encC c)] hA (by simp [getAll, hb]) (by simp) (by simp) hargs (by simp [refsOkB, (pure_encC c).refs]) ha (by simp [renB, (pure_encC c).ren]) ⟨rfl, hr.refs _, by simp [refsOkB, (pure_encC c').refs]⟩ ?_
  simpa [putAll, renB, (pure_encC c').ren, hr.ren] using h

def bool (c : Cds) : Bool × Cds := (decide ((nxt c 2).1 = 1), (nxt c 2).2)
set_option maxRecDepth 10000 in
theorem Codes_Bool {c : Cds} (h : CdsOk c) : ACalls Pg I.burrowcase_Codes_Bool [.pt KB [] 0] [.box (encC c)] (fun r fp => r = .bl (bool c).1 ∧ fp = [.box (encC (bool c).2)]) := by
  refine ACalls.intro T.burrowcase_Codes_Bool (by simp [F.burrowcase_Codes_Bool]) ?_
  simp [F.burrowcase_Codes_Bool, argEnv, fpBx]
  refine callS.cds KB (Codes_Next h 2 (by omega)) (by simp) (by simp [refsOkL, refsOk, inKs, idx]) (by simp [renL, ren, ren1, idx]) (by simp) ?_
  simp
  refine RetS.with [] [KB] ?_
  simp [bool, refsOkB, (pure_encC _).refs, renB, (pure_encC _).ren]
  omega

set_option maxRecDepth 10000 in
theorem Codes_Big {c : Cds} (h : CdsOk c) (n : Nat) (hn : n ≤ 16777216) (h1 : 1 ≤ n) : ACalls Pg I.burrowcase_Codes_Big [.pt KB [] 0, .int .i64 n] [.box (encC c)] (fun r fp => ∃ m c', CdsOk c' ∧ m < n ∧ r = .int .i64 (m : Nat) ∧ fp = [.box (encC c')]) := by
  refine ACalls.intro T.burrowcase_Codes_Big (by simp [F.burrowcase_Codes_Big]) ?_
  simp [F.burrowcase_Codes_Big, argEnv, fpBx, show ¬ (n : Int) < 1 by omega]
  refine callS.cds KB (Codes_Next h 256 (by omega)) (by simp) (by simp [refsOkL, refsOk, inKs, idx]) (by simp [renL, ren, ren1, idx]) (by simp) ?_
  have l1 := nxt_lt c (n := 256) (by omega)
  have o1 := nxt_ok h 256
  generalize nxt c 256 = a at *
  simp
  refine callS.cds KB (Codes_Next o1 256 (by omega)) (by simp) (by simp [refsOkL, refsOk, inKs, idx]) (by simp [renL, ren, ren1, idx]) (by simp) ?_
  have l2 := nxt_lt a.2 (n := 256) (by omega)
  have o2 := nxt_ok o1 256
  generalize nxt a.2 256 = b at *
  simp
  refine callS.cds KB (Codes_Next o2 256 (by omega)) (by simp) (by simp [refsOkL, refsOk, inKs, idx]) (by simp [renL, ren, ren1, idx]) (by simp) ?_
  have l3 := nxt_lt b.2 (n := 256) (by omega)
  have o3 := nxt_ok o2 256
  generalize nxt b.2 256 = e at *
  simp
  refine ⟨by omega, ?_⟩
  have w1 : IntKind.i64.wrap ((a.1 : Int) * 2 ^ min 16 IntKind.i64.bits) = ((a.1 * 65536 : Nat) : Int) := by
    simp [IntKind.bits]; rw [wrap_i64 (by omega)]
  have w2 : IntKind.i64.wrap ((b.1 : Int) * 2 ^ min 8 IntKind.i64.bits) = ((b.1 * 256 : Nat) : Int) := by
    simp [IntKind.bits]; rw [wrap_i64 (by omega)]
  have hx : a.1 * 65536 ||| b.1 * 256 < 2 ^ 24 := Nat.or_lt_two_pow (by omega) (by omega)
  have hy : (a.1 * 65536 ||| b.1 * 256) ||| e.1 < 2 ^ 24 := Nat.or_lt_two_pow hx (by omega)
  rw [w1, w2, i64_or_nat _ _ (by omega) (by omega), i64_or_nat _ _ (by omega) (by omega)]
  generalize (a.1 * 65536 ||| b.1 * 256) ||| e.1 = m at *
  generalize a.1 * 65536 ||| b.1 * 256 = m2 at *
  have ht : ((m : Int)).tmod n = ((m % n : Nat) : Int) := by rw [← Int.ofNat_tmod]
  refine RetS.with [] [KB] ?_
  simp [refsOkB, (pure_encC _).refs, renB, (pure_encC _).ren, -Int.natCast_emod]
  exact ⟨m % n, e.2, o3, Nat.mod_lt _ (by omega), ht, rfl⟩
end Go.Ab
