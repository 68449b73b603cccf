/- The machine of the document: drop, set. Conditions: lengths. -/
import Derived.Test.YtilndiilinoeiaaG5
set_option linter.all false
namespace Go.Ab
open Go.Ab
def zOut : PV := .sl 86 [] true
@[simp] theorem pure_zOut : Pure zOut := by simp [zOut]
@[simp] theorem zOut_width : zOut.width = 1 := rfl
def mch (d : Dmn) (p : PV) : PV := .st 149 [encDo d p, zOut]
@[simp ↓] theorem getP_mch (d : Dmn) (p : PV) (r : List Step) : getP (mch d p) (.f 0 0 :: r) = getP (encDo d p) r := by simp [mch, widths]
def mch_s (c : PV) : PV := .st 149 [c, zOut]
@[simp ↓] theorem setP_mch (d : Dmn) (p : PV) (r : List Step) (x : PV) : setP (mch d p) (.f 0 0 :: r) x = (setP (encDo d p) r x).bind fun c => some (mch_s c) := by
  simp [mch, mch_s, widths]
@[simp ↓] theorem mch_s_f (d : Dmn) (p : PV) : mch_s (encDo d p) = mch d p := _root_.id rfl
@[simp] theorem mch_width (d : Dmn) (p : PV) : (mch d p).width = 149 := _root_.id rfl
@[simp] theorem mch_agg (d : Dmn) (p : PV) : (mch d p).isAgg = true := _root_.id rfl
@[simp] theorem mch_refs (f : Nat → Bool) (d : Dmn) (p : PV) : refsOk f (mch d p) = refsOk f p := by
  simp [mch, refsOk, refsOkL, (pure_zOut).refs]
@[simp] theorem mch_ren (ρ : Nat → Nat) (d : Dmn) (p : PV) : ren ρ (mch d p) = mch d (ren ρ p) := by
  simp [mch, ren, renL, (pure_zOut).ren]
theorem mch_e (d : Dmn) (p : PV) : PV.st 149 [encDo d p, .sl 86 [] true] = mch d p := rfl
@[simp] theorem mch_frz (k sz : Nat) (l : List PV) (d : Dmn) (p : PV) : frz k sz l (mch d p) = mch d (frz k sz l p) := by
  simp [mch, frzL, (pure_zOut).frz]
@[simp ↓] theorem vgk_mch (g : Bool) (d : Dmn) (p : PV) (K : PV → Prop) : vgk g (mch d p) K = K (mch d p) := _root_.id rfl
theorem refsOkB_mch (f : Nat → Bool) (d : Dmn) (p : PV) : refsOkB f (.box (mch d p)) = refsOk f p := by simp [refsOkB]
def dSl (d : Dmn) (s : List Slt) : Dmn := { d with slots := s }
def dTi (d : Dmn) (s : List Tmr) : Dmn := { d with timers := s }
theorem dSl_e (d : Dmn) (s : List Slt) : ({ d with slots := s } : Dmn) = dSl d s := rfl
theorem dTi_e (d : Dmn) (s : List Tmr) : ({ d with timers := s } : Dmn) = dTi d s := rfl
@[simp] theorem dSl_slots (d : Dmn) (s : List Slt) : (dSl d s).slots = s := rfl
@[simp] theorem dSl_sl (d : Dmn) (s t : List Slt) : dSl (dSl d s) t = dSl d t := rfl
def dropAll (s : List Slt) (l : List Int) : List Slt := l.foldl (fun s x => s.filter (neS x)) s
def rsP (k n : Nat) : PV := .rs k [] 0 n n 464 .tip
theorem dropAll_le : ∀ (l : List Int) (s : List Slt), (dropAll s l).length ≤ s.length
  | [], s => Nat.le_refl _
  | x :: l, s => Nat.le_trans (dropAll_le l _) (List.length_filter_le _ _)
theorem dropAll_succ {s : List Slt} {l : List Int} {i : Nat} (h : i < l.length) : dropAll s (l.take (i + 1)) = (dropAll s (l.take i)).filter (neS l[i]) := by
  rw [List.take_succ_eq_append_getElem h]; unfold dropAll; rw [List.foldl_append]; rfl
set_option maxRecDepth 10000 in
theorem machine_drop {d : Dmn} (hs : d.slots.length ≤ 1048576) {l : List Int} (hl : l.length ≤ 8) (ps : List Per) :
    ACalls Pg I.burrowref24_machine_drop [.pt KB [] 0, encU l] [.box (mch d (.rs (KB + 1) [] 0 ps.length ps.length 464 .tip)), .arr 464 (ps.map encPe)]
      (fun r fp => r = .tup [] ∧ fp = [.box (mch (dSl d (dropAll d.slots l)) (.rs (KB + 1) [] 0 ps.length ps.length 464 .tip)), .arr 464 (ps.map encPe)]) := by
  refine ACalls.intro T.burrowref24_machine_drop (by simp [F.burrowref24_machine_drop]) ?_
  simp [F.burrowref24_machine_drop, argEnv, fpBx]
  refine LpS.rng l.length (fun _ => True) [0, 6, 7, 8] (fun i => [(8, .int .i64 i)]) (fun i => [(KB, .box (mch (dSl d (dropAll d.slots (l.take i))) (.rs (KB + 1) [] 0 ps.length ps.length 464 .tip)))]) [.keep [0, 6, 7, 8]] ?_
  simp [show ∀ s, dropAll s [] = s from fun _ => rfl, show dSl d d.slots = d from rfl]
  refine ⟨fun i hi K hK => ?_, fun K => ?_⟩
  · have hx : l[i]? = some l[i] := List.getElem?_eq_getElem hi
    rw [dropAll_succ hi] at hK
    have hle := dropAll_le (l.take i) d.slots
    generalize dropAll d.slots (l.take i) = S at *
    simp [F.burrowref24_machine_dropl0, hx, hi]
    refine callS.ret (DropSlot (l := S) (by omega) l[i]) (by simp) (by simp) (by simp) ?_
    simp [wrapi hi (by omega)]
    refine ⟨[.keep [0, 6, 7, 8]], ?_⟩
    simp
    exact hK _ (by simp [dSl])
  · simp [F.burrowref24_machine_dropl0]
    refine RetS.with [] [KB, KB + 1] ?_
    simp [tupOf]
set_option maxRecDepth 10000 in
theorem machine_set {d : Dmn} (ht : d.timers.length ≤ 1048575) {ps : List Per} {i : Nat} (hi : i < ps.length) (k : Int) {n : Int} (h1 : 0 ≤ d.now) (h2 : d.now ≤ 16777216) (h3 : 0 ≤ n) (h4 : n ≤ 16777216) :
    ACalls Pg I.burrowref24_machine_set [.pt KB [] 0, .int .i64 i, .int .i64 k, .int .i64 n] [.box (mch d (.rs (KB + 1) [] 0 ps.length ps.length 464 .tip)), .arr 464 (ps.map encPe)]
      (fun r fp => r = .tup [] ∧ fp = [.box (mch (dTi d (setT d.timers ⟨d.now + n, ps[i].pub, k⟩)) (.rs (KB + 1) [] 0 ps.length ps.length 464 .tip)), .arr 464 (ps.map encPe)]) := by
  refine ACalls.intro T.burrowref24_machine_set (by simp [F.burrowref24_machine_set]) ?_
  have hx : ps[i]? = some ps[i] := List.getElem?_eq_getElem hi
  have hw : IntKind.i64.wrap (d.now + n) = d.now + n := wrap_i64 (by omega)
  have e : PV.st 34 [.int .i64 (d.now + n), encK ps[i].pub, .int .i64 k] = encT ⟨d.now + n, ps[i].pub, k⟩ := rfl
  simp [F.burrowref24_machine_set, argEnv, fpBx, hx, hi, hw, e]
  refine callT.ret (burrowref14_Set (l := d.timers) ht ⟨d.now + n, ps[i].pub, k⟩) (by simp) (by simp) (by simp) ?_
  simp
  refine RetS.with [] [KB, KB + 1] ?_
  simp [tupOf, dTi]
end Go.Ab
