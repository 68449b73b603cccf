/- Inputs of scripts, and small events: the program's and the document's functions. Lengths up to 2^30. -/
import Derived.Test.YtafmeafepngngaaEv2
set_option linter.all false
namespace Go.Ab
open Go.Ab

abbrev shKey : Sh := .ar 32 (.i .u8)
@[simp] theorem shKey_w : shW shKey = 32 := rfl
@[simp] theorem shKey_agg : Sh.agg shKey = true := rfl
structure Act where
  kind : Int
  ev : Ev
  who : Int
  n : Int
  xr : Int
  lo : Int
  hi : Int
  key : FV shKey
def encA (a : Act) : PV := .st 60 [.int .i64 a.kind, encE a.ev, .int .i64 a.who, .int .i64 a.n, .int .u8 a.xr, .int .i64 a.lo, .int .i64 a.hi, a.key.p]
@[simp] theorem pure_encA (e : Act) : Pure (encA e) := by simp [encA]
@[simp] theorem wk_encA (e : Act) : wk (encA e) = encA e := by simp [encA]
@[simp ↓] theorem vgk_encA (g : Bool) (e : Act) (K : PV → Prop) : vgk g (encA e) K = K (encA e) := _root_.id rfl
@[simp] theorem encA_width (e : Act) : (encA e).width = 60 := rfl
@[simp] theorem encA_agg (e : Act) : (encA e).isAgg = true := rfl
@[simp] theorem encA_cell (e : Act) : (encA e).cellular = true := rfl
@[simp] theorem pureL_mA (l : List Act) : PureL (l.map encA) := pureL_map pure_encA l
@[simp] theorem wkL_mA (l : List Act) : wkL (l.map encA) = l.map encA := wkL_map wk_encA l
def encAs (l : List Act) : PV := .sl 60 (l.map encA) false
@[simp] theorem pure_encAs (e : List Act) : Pure (encAs e) := by simp [encAs]
@[simp] theorem wk_encAs (e : List Act) : wk (encAs e) = encAs e := by simp [encAs]

def inputs (l : List Act) : List Ev := (l.filter fun a => decide (a.kind = 1)).map (·.ev)
theorem inputs_succ {l : List Act} {i : Nat} (h : i < l.length) : inputs (l.take (i + 1)) = inputs (l.take i) ++ (if l[i].kind = 1 then [l[i].ev] else []) := by
  unfold inputs
  rw [List.take_succ_eq_append_getElem h, List.filter_append, List.map_append]
  congr 1
  by_cases hk : l[i].kind = 1 <;> simp [hk]
theorem inputs_len (l : List Act) : (inputs l).length ≤ l.length := by
  unfold inputs; rw [List.length_map]; exact List.length_filter_le _ _

set_option maxRecDepth 10000 in
theorem explain_Inputs {l : List Act} (h : l.length ≤ 1073741824) (hb : ∀ a ∈ l, a.ev.bytes.length ≤ 1073741824) : ARet Pg I.explain_Inputs [encAs l] (encEs (inputs l)) := by
  refine ACalls.intro T.explain_Inputs (by simp [F.explain_Inputs]) ?_
  simp [F.explain_Inputs, argEnv, fpBx, encAs]
  refine LpS.rng l.length (fun _ => True) [0, 2, 3, 6, 7, 8] (fun i => [(3, .rs 3 [] 0 (inputs (l.take i)).length (inputs (l.take i)).length 22 .tip), (8, .int .i64 i)]) (fun i => [(3, .arr 22 ((inputs (l.take i)).map encE))]) [.vt 3 3 22] ?_
  simp [show inputs [] = [] from rfl]
  refine ⟨fun i hi K hK => ?_, fun K => ?_⟩
  · have hx : l[i]? = some l[i] := List.getElem?_eq_getElem hi
    have hlen := inputs_len (l.take i)
    rw [List.length_take] at hlen
    rw [inputs_succ hi] at hK
    generalize inputs (l.take i) = out at *
    have hbi := hb _ (List.getElem_mem hi)
    by_cases hk : l[i].kind = 1
    · simp [F.explain_Inputsl0, hx, hi, encA, hk]
      refine callS.ret (own_Event hbi) (by simp) (by simp) (by simp) ?_
      simp (disch := omega)
      repeat (refine ⟨by omega, ?_⟩)
      refine ⟨[.keep [0, 2, 3, 6, 7, 8], .dr 5], ?_⟩
      simp
      exact hK _ (by simp [hk])
    · simp (disch := omega) [F.explain_Inputsl0, hx, hi, encA, hk]
      refine ⟨[.keep [0, 2, 3, 6, 7, 8], .dr 5], ?_⟩
      simp
      exact hK _ (by simp [hk])
  · simp [F.explain_Inputsl0, F.explain_Inputsc1]
    refine RetS.plain [.keep [2], .fz 3, .wk 2] ?_
    simp [encEs]

set_option maxRecDepth 10000 in
theorem burrowref34_Inputs {l : List Act} (h : l.length ≤ 1073741824) : ARet Pg I.burrowref34_Inputs [encAs l] (encEs (inputs l)) := by
  refine ACalls.intro T.burrowref34_Inputs (by simp [F.burrowref34_Inputs]) ?_
  simp [F.burrowref34_Inputs, argEnv, fpBx, encAs]
  refine LpS.rng l.length (fun _ => True) [0, 2, 3, 6, 7, 8] (fun i => [(3, .rs 3 [] 0 (inputs (l.take i)).length (inputs (l.take i)).length 22 .tip), (8, .int .i64 i)]) (fun i => [(3, .arr 22 ((inputs (l.take i)).map encE))]) [.vt 3 3 22] ?_
  simp [show inputs [] = [] from rfl]
  refine ⟨fun i hi K hK => ?_, fun K => ?_⟩
  · have hx : l[i]? = some l[i] := List.getElem?_eq_getElem hi
    have hlen := inputs_len (l.take i)
    rw [List.length_take] at hlen
    rw [inputs_succ hi] at hK
    generalize inputs (l.take i) = out at *
    by_cases hk : l[i].kind = 1
    · simp (disch := omega) [F.burrowref34_Inputsl0, hx, hi, encA, hk]
      repeat (refine ⟨by omega, ?_⟩)
      refine ⟨[.keep [0, 2, 3, 6, 7, 8], .dr 5], ?_⟩
      simp
      exact hK _ (by simp [hk])
    · simp (disch := omega) [F.burrowref34_Inputsl0, hx, hi, encA, hk]
      refine ⟨[.keep [0, 2, 3, 6, 7, 8], .dr 5], ?_⟩
      simp
      exact hK _ (by simp [hk])
  · simp [F.burrowref34_Inputsl0, F.burrowref34_Inputsc1]
    refine RetS.plain [.keep [2], .fz 3, .wk 2] ?_
    simp [encEs]

def fr0 : FV shEp := ⟨.st 18 [.st 17 [.bl false, .ar 1 16 (zr 16 (.int .u8 0))], .int .i64 0], rfl⟩
def mkEv (x : UInt8) : Ev := { kind := (x.toNat : Int).tmod 3, fr := fr0, bytes := [], at_ := ((x.toNat : Int).tdiv 3).tmod 2, text := [] }

set_option maxRecDepth 10000 in
theorem burrowlaw34_small {b : List UInt8} {n : Nat} (hn : n ≤ 1073741824) (hb : b.length ≤ 9223372036854775807) : ARet Pg I.burrowlaw34_small [encB b, .int .i64 n] (encEs ((b.take n).map mkEv)) := by
  refine ACalls.intro T.burrowlaw34_small (by simp [F.burrowlaw34_small]) ?_
  have e := take_min b n
  simp [F.burrowlaw34_small, argEnv, fpBx, encB, ← List.map_take, e]
  refine ⟨by omega, ?_⟩
  have hl2 : (b.take n).length ≤ n := by simp; omega
  have hm2 : min n b.length = (b.take n).length := by simp
  rw [hm2]
  generalize b.take n = l2 at *
  refine LpS.rng l2.length (fun _ => True) [4, 5, 13, 14, 15] (fun i => [(5, .rs 5 [] 0 i i 22 .tip), (15, .int .i64 i)]) (fun i => [(5, .arr 22 (((l2.map mkEv).take i).map encE))]) [.vt 5 5 22] ?_
  simp
  refine ⟨fun i hi K hK => ?_, fun K => ?_⟩
  · have hx : l2[i]? = some l2[i] := List.getElem?_eq_getElem hi
    have hi' : min i l2.length = i := by omega
    have hu := l2[i].toNat_lt
    have hq : (l2[i].toNat : Int).tdiv 3 = (l2[i].toNat : Int) / 3 := Int.tdiv_eq_ediv_of_nonneg (by omega)
    simp (disch := omega) [F.burrowlaw34_smalll0, hx, hi, u8, hi']
    repeat (refine ⟨by omega, ?_⟩)
    refine ⟨[], hK _ ?_⟩
    simp [take_map_succ (encE ∘ mkEv) hi, encE, mkEv, fr0, hq]
  · simp [F.burrowlaw34_smalll0, F.burrowlaw34_smallc1]
    refine RetS.plain [.keep [4], .fz 5, .wk 4] ?_
    simp [encEs]
end Go.Ab
