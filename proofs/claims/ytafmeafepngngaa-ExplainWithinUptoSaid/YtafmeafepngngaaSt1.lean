/- The stage's functions: cloned, Push, Pop, Size, of the program and of the document. Lengths up to 2^30. -/
import Derived.Test.YtafmeafepngngaaSeatT
import Derived.Test.YtafmeafepngngaaA5
set_option linter.all false
namespace Go.Ab
open Go.Ab

def encB (b : List UInt8) : PV := .sl 1 (b.map u8) false
def encBs (l : List (List UInt8)) : PV := .sl 1 (l.map encB) false
@[simp] theorem pure_encB (b : List UInt8) : Pure (encB b) := by simp [encB]
@[simp] theorem wk_encB (b : List UInt8) : wk (encB b) = encB b := by simp [encB]
@[simp] theorem pureL_mB (l : List (List UInt8)) : PureL (l.map encB) := pureL_map pure_encB l
@[simp] theorem wkL_mB (l : List (List UInt8)) : wkL (l.map encB) = l.map encB := wkL_map wk_encB l
@[simp] theorem pure_encBs (b : List (List UInt8)) : Pure (encBs b) := by simp [encBs]
@[simp] theorem wk_encBs (b : List (List UInt8)) : wk (encBs b) = encBs b := by simp [encBs]
@[simp] theorem encB_width (b : List UInt8) : (encB b).width = 1 := rfl
@[simp] theorem encB_agg (b : List UInt8) : (encB b).isAgg = false := rfl
@[simp] theorem encB_cell (b : List UInt8) : (encB b).cellular = true := rfl

@[simp ↓] theorem vgk_encB (g : Bool) (b : List UInt8) (K : PV → Prop) : vgk g (encB b) K = K (encB b) := _root_.id rfl
@[simp ↓] theorem vgk_encBs (g : Bool) (b : List (List UInt8)) (K : PV → Prop) : vgk g (encBs b) K = K (encBs b) := _root_.id rfl
@[simp] theorem flat_encB (b : List UInt8) : (encB b).flat = true := rfl
@[simp] theorem flat_encBs (b : List (List UInt8)) : (encBs b).flat = true := rfl
theorem slices_Clone_byte {b : List UInt8} (h : b.length ≤ 1073741824) : AOwn Pg I.slices_Clone_byte_byte [encB b] 1 (b.map u8) :=
  clone_own (P := Pg) (bytes := 1) (z := .int .u8 0) T.slices_Clone_byte_byte (by omega) (by simp) false (by simp; omega) (by simp; omega)

theorem stage_cloned {ll : List (List UInt8)} (h : ll.length ≤ 1073741824) (hb : ∀ b ∈ ll, b.length ≤ 1073741824) : AOwn Pg I.stage_cloned [encBs ll] 1 (ll.map encB) := by
  refine ACalls.intro T.stage_cloned (by simp [F.stage_cloned]) ?_
  simp [F.stage_cloned, argEnv, fpBx, encBs]
  refine LpS.rng ll.length (fun _ => True) [0, 3, 6, 7, 8] (fun i => [(3, .rs 3 [] 0 i i 1 .tip), (8, .int .i64 i)]) (fun i => [(3, .arr 1 ((ll.take i).map encB))]) [.vt 3 3 1] ?_
  simp
  refine ⟨fun i hi K hK => ?_, fun K => ?_⟩
  · have hx : ll[i]? = some ll[i] := List.getElem?_eq_getElem hi
    have hi' : min i ll.length = i := by omega
    simp [F.stage_clonedl0, hx, hi, encB]
    refine callS.ret ((slices_Clone_byte (b := ll[i]) (hb _ (List.getElem_mem hi))).frz (by simp)) (by simp [encB]) (by simp) (by simp) ?_
    simp (disch := omega) [hi']
    exact ⟨⟨by omega, by omega⟩, [], hK _ (by simp [List.take_add_one, hx, encB])⟩
  · simp [F.stage_clonedl0, F.stage_clonedc1]
    refine RetS.with [] [3] ?_
    simp

end Go.Ab
