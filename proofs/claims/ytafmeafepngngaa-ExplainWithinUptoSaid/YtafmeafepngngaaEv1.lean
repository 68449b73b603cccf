/- Events of the program, and the functions that compare and copy them. Lengths up to 2^62. -/
import Derived.Test.YtafmeafepngngaaSeatT
import Derived.Test.YtafmeafepngngaaA5
import Derived.Test.YtafmeafepngngaaA5
import Derived.Test.YtafmeafepngngaaSt1
set_option linter.all false
namespace Go.Ab
open Go.Ab

abbrev shEp : Sh := .st [.st [.b, .ar 16 (.i .u8)], .i .i64]
@[simp] theorem shEp_w : shW shEp = 18 := rfl
@[simp] theorem shEp_agg : Sh.agg shEp = true := rfl
structure Ev where
  kind : Int
  fr : FV shEp
  bytes : List UInt8
  at_ : Int
  text : List UInt8
def encE (e : Ev) : PV := .st 22 [.int .i64 e.kind, e.fr.p, .sl 1 (e.bytes.map u8) false, .int .i64 e.at_, .str e.text]
@[simp] theorem pure_encE (e : Ev) : Pure (encE e) := by simp [encE]
@[simp] theorem wk_encE (e : Ev) : wk (encE e) = encE e := by simp [encE]
@[simp ↓] theorem vgk_encE (g : Bool) (e : Ev) (K : PV → Prop) : vgk g (encE e) K = K (encE e) := _root_.id rfl
@[simp] theorem encE_width (e : Ev) : (encE e).width = 22 := rfl
@[simp] theorem encE_agg (e : Ev) : (encE e).isAgg = true := rfl
@[simp] theorem encE_cell (e : Ev) : (encE e).cellular = true := rfl
@[simp] theorem encE_flat (e : Ev) : (encE e).flat = true := rfl
@[simp] theorem pureL_mE (l : List Ev) : PureL (l.map encE) := pureL_map pure_encE l
@[simp] theorem wkL_mE (l : List Ev) : wkL (l.map encE) = l.map encE := wkL_map wk_encE l
def encEs (l : List Ev) : PV := .sl 22 (l.map encE) false
@[simp] theorem pure_encEs (e : List Ev) : Pure (encEs e) := by simp [encEs]
@[simp] theorem wk_encEs (e : List Ev) : wk (encEs e) = encEs e := by simp [encEs]
@[simp ↓] theorem vgk_encEs (g : Bool) (e : List Ev) (K : PV → Prop) : vgk g (encEs e) K = K (encEs e) := _root_.id rfl
@[simp] theorem encEs_flat (e : List Ev) : (encEs e).flat = true := rfl

/-- two events equal, by the program's own comparison -/
def sameE (a b : Ev) : Bool := decide (a.kind = b.kind) && PV.beq a.fr.p b.fr.p && decide (a.bytes = b.bytes) && decide (a.at_ = b.at_) && decide (a.text = b.text)

theorem bytes_Equal (a b : List UInt8) : ARet Pg I.bytes_Equal [encB a, encB b] (.bl (decide (a = b))) := by
  refine ACalls.intro T.bytes_Equal (by simp [F.bytes_Equal]) ?_
  simp [F.bytes_Equal, argEnv, fpBx, encB]
  refine RetS.plain [] ?_
  simp

set_option maxRecDepth 10000 in
theorem burrowref31_SameEvent (a b : Ev) : ARet Pg I.burrowref31_SameEvent [encE a, encE b] (.bl (sameE a b)) := by
  refine ACalls.intro T.burrowref31_SameEvent (by simp [F.burrowref31_SameEvent]) ?_
  simp [F.burrowref31_SameEvent, argEnv, fpBx, encE]
  refine RetS.plain [.keep [4]] ?_
  simp [sameE]

theorem own_Event {a : Ev} (h : a.bytes.length ≤ 1073741824) : ARet Pg I.own_Event [encE a] (encE a) := by
  refine ACalls.intro T.own_Event (by simp [F.own_Event]) ?_
  simp [F.own_Event, argEnv, fpBx, encE]
  refine callS.ret ((slices_Clone_byte h).frz (by simp)) (by simp [encB]) (by simp) (by simp) ?_
  simp
  refine RetS.plain [] ?_
  simp

set_option maxHeartbeats 1000000 in
set_option maxRecDepth 10000 in
theorem explain_event_same (a b : Ev) : ARet Pg I.explain_event_same [.st 22 [encE a], encE b] (.bl (sameE a b)) := by
  refine ACalls.intro T.explain_event_same (by simp [F.explain_event_same]) ?_
  simp [F.explain_event_same, argEnv, fpBx, encE]
  refine ⟨fun h1 h2 h3 h4 => ⟨⟨⟨⟨h1, h2⟩, h3⟩, h4⟩, ?_⟩, fun hn => ?_⟩
  · refine callS.ret (bytes_Equal a.bytes b.bytes) (by simp [encB]) (by simp) (by simp) ?_
    simp [h1, h2, h3, h4]
    refine RetS.plain [.keep [4]] ?_
    simp [sameE, h1, h2, h3, h4]
  · refine ⟨hn, RetS.plain [.keep [4]] ?_⟩
    simp [sameE]
    intro h1 h2 _ h3
    exact hn h1 h2 h3
end Go.Ab
