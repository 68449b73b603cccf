/- Each function is read so. Written by program. No condition. -/
import Derived.Test.YtafmeafepngngaaSeatF
import Derived.Test.YtafmeafepngngaaProg
import Derived.KernelRfl
namespace Go.Ab
noncomputable abbrev Pg : Program := Go.Proofs.Try.prog
namespace T
open Go.Ab
theorem burrowlaw34_ExplainWithin : trFun Pg [] [44, 42, 87] I.burrowlaw34_ExplainWithin = some F.burrowlaw34_ExplainWithin.er := by kernel_rfl
theorem burrowlaw18_cut : trFun Pg [] [] I.burrowlaw18_cut = some F.burrowlaw18_cut.er := by kernel_rfl
theorem stage_Push : trFun Pg [] [] I.stage_Push = some F.stage_Push.er := by kernel_rfl
theorem stage_Pop : trFun Pg [] [] I.stage_Pop = some F.stage_Pop.er := by kernel_rfl
theorem burrowlaw18_begun : trFun Pg [] [30, 29, 28, 23, 22, 21] I.burrowlaw18_begun = some F.burrowlaw18_begun.er := by kernel_rfl
theorem burrowcase_Cut : trFun Pg [] [] I.burrowcase_Cut = some F.burrowcase_Cut.er := by kernel_rfl
theorem burrowcase_Mod : trFun Pg [] [] I.burrowcase_Mod = some F.burrowcase_Mod.er := by kernel_rfl
theorem burrowref14_Push : trFun Pg [] [] I.burrowref14_Push = some F.burrowref14_Push.er := by kernel_rfl
theorem burrowlaw18_same : trFun Pg [] [] I.burrowlaw18_same = some F.burrowlaw18_same.er := by kernel_rfl
theorem burrowref14_Pop : trFun Pg [] [] I.burrowref14_Pop = some F.burrowref14_Pop.er := by kernel_rfl
theorem stage_Size : trFun Pg [] [] I.stage_Size = some F.stage_Size.er := by kernel_rfl
theorem burrowref14_Size : trFun Pg [] [] I.burrowref14_Size = some F.burrowref14_Size.er := by kernel_rfl
theorem burrowlaw34_small : trFun Pg [] [] I.burrowlaw34_small = some F.burrowlaw34_small.er := by kernel_rfl
theorem explain_Within : trFun Pg [] [24] I.explain_Within = some F.explain_Within.er := by kernel_rfl
theorem burrowref34_Within : trFun Pg [] [21] I.burrowref34_Within = some F.burrowref34_Within.er := by kernel_rfl
theorem burrowref34_SameEvents : trFun Pg [] [] I.burrowref34_SameEvents = some F.burrowref34_SameEvents.er := by kernel_rfl
theorem explain_Inputs : trFun Pg [] [] I.explain_Inputs = some F.explain_Inputs.er := by kernel_rfl
theorem burrowref34_Inputs : trFun Pg [] [] I.burrowref34_Inputs = some F.burrowref34_Inputs.er := by kernel_rfl
theorem burrowlaw34_begun : trFun Pg [] [37, 36, 35, 30, 29, 28] I.burrowlaw34_begun = some F.burrowlaw34_begun.er := by kernel_rfl
theorem stage_cloned : trFun Pg [] [] I.stage_cloned = some F.stage_cloned.er := by kernel_rfl
theorem slices_Clone_byte_byte : trFun Pg [] [] I.slices_Clone_byte_byte = some F.slices_Clone_byte_byte.er := by kernel_rfl
theorem explain_event_same : trFun Pg [] [] I.explain_event_same = some F.explain_event_same.er := by kernel_rfl
theorem own_Event : trFun Pg [] [] I.own_Event = some F.own_Event.er := by kernel_rfl
theorem burrowref31_SameEvent : trFun Pg [] [] I.burrowref31_SameEvent = some F.burrowref31_SameEvent.er := by kernel_rfl
theorem bytes_Equal : trFun Pg [] [] I.bytes_Equal = some F.bytes_Equal.er := by kernel_rfl
end T
end Go.Ab
