/- Each function is read so. Written by program. No condition. -/
import Derived.Test.YtafmeafepngngaaSeatF
import Derived.Test.YtafmeafepngngaaProg
import Derived.KernelRfl
namespace Go.Ab
noncomputable abbrev Pg : Program := Go.Proofs.Try.prog
namespace T
open Go.Ab
theorem burrowlaw18_StageOrders : trFun Pg [] [] I.burrowlaw18_StageOrders = some F.burrowlaw18_StageOrders.er := by kernel_rfl
theorem burrowlaw18_StagePushes : trFun Pg [] [] I.burrowlaw18_StagePushes = some F.burrowlaw18_StagePushes.er := by kernel_rfl
theorem burrowlaw18_cut : trFun Pg [] [] I.burrowlaw18_cut = some F.burrowlaw18_cut.er := by kernel_rfl
theorem stage_Push : trFun Pg [] [] I.stage_Push = some F.stage_Push.er := by kernel_rfl
theorem stage_Pop : trFun Pg [] [] I.stage_Pop = some F.stage_Pop.er := by kernel_rfl
theorem burrowlaw18_begun : trFun Pg [] [] I.burrowlaw18_begun = some F.burrowlaw18_begun.er := by kernel_rfl
theorem burrowcase_Cut : trFun Pg [] [] I.burrowcase_Cut = some F.burrowcase_Cut.er := by kernel_rfl
theorem burrowcase_Mod : trFun Pg [] [] I.burrowcase_Mod = some F.burrowcase_Mod.er := by kernel_rfl
theorem burrowref14_Push : trFun Pg [] [] I.burrowref14_Push = some F.burrowref14_Push.er := by kernel_rfl
theorem burrowlaw18_same : trFun Pg [] [] I.burrowlaw18_same = some F.burrowlaw18_same.er := by kernel_rfl
theorem burrowref14_Pop : trFun Pg [] [] I.burrowref14_Pop = some F.burrowref14_Pop.er := by kernel_rfl
theorem stage_Size : trFun Pg [] [] I.stage_Size = some F.stage_Size.er := by kernel_rfl
theorem burrowref14_Size : trFun Pg [] [] I.burrowref14_Size = some F.burrowref14_Size.er := by kernel_rfl
theorem stage_cloned : trFun Pg [] [] I.stage_cloned = some F.stage_cloned.er := by kernel_rfl
theorem slices_Clone_byte_byte : trFun Pg [] [] I.slices_Clone_byte_byte = some F.slices_Clone_byte_byte.er := by kernel_rfl
end T
end Go.Ab
