/- Each function is read so. Written by program. No condition. -/
import Derived.Test.YtafmeafepngngaaSeatF
import Derived.Test.YtafmeafepngngaaProg
import Derived.KernelRfl
namespace Go.Ab
noncomputable abbrev Pg : Program := Go.Proofs.Try.prog
namespace T
open Go.Ab
theorem burrowlaw23_RingPlaces : trFun Pg [] [112, 110, 96, 91, 86, 81, 76, 63, 58] I.burrowlaw23_RingPlaces = some F.burrowlaw23_RingPlaces.er := by kernel_rfl
theorem ring_Locals : trFun Pg [] [] I.ring_Locals = some F.ring_Locals.er := by kernel_rfl
theorem ring_Begin : trFun Pg [] [] I.ring_Begin = some F.ring_Begin.er := by kernel_rfl
theorem ring_Answer : trFun Pg [] [] I.ring_Answer = some F.ring_Answer.er := by kernel_rfl
theorem ring_Confirm : trFun Pg [] [] I.ring_Confirm = some F.ring_Confirm.er := by kernel_rfl
theorem burrowlaw23_count : trFun Pg [] [] I.burrowlaw23_count = some F.burrowlaw23_count.er := by kernel_rfl
theorem burrowlaw23_begun : trFun Pg [] [] I.burrowlaw23_begun = some F.burrowlaw23_begun.er := by kernel_rfl
theorem ring_Find : trFun Pg [] [] I.ring_Find = some F.ring_Find.er := by kernel_rfl
theorem burrowlaw23_same : trFun Pg [] [] I.burrowlaw23_same = some F.burrowlaw23_same.er := by kernel_rfl
theorem ring_Get : trFun Pg [] [] I.ring_Get = some F.ring_Get.er := by kernel_rfl
theorem ring_locals : trFun Pg [] [] I.ring_locals = some F.ring_locals.er := by kernel_rfl
theorem ring_kept : trFun Pg [] [] I.ring_kept = some F.ring_kept.er := by kernel_rfl
theorem ring_ring_places : trFun Pg [] [] I.ring_ring_places = some F.ring_ring_places.er := by kernel_rfl
theorem ring_ring_previous : trFun Pg [] [] I.ring_ring_previous = some F.ring_ring_previous.er := by kernel_rfl
theorem ring_ring_current : trFun Pg [] [] I.ring_ring_current = some F.ring_ring_current.er := by kernel_rfl
theorem ring_ring_next : trFun Pg [] [] I.ring_ring_next = some F.ring_ring_next.er := by kernel_rfl
end T
end Go.Ab
