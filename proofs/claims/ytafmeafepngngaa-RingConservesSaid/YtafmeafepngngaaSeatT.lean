/- Each function is read so. Written by program. No condition. -/
import Derived.Test.YtafmeafepngngaaSeatF
import Derived.Test.YtafmeafepngngaaProg
import Derived.KernelRfl
namespace Go.Ab
noncomputable abbrev Pg : Program := Go.Proofs.Try.prog
namespace T
open Go.Ab
theorem burrowlaw23_RingConserves : trFun Pg [] [] I.burrowlaw23_RingConserves = some F.burrowlaw23_RingConserves.er := by kernel_rfl
theorem ring_Locals : trFun Pg [] [] I.ring_Locals = some F.ring_Locals.er := by kernel_rfl
theorem ring_Begin : trFun Pg [] [] I.ring_Begin = some F.ring_Begin.er := by kernel_rfl
theorem ring_Answer : trFun Pg [] [] I.ring_Answer = some F.ring_Answer.er := by kernel_rfl
theorem ring_Confirm : trFun Pg [] [] I.ring_Confirm = some F.ring_Confirm.er := by kernel_rfl
theorem burrowlaw23_count : trFun Pg [] [] I.burrowlaw23_count = some F.burrowlaw23_count.er := by kernel_rfl
theorem burrowlaw23_begun : trFun Pg [] [] I.burrowlaw23_begun = some F.burrowlaw23_begun.er := by kernel_rfl
theorem ring_locals : trFun Pg [] [] I.ring_locals = some F.ring_locals.er := by kernel_rfl
theorem ring_kept : trFun Pg [] [] I.ring_kept = some F.ring_kept.er := by kernel_rfl
end T
end Go.Ab
