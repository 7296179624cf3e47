/-
  Contracts of functions that the claim reaches, or the logic and the plain laws that they rest on, or the row over them. (Conditions: none beyond the statement.)
-/
import Derived.Test.YtgkpbeikcpecbaaPxDc
import Derived.Test.YtgkpbeikcpecbaaPxZ
set_option linter.all false
namespace Go.Proofs.Ytgkpbeikcpecbaa
open Go.RowKit Go.SL Go.ShM
set_option maxHeartbeats 1000000
set_option maxRecDepth 20000
set_option linter.all false
theorem cf78 : cfn Try.prog 78 = true := by kernel_rfl
theorem cf79 : cfn Try.prog 79 = true := by kernel_rfl
theorem cf81 : cfn Try.prog 81 = true := by kernel_rfl
theorem ud129 : Try.prog.underlying 129 = some (.pointer 136) := by kernel_rfl
end Go.Proofs.Ytgkpbeikcpecbaa
