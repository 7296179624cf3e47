/-
  Contracts of functions that the claim reaches, or the logic and the plain laws that they rest on, or the row over them. (Conditions: none beyond the statement.)
-/
import Derived.Test.YtgkpbeikcpecbaaPxZ
import Derived.Test.YtgkpbeikcpecbaaPfM
set_option linter.all false
namespace Go.Proofs.Ytgkpbeikcpecbaa
open Go.RowKit Go.SL Go.ShM
set_option maxHeartbeats 1000000
set_option maxRecDepth 20000
set_option linter.all false

theorem cksN : cks Try.prog 3 133 = some [.int .i64, .ints .u8 32] := by kernel_rfl

theorem cks42 : cks Try.prog 3 42 = some [.ints .u8 32] := by kernel_rfl
end Go.Proofs.Ytgkpbeikcpecbaa
