/-
  Contracts of functions that the claim reaches, or the logic and the plain laws that they rest on, or the row over them. (Conditions: none beyond the statement.)
-/
import Derived.Test.YthkchjcodibaeaaZqR
import Derived.Test.YthkchjcodibaeaaZqBulkS
import Derived.Test.YthkchjcodibaeaaRgArg
set_option linter.all false
namespace Go.Proofs.Ythkchjcodibaeaa
open Go.RowKit Go.SL Go.ShM Go.ChangeShapes Go.WideShapes Go.ChangeAt
set_option maxHeartbeats 1000000
set_option maxRecDepth 20000
set_option linter.all false

theorem cks120 : cks Try.prog 5 120 = some [.ints .u8 16] := by kernel_rfl
end Go.Proofs.Ythkchjcodibaeaa
