/-
  Contracts of functions that the claim reaches, or the logic and the plain laws that they rest on, or the row over them. (Conditions: none beyond the statement.)
-/
import Derived.Test.YtoakfknnaiapiaaSvLB
import Derived.Test.YtoakfknnaiapiaaSqGh
set_option linter.all false
namespace Go.Proofs.Ytoakfknnaiapiaa
open Go.RowKit Go.SL Go.ShM Go.SvM
set_option maxHeartbeats 1000000
set_option maxRecDepth 20000
set_option linter.all false

theorem cksq54 : cks Try.prog 10 54 = some [.int .i64, .int .i64, .slice 65] := by kernel_rfl
theorem cksq65 : cks Try.prog 9 65 = some [.ints .u8 16, .int .i64, .slice 5, .slice 27] := by kernel_rfl
theorem cofq65 : Try.prog.cellsOf 65 = 19 := by kernel_rfl
theorem cksq5 : cks Try.prog 9 5 = some [.int .u8] := by kernel_rfl
theorem cofq5 : Try.prog.cellsOf 5 = 1 := by kernel_rfl
theorem cksq27 : cks Try.prog 9 27 = some [.int .u32, .int .i64] := by kernel_rfl
theorem cofq27 : Try.prog.cellsOf 27 = 2 := by kernel_rfl
theorem cksq30 : cks Try.prog 10 30 = some [.int .u8, .ints .u8 16, .int .i64, .int .i64, .int .i64, .int .u32, .int .i64, .slice 5] := by kernel_rfl
theorem cksq60 : cks Try.prog 10 60 = some [.slice 32] := by kernel_rfl
theorem cksq32 : cks Try.prog 9 32 = some [.int .i64, .int .i64, .int .i64, .int .i64, .int .u8, .ints .u8 16, .int .i64, .int .i64, .int .i64, .int .u32, .int .i64, .slice 5] := by kernel_rfl
theorem cofq32 : Try.prog.cellsOf 32 = 27 := by kernel_rfl
end Go.Proofs.Ytoakfknnaiapiaa
