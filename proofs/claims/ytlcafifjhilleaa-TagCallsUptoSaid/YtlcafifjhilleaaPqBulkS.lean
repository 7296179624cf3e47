/-
  Contracts of functions that the claim reaches, or the logic and the plain laws that they rest on, or the row over them. (Conditions: none beyond the statement.)
-/
import Derived.Test.YtlcafifjhilleaaPqBulk
import Derived.Test.YtlcafifjhilleaaShA
set_option linter.all false
namespace Go.Proofs.Ytlcafifjhilleaa
open Go.RowKit Go.SL Go.ChangeShapes Go.WideShapes Go.ChangeAt
set_option maxHeartbeats 1000000
set_option maxRecDepth 20000
set_option linter.all false

theorem sum_all {H : Type} : ∀ ds : List (DataW H), (ds.map Rows.uptoBulk).sum = Rows.uptoBulkAll ds
  | [] => rfl
  | d :: ds => by rw [List.map_cons, List.sum_cons, sum_all ds]; simp only [Rows.uptoBulkAll]
theorem measS {H : Type} : MeasS (H := H) Rows.uptoBulk where
  toMeas := meas
  sum ds rs := by rw [sum_all]; simp only [Rows.uptoBulk]; omega
end Go.Proofs.Ytlcafifjhilleaa
