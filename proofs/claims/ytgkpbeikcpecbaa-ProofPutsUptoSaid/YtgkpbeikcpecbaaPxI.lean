/-
  Contracts of functions that the claim reaches, or the logic and the plain laws that they rest on, or the row over them. (Conditions: none beyond the statement.)
-/
import Derived.Test.YtgkpbeikcpecbaaPxH
import Derived.Test.YtgkpbeikcpecbaaPfL
set_option linter.all false
namespace Go.Proofs.Ytgkpbeikcpecbaa
open Go.RowKit Go.SL Go.ShM
set_option maxHeartbeats 1000000
set_option maxRecDepth 20000
set_option linter.all false

def pv (p : Option Nat) : Value := .pointer (p.map fun b => ⟨b, 0, none⟩)
def eP (p : Option Nat) : List Value := [pv p]
theorem encP : Enc eP 1 := ⟨fun _ => rfl, fun x v hv => by simp [eP, pv] at hv; subst hv; rfl⟩
end Go.Proofs.Ytgkpbeikcpecbaa
