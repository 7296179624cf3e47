/-
  Contracts of functions that the claim reaches, or the logic and the plain laws that they rest on, or the row over them. (Conditions: none beyond the statement.)
-/
import Derived.Test.YtgkpbeikcpecbaaPxH
import Derived.Test.YtgkpbeikcpecbaaPfL
import Derived.Test.YtgkpbeikcpecbaaPfM
set_option linter.all false
namespace Go.Proofs.Ytgkpbeikcpecbaa
open Go.RowKit Go.SL Go.ShM
set_option maxHeartbeats 1000000
set_option maxRecDepth 20000
set_option linter.all false

def pv (p : Option Nat) : Value := .pointer (p.map fun b => ⟨b, 0, none⟩)
def eP (p : Option Nat) : List Value := [pv p]
theorem encP : Enc eP 1 := ⟨fun _ => rfl, fun x v hv => by simp [eP, pv] at hv; subst hv; rfl⟩
end Go.Proofs.Ytgkpbeikcpecbaa
namespace Go.Proofs.Ytgkpbeikcpecbaa
open Go.RowKit Go.SL Go.ShM
set_option maxHeartbeats 1000000
set_option maxRecDepth 20000
set_option linter.all false
theorem cf73 : cfn Try.prog 73 = true := by kernel_rfl
theorem cf75 : cfn Try.prog 75 = true := by kernel_rfl
theorem cf80 : cfn Try.prog 80 = true := by kernel_rfl
theorem cf87 : cfn Try.prog 87 = true := by kernel_rfl
theorem cf88 : cfn Try.prog 88 = true := by kernel_rfl
theorem sz121 : sz Try.prog 121 = some 1 := by kernel_rfl
end Go.Proofs.Ytgkpbeikcpecbaa
namespace Go.Proofs.Ytgkpbeikcpecbaa
open Go.RowKit Go.SL Go.ShM
set_option maxHeartbeats 1000000
set_option maxRecDepth 20000
set_option linter.all false

end Go.Proofs.Ytgkpbeikcpecbaa
namespace Go.Proofs.Ytgkpbeikcpecbaa
open Go.RowKit Go.SL Go.ShM
set_option maxHeartbeats 1000000
set_option maxRecDepth 20000
set_option linter.all false

end Go.Proofs.Ytgkpbeikcpecbaa
namespace Go.Proofs.Ytgkpbeikcpecbaa
open Go.RowKit Go.SL Go.ShM
set_option maxHeartbeats 1000000
set_option maxRecDepth 20000
set_option linter.all false

end Go.Proofs.Ytgkpbeikcpecbaa
namespace Go.Proofs.Ytgkpbeikcpecbaa
open Go.RowKit Go.SL Go.ShM
set_option maxHeartbeats 1000000
set_option maxRecDepth 20000
set_option linter.all false
theorem ud145 : Try.prog.underlying 145 = some (.slice 120) := by kernel_rfl
end Go.Proofs.Ytgkpbeikcpecbaa
namespace Go.Proofs.Ytgkpbeikcpecbaa
open Go.RowKit Go.SL Go.ShM
set_option maxHeartbeats 1000000
set_option maxRecDepth 20000
set_option linter.all false
theorem take_nx {α : Type} {l : List α} {j : Nat} {a : α} (h : l[j]? = some a) : l.take j ++ [a] = l.take (j + 1) := by
  obtain ⟨hj, e⟩ := List.getElem?_eq_some_iff.1 h
  rw [List.take_succ_eq_append_getElem hj, e]

end Go.Proofs.Ytgkpbeikcpecbaa
