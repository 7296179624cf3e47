/-
  Contracts of functions that the claim reaches, or the logic and the plain laws that they rest on, or the row over them. (Conditions: none beyond the statement.)
-/
import Derived.Test.YtilmiikfjcdllaaLibC
import Derived.Test.YtilmiikfjcdllaaLibB
set_option linter.all false
/-
  copy into a part of one's own slice, elements of any size. (Conditions: none; generic over the program.)
-/
namespace Go.SL
open Go.RowKit
theorem mul_le {a b e : Nat} (h : a ≤ b) : a * e ≤ b * e := Nat.mul_le_mul_right e h
end Go.SL
/-
  Trees of digests in plain words: how wide, the nodes, the root. (Conditions: none; no program in sight.)
-/
set_option maxRecDepth 20000
namespace Go.ShM
open Go.SL Go.RowKit
def Dg : Type := { l : List B8 // l.length = 32 }
instance : DecidableEq Dg := fun a b => decidable_of_iff (a.1 = b.1) ⟨Subtype.ext, fun h => by rw [h]⟩
def wdM (n : Nat) : Nat := if n < 1 then 0 else if n ≤ 1 then 1 else if n ≤ 2 then 2 else if n ≤ 4 then 4 else if n ≤ 8 then 8 else if n ≤ 16 then 16 else if n ≤ 32 then 32 else if n ≤ 64 then 64 else if n ≤ 128 then 128 else if n ≤ 256 then 256 else if n ≤ 512 then 512 else 0
def wdE (n : Nat) : Nat := if n < 1 ∨ 512 < n then 110 else 0
end Go.ShM
namespace Go.ShM
open Go.SL Go.RowKit
end Go.ShM
/-
  Trees: a root over one leaf and over two, the first node at which two trees differ. (Conditions: none; no program in sight.)
-/
set_option maxRecDepth 20000
namespace Go.ShM
open Go.SL Go.RowKit
def difOk (a b : List Dg) : Prop := wdE ((a.length + 1) / 2) = 0 ∧ wdM ((a.length + 1) / 2) = (a.length + 1) / 2 ∧ a.length = 2 * ((a.length + 1) / 2) - 1 ∧ b.length = a.length
instance (a b : List Dg) : Decidable (difOk a b) := by unfold difOk; infer_instance
end Go.ShM
