/-
  Contracts of functions that the claim reaches, or the logic and the plain laws that they rest on, or the row over them. (Conditions: none beyond the statement.)
-/
import Derived.Test.YtilmiikfjcdllaaLibR
import Derived.Test.YtilmiikfjcdllaaShA
import Derived.Test.YtilmiikfjcdllaaLibA
set_option linter.all false
/-
  Three hashes in turns, in plain words; a script of what is done, handed in. (Conditions: none; generic over the program.)
-/
set_option maxRecDepth 20000
namespace Go.ShM
open Go.SL Go.RowKit Go.ChangeShapes Go.WideShapes
structure It where
  b : Nat
  ha : Option Nat
  hc : Nat
  a : Option Nat
  cap : Nat
  M : List B8
structure MS where
  a : Option Nat
  cap : Nat
  M : List B8
structure AP where
  on : Int
  call : Int
  p : Pt
theorem at_i {α : Type} {l : List α} {i : Nat} (h : i < l.length) : ∃ x, l[i]? = some x := ⟨_, List.getElem?_eq_getElem h⟩
section
variable {H : Type} {enc : TypeId × Value → H} {P : Program} {W : World} {base : Nat} {sp : Nat → Bool} {hd : Bool}
end
end Go.ShM
