/-
  Contracts of functions that the claim reaches, or the logic and the plain laws that they rest on, or the row over them. (Conditions: none beyond the statement.)
-/
import Derived.Test.YtilmiikfjcdllaaShLst
import Derived.Test.YtilmiikfjcdllaaApB
import Derived.Test.YtilmiikfjcdllaaShA
import Derived.Test.YtilmiikfjcdllaaLibC
import Derived.Test.YtilmiikfjcdllaaTrArg
set_option linter.all false
/-
  A script of calls of the digest's functions, in plain words, and as it is handed in. (Conditions: none; no program in sight.)
-/
set_option maxRecDepth 20000
namespace Go.ShM
open Go.SL Go.RowKit Go.ChangeShapes Go.WideShapes
structure OQ where
  call : Int
  ws : List B32
  bs : List B8
  n : Int
  p : PPt
  hw : ws.length = 8
  hb : bs.length = 64
section
variable {H : Type} {enc : TypeId × Value → H} {P : Program} {W : World} {base : Nat} {sp : Nat → Bool} {hd : Bool}
end
end Go.ShM
