/-
  Contracts of functions that the claim reaches, or the logic and the plain laws that they rest on, or the row over them. (Conditions: none beyond the statement.)
-/
import Derived.Test.YtilmiikfjcdllaaLibR
set_option linter.all false
/-
  Lists of bytes handed out, written over, longer ones made of them: in plain words, and what is owned. (Conditions: none; no program in sight.)
-/
set_option maxRecDepth 20000
namespace Go.ShM
open Go.SL Go.RowKit
structure PB where
  a : Option Nat
  cap : Nat
  l : List B8
end Go.ShM
