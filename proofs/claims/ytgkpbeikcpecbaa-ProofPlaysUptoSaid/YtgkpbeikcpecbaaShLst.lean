/-
  Contracts of functions that the claim reaches, or the logic and the plain laws that they rest on, or the row over them. (Conditions: none beyond the statement.)
-/
import Derived.Test.YtgkpbeikcpecbaaLibR
set_option linter.all false
/-
  Lists of lists lent out, in plain words, and what is owned of them. (Conditions: none; no program in sight.)
-/
set_option maxRecDepth 20000
namespace Go.ShM
open Go.SL Go.RowKit
structure LE where
  a : Option Nat
  cap : Nat
  L : List B8
  n : Nat
structure LG where
  la : Option Nat
  lc : Nat
  ea : Option Nat
  ec : Nat
  es : List LE
  sp : List LE
structure KOk (ps fs gs : List Pt) : Prop where
  lf : fs.length = ps.length + 70
  lg : gs.length = ps.length
  hd : (fs.take ps.length).map (·.l) = ps.map (·.l)
  ea : ∀ (i : Nat) (p q : Pt), gs[i]? = some p → ps[i]? = some q → p.l = lentB q.l
  sp : ∀ (i : Nat) (p : Pt), i < 70 → fs[ps.length + i]? = some p → p.l = [BitVec.ofNat 8 i, 99#8]
end Go.ShM
