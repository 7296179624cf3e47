/-
  Contracts of functions that the claim reaches, or the logic and the plain laws that they rest on, or the row over them. (Conditions: none beyond the statement.)
-/
import Derived.Test.YtgkpbeikcpecbaaTrChain
import Derived.Test.YtgkpbeikcpecbaaLibR
set_option linter.all false
/-
  The plain law of climbing: what a leaf and its chain lead to; two that lead to one root. (Conditions: none; no program in sight.)
-/
set_option maxRecDepth 20000
namespace Go.ShM
open Go.SL Go.RowKit
/-- one step: the node's brother is c, its number x -/
def clA (x : Nat) (c d : Dg) : Dg := if x % 2 = 0 then nodeD c d else nodeD d c
def clM : List Nat → List Dg → Dg → Dg
  | x :: xs, c :: cs, d => clM xs cs (clA x c d)
  | _, _, d => d
def clE (n l : Int) (c : List Dg) : Nat := if ndE n l ≠ 0 then ndE n l else if (chL (ndM n l)).length ≠ c.length then 112 else 0
def clD (n l : Int) (d : Dg) (c : List Dg) : Dg := if clE n l c = 0 then clM (chL (ndM n l)) c d else zD
theorem cl_e {n l : Int} {c : List Dg} (h : ndE n l ≠ 0) : clE n l c = ndE n l := by unfold clE; rw [if_pos h]
theorem cl_l {n l : Int} {c : List Dg} (h : ndE n l = 0) (h2 : ¬ (chL (ndM n l)).length = c.length) : clE n l c = 112 := by unfold clE; rw [if_neg (by omega), if_pos h2]
theorem cl_0 {n l : Int} {c : List Dg} (h : ndE n l = 0) (h2 : (chL (ndM n l)).length = c.length) : clE n l c = 0 := by unfold clE; rw [if_neg (by omega), if_neg (by simpa using h2)]
theorem cl_z {n l : Int} {d : Dg} {c : List Dg} (h : clE n l c ≠ 0) : clD n l d c = zD := by unfold clD; rw [if_neg h]
theorem cl_ok {n l : Int} {d : Dg} {c : List Dg} (h : clE n l c = 0) : clD n l d c = clM (chL (ndM n l)) c d := by unfold clD; rw [if_pos h]
theorem drop_getD {α : Type} {l : List α} {i : Nat} (z : α) (h : i < l.length) : l.drop i = l.getD i z :: l.drop (i + 1) := by
  rw [List.getD_eq_getElem?_getD, List.getElem?_eq_getElem h]; simp
theorem cl_step {ns : List Nat} {c : List Dg} {i : Nat} {d : Dg} (h1 : i < ns.length) (h2 : i < c.length) : clM (ns.drop i) (c.drop i) d = clM (ns.drop (i + 1)) (c.drop (i + 1)) (clA (ns.getD i 0) (c.getD i zD) d) := by
  rw [drop_getD 0 h1, drop_getD zD h2, clM]
theorem clA_even {x : Nat} {c d : Dg} (h : x % 2 = 0) : clA x c d = nodeD c d := by unfold clA; rw [if_pos h]
theorem clA_odd {x : Nat} {c d : Dg} (h : ¬ x % 2 = 0) : clA x c d = nodeD d c := by unfold clA; rw [if_neg h]
theorem clM_nil {c : List Dg} {d : Dg} : clM [] c d = d := by cases c <;> rfl
/-! ### the law TreeOne -/
end Go.ShM
