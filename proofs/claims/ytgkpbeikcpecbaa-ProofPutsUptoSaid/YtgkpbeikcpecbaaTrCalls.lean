/-
  Contracts of functions that the claim reaches, or the logic and the plain laws that they rest on, or the row over them. (Conditions: none beyond the statement.)
-/
import Derived.Test.YtgkpbeikcpecbaaTrLeaves
import Derived.Test.YtgkpbeikcpecbaaTrClimb
import Derived.Test.YtgkpbeikcpecbaaLibR
set_option linter.all false
/-
  The document's trees in plain words: the way up as a list, what stands beside it, the nodes laid from the last one on, where two lists differ. (Conditions: none; no program in sight.)
-/
set_option maxRecDepth 20000
namespace Go.ShM
open Go.SL Go.RowKit
/-! ### the way up -/
/-! ### the nodes, laid from the last one on -/
def dnI (B : List Dg) (i : Nat) : List Dg := List.replicate i zD ++ B.drop i
theorem dnI_len {B : List Dg} {i : Nat} (h : i ≤ B.length) : (dnI B i).length = B.length := by simp [dnI]; omega
theorem dnI_all (B : List Dg) : dnI B B.length = List.replicate B.length zD := by simp [dnI]
theorem dnI_0 (B : List Dg) : dnI B 0 = B := by simp [dnI]
theorem dnI_get {B : List Dg} {i j : Nat} (h : i ≤ j) (hi : i ≤ B.length) : (dnI B i).getD j zD = B.getD j zD := by
  unfold dnI
  rw [List.getD_eq_getElem?_getD, List.getD_eq_getElem?_getD, List.getElem?_append_right (by simpa using h), List.length_replicate, List.getElem?_drop, show i + (j - i) = j by omega]
theorem dnI_set {B : List Dg} {i : Nat} (h : i < B.length) : (dnI B (i + 1)).set i (B.getD i zD) = dnI B i := by
  unfold dnI
  have e : List.replicate (i + 1) zD = List.replicate i zD ++ [zD] := by rw [List.replicate_succ']
  have e2 : B.drop i = B.getD i zD :: B.drop (i + 1) := drop_getD zD h
  rw [e, List.append_assoc, List.set_append_right _ _ (by simp), List.length_replicate, Nat.sub_self, e2]
  rfl
/-! ### a node of the tree -/
def ndV (ls : List Dg) (x : Nat) : Dg := (bldM ls).getD (x - 1) zD
theorem ndV_leaf {ls : List Dg} (h : wdE ls.length = 0) {x : Nat} (h1 : wdM ls.length ≤ x) (h2 : x - wdM ls.length < ls.length) : ndV ls x = ls.getD (x - wdM ls.length) zD := by
  have hw := wd_ok (wdE_iff.1 h).1 (wdE_iff.1 h).2
  have := bld_leaf h (i := x - wdM ls.length) h2
  unfold ndV
  rw [← this]; congr 1; omega
theorem ndV_pad {ls : List Dg} (h : wdE ls.length = 0) {x : Nat} (h1 : wdM ls.length ≤ x) (h2 : ls.length ≤ x - wdM ls.length) (h3 : x < 2 * wdM ls.length) : ndV ls x = padD (x - wdM ls.length) :=
  bld_pad h (by omega) (by rw [bld_len h]; omega)
theorem ndV_node {ls : List Dg} (h : wdE ls.length = 0) {x : Nat} (h1 : 1 ≤ x) (h2 : x < wdM ls.length) : ndV ls x = nodeD (ndV ls (2 * x)) (ndV ls (2 * x + 1)) := by
  unfold ndV
  rw [bld_node h h1 h2, Nat.add_sub_cancel]
/-! ### where two lists differ -/
/-! ### numbers told as such -/
end Go.ShM
