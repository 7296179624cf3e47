/-
  Contracts of functions that the claim reaches, or the logic and the plain laws that they rest on, or the row over them. (Conditions: none beyond the statement.)
-/
import Derived.Test.YtgkpbeikcpecbaaTrLeaves
import Derived.Test.YtgkpbeikcpecbaaTrClimb
import Derived.Test.YtgkpbeikcpecbaaLibR
set_option linter.all false
/-
  The document's trees in plain words: the way up as a list, what stands beside it, the nodes laid from the last one on, where two lists differ. (Conditions: none; no program in sight.)
-/
set_option maxRecDepth 20000
namespace Go.ShM
open Go.SL Go.RowKit
/-! ### the way up -/
def upL (i : Nat) : List Nat := if h : i < 1 then [] else i :: upL (i / 2)
termination_by i
decreasing_by omega
theorem upL_0 : upL 0 = [] := by rw [upL, dif_pos (by omega)]
theorem upL_gt {i : Nat} (h : 1 ≤ i) : upL i = i :: upL (i / 2) := by rw [upL, dif_neg (by omega)]
theorem upL_lenle : ∀ y, (upL y).length ≤ y := by
  intro y
  induction y using Nat.strongRecOn with
  | _ y ih =>
    rcases Nat.eq_zero_or_pos y with q | q
    · subst q; rw [upL_0]; exact Nat.le_refl _
    · rw [upL_gt q, List.length_cons]
      have := ih (y / 2) (by omega)
      omega
theorem upL_le {w : Nat} : ∀ y, y ≤ w → ∀ x ∈ upL y, 1 ≤ x ∧ x ≤ w := by
  intro y
  induction y using Nat.strongRecOn with
  | _ y ih =>
    intro h2 x hx
    rcases Nat.eq_zero_or_pos y with q | q
    · subst q; rw [upL_0] at hx; cases hx
    · rw [upL_gt q] at hx
      rcases List.mem_cons.1 hx with e | e
      · omega
      · exact ih (y / 2) (by omega) (by omega) x e
/-- what stands beside numbers -/
def chR : List Nat → List Nat
  | [] => []
  | x :: r => (if x % 2 = 0 then [x + 1] else if 1 < x then [x - 1] else []) ++ chR r
theorem chR_even {x : Nat} {r : List Nat} (h : x % 2 = 0) : chR (x :: r) = (x + 1) :: chR r := by rw [chR, if_pos h]; rfl
theorem chR_odd {x : Nat} {r : List Nat} (h : ¬ x % 2 = 0) (h2 : 1 < x) : chR (x :: r) = (x - 1) :: chR r := by rw [chR, if_neg h, if_pos h2]; rfl
theorem chR_one {x : Nat} {r : List Nat} (h : ¬ x % 2 = 0) (h2 : ¬ 1 < x) : chR (x :: r) = chR r := by rw [chR, if_neg h, if_neg h2]; rfl
theorem chR_up : ∀ y, chR (upL y) = chL y := by
  intro y
  induction y using Nat.strongRecOn with
  | _ y ih =>
    rcases Nat.eq_zero_or_pos y with q | q
    · subst q; rw [upL_0, chL_le (by omega)]; rfl
    · rw [upL_gt q]
      rcases Nat.lt_or_ge 1 y with q2 | q2
      · rw [chL_gt q2, xor1, ← ih (y / 2) (by omega)]
        by_cases h : y % 2 = 0
        · rw [chR_even h, if_pos h]
        · rw [chR_odd h q2, if_neg h]
      · rw [chL_le q2, chR_one (by omega) (by omega), ih (y / 2) (by omega), chL_le (by omega)]
theorem drop_at {l : List Nat} {i : Nat} (h : i < l.length) : l.drop i = l.getD i 0 :: l.drop (i + 1) := drop_getD 0 h
/-! ### the nodes, laid from the last one on -/
def dnI (B : List Dg) (i : Nat) : List Dg := List.replicate i zD ++ B.drop i
theorem dnI_len {B : List Dg} {i : Nat} (h : i ≤ B.length) : (dnI B i).length = B.length := by simp [dnI]; omega
theorem dnI_all (B : List Dg) : dnI B B.length = List.replicate B.length zD := by simp [dnI]
theorem dnI_0 (B : List Dg) : dnI B 0 = B := by simp [dnI]
theorem dnI_get {B : List Dg} {i j : Nat} (h : i ≤ j) (hi : i ≤ B.length) : (dnI B i).getD j zD = B.getD j zD := by
  unfold dnI
  rw [List.getD_eq_getElem?_getD, List.getD_eq_getElem?_getD, List.getElem?_append_right (by simpa using h), List.length_replicate, List.getElem?_drop, show i + (j - i) = j by omega]
theorem dnI_set {B : List Dg} {i : Nat} (h : i < B.length) : (dnI B (i + 1)).set i (B.getD i zD) = dnI B i := by
  unfold dnI
  have e : List.replicate (i + 1) zD = List.replicate i zD ++ [zD] := by rw [List.replicate_succ']
  have e2 : B.drop i = B.getD i zD :: B.drop (i + 1) := drop_getD zD h
  rw [e, List.append_assoc, List.set_append_right _ _ (by simp), List.length_replicate, Nat.sub_self, e2]
  rfl
/-! ### a node of the tree -/
def ndV (ls : List Dg) (x : Nat) : Dg := (bldM ls).getD (x - 1) zD
theorem ndV_leaf {ls : List Dg} (h : wdE ls.length = 0) {x : Nat} (h1 : wdM ls.length ≤ x) (h2 : x - wdM ls.length < ls.length) : ndV ls x = ls.getD (x - wdM ls.length) zD := by
  have hw := wd_ok (wdE_iff.1 h).1 (wdE_iff.1 h).2
  have := bld_leaf h (i := x - wdM ls.length) h2
  unfold ndV
  rw [← this]; congr 1; omega
theorem ndV_pad {ls : List Dg} (h : wdE ls.length = 0) {x : Nat} (h1 : wdM ls.length ≤ x) (h2 : ls.length ≤ x - wdM ls.length) (h3 : x < 2 * wdM ls.length) : ndV ls x = padD (x - wdM ls.length) :=
  bld_pad h (by omega) (by rw [bld_len h]; omega)
theorem ndV_node {ls : List Dg} (h : wdE ls.length = 0) {x : Nat} (h1 : 1 ≤ x) (h2 : x < wdM ls.length) : ndV ls x = nodeD (ndV ls (2 * x)) (ndV ls (2 * x + 1)) := by
  unfold ndV
  rw [bld_node h h1 h2, Nat.add_sub_cancel]
/-! ### where two lists differ -/
/-! ### numbers told as such -/
end Go.ShM
