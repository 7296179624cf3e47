/-
  Contracts of functions that the claim reaches, or the logic and the plain laws that they rest on, or the row over them. (Conditions: none beyond the statement.)
-/
import Derived.Test.YtgkpbeikcpecbaaLibD
set_option linter.all false
/-
  Trees: each node above two is their digest; leaves stand at the bottom; where two trees of one root differ there is a clash. (Conditions: none; no program in sight.)
-/
set_option maxRecDepth 20000
namespace Go.ShM
open Go.SL Go.RowKit
theorem getD_set_ne' {l : List Dg} {i j : Nat} {d : Dg} (h : i ≠ j) : (l.set i d).getD j zD = l.getD j zD := by
  rw [List.getD_eq_getElem?_getD, List.getD_eq_getElem?_getD, List.getElem?_set_ne h]
theorem getD_set_eq' {l : List Dg} {i : Nat} {d : Dg} (h : i < l.length) : (l.set i d).getD i zD = d := by
  rw [List.getD_eq_getElem?_getD, List.getElem?_set_self h]; rfl
theorem up_low {o : List Dg} {w j : Nat} (hj : w - 1 ≤ j) : ∀ m, m ≤ w - 1 → (upI o w m).getD j zD = o.getD j zD
  | 0, _ => rfl
  | m + 1, h => by rw [upI, getD_set_ne' (by omega), up_low hj m (by omega)]
theorem up_node {o : List Dg} {w : Nat} (ho : o.length = 2 * w - 1) : ∀ m, m ≤ w - 1 → ∀ x, w - 1 - m < x → x < w → (upI o w m).getD (x - 1) zD = nodeD ((upI o w m).getD (2 * x - 1) zD) ((upI o w m).getD (2 * x) zD)
  | 0, _, x, h1, h2 => by omega
  | m + 1, h, x, h1, h2 => by
    have hl := upI_len o w m
    rw [upI]
    by_cases hx : x = w - 1 - m
    · subst hx
      rw [getD_set_eq' (by omega), getD_set_ne' (by omega), getD_set_ne' (by omega)]
    · rw [getD_set_ne' (by omega), getD_set_ne' (by omega), getD_set_ne' (by omega)]
      exact up_node ho m (by omega) x (by omega) h2
theorem bld_node {ls : List Dg} (h : wdE ls.length = 0) {x : Nat} (h1 : 1 ≤ x) (h2 : x < wdM ls.length) : (bldM ls).getD (x - 1) zD = nodeD ((bldM ls).getD (2 * x - 1) zD) ((bldM ls).getD (2 * x) zD) := by
  obtain ⟨a, b⟩ := wdE_iff.1 h
  obtain ⟨w1, w2, w3, w4, w5⟩ := wd_ok a b
  rw [bld_ok h]
  exact up_node (lowI_len w5 (by omega)) _ (Nat.le_refl _) x (by omega) h2
theorem bld_leaf {ls : List Dg} (h : wdE ls.length = 0) {i : Nat} (hi : i < ls.length) : (bldM ls).getD (wdM ls.length - 1 + i) zD = ls.getD i zD := by
  obtain ⟨a, b⟩ := wdE_iff.1 h
  obtain ⟨w1, w2, w3, w4, w5⟩ := wd_ok a b
  rw [bld_ok h, up_low (by omega) _ (Nat.le_refl _)]
  unfold lowI botM
  rw [List.getD_eq_getElem?_getD, List.getD_eq_getElem?_getD, List.append_assoc, List.append_assoc, List.getElem?_append_right (by simp), List.getElem?_append_left (by simp; omega)]
  simp
end Go.ShM
namespace Go.SL
end Go.SL
