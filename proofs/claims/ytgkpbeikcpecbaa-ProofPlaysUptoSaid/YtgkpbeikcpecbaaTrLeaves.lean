/-
  Contracts of functions that the claim reaches, or the logic and the plain laws that they rest on, or the row over them. (Conditions: none beyond the statement.)
-/
import Derived.Test.YtgkpbeikcpecbaaTrClimb
set_option linter.all false
/-
  The plain law of a tree's leaves out of its nodes; climbing along the chain ends at the root. (Conditions: none; no program in sight.)
-/
set_option maxRecDepth 20000
namespace Go.ShM
open Go.SL Go.RowKit
theorem bld_pad {ls : List Dg} (h : wdE ls.length = 0) {x : Nat} (h1 : wdM ls.length + ls.length ≤ x) (h2 : x ≤ (bldM ls).length) : (bldM ls).getD (x - 1) zD = padD (x - wdM ls.length) := by
  have hl := bld_len h
  obtain ⟨a, b⟩ := wdE_iff.1 h
  obtain ⟨w1, w2, w3, w4, w5⟩ := wd_ok a b
  rw [hl] at h2
  rw [bld_ok h, up_low (by omega) _ (Nat.le_refl _)]
  unfold lowI botM
  rw [List.getD_eq_getElem?_getD, List.append_assoc, List.append_assoc, List.getElem?_append_right (by simp; omega), List.getElem?_append_right (by simp; omega), List.getElem?_append_left (by simp; omega)]
  rw [List.getElem?_map, List.getElem?_range (by simp; omega)]
  simp only [List.length_replicate, Option.map_some, Option.getD_some]
  congr 1; omega
theorem nodeD_val (x y : Dg) : (nodeD x y).1 = tagD 6#8 [x.1, y.1] := rfl
theorem padD_val (i : Nat) : (padD i).1 = tagD 7#8 [big32 (BitVec.ofNat 32 i)] := rfl
end Go.ShM
namespace Go.ShM
open Go.SL Go.RowKit
theorem chL_lenle : ∀ y, (chL y).length ≤ y := by
  intro y
  induction y using Nat.strongRecOn with
  | _ y ih =>
    rcases Nat.lt_or_ge 1 y with q | q
    · rw [chL_gt q, List.length_cons]
      have := ih (y / 2) (by omega)
      omega
    · rw [chL_le q]; simp
end Go.ShM
