/-
  Contracts of functions that the claim reaches, or the logic and the plain laws that they rest on, or the row over them. (Conditions: none beyond the statement.)
-/
import Derived.Test.YtgkpbeikcpecbaaTrLaw2
set_option linter.all false
/-
  The plain law of the way up: a leaf's node, the nodes beside the way. (Conditions: none; no program in sight.)
-/
namespace Go.ShM
def ndOk (n l : Int) : Prop := (1 ≤ n ∧ n ≤ 512) ∧ 0 ≤ l ∧ l < n
instance (n l : Int) : Decidable (ndOk n l) := by unfold ndOk; exact inferInstance
def ndM (n l : Int) : Nat := if ndOk n l then wdM n.toNat + l.toNat else 0
def ndE (n l : Int) : Nat := if wdE n.toNat ≠ 0 then 110 else if ndOk n l then 0 else 111
def chL (i : Nat) : List Nat := if h : i ≤ 1 then [] else (i ^^^ 1) :: chL (i / 2)
termination_by i
decreasing_by omega
theorem chL_le {i : Nat} (h : i ≤ 1) : chL i = [] := by rw [chL, dif_pos h]
theorem chL_gt {i : Nat} (h : 1 < i) : chL i = (i ^^^ 1) :: chL (i / 2) := by rw [chL, dif_neg (by omega)]
theorem nd_le (n l : Int) : ndM n l ≤ 1024 := by
  unfold ndM
  split
  · rename_i h
    have := wd_ok (n := n.toNat) (by have := h.1; omega) (by have := h.1; omega)
    have := h.2; have := h.1
    omega
  · omega
theorem nd_no {n l : Int} (h : ndE n l ≠ 0) : ndM n l = 0 := by
  unfold ndE at h; unfold ndM
  split at h
  · rename_i h1
    rw [if_neg]
    intro hk
    exact h1 (wdE_iff.2 ⟨by have := hk.1; omega, by have := hk.1; omega⟩)
  · split at h
    · omega
    · rename_i h2; rw [if_neg h2]
theorem nd_w {n l : Int} (h : wdE n.toNat ≠ 0) : ndE n l = wdE n.toNat ∧ ndM n l = 0 := by
  have e : ndE n l = 110 := by unfold ndE; rw [if_pos h]
  refine ⟨?_, nd_no (by omega)⟩
  rw [e]; unfold wdE at h ⊢; split at h <;> simp_all
theorem nd_l {n l : Int} (h : wdE n.toNat = 0) (h2 : l < 0 ∨ n ≤ l) : ndE n l = 111 ∧ ndM n l = 0 := by
  have e : ndE n l = 111 := by unfold ndE; rw [if_neg (by omega), if_neg (by unfold ndOk; omega)]
  exact ⟨e, nd_no (by omega)⟩
theorem nd_ok {n l : Int} (h : wdE n.toNat = 0) (h2 : 0 ≤ l) (h3 : l < n) : ndE n l = 0 ∧ ndM n l = wdM n.toNat + l.toNat := by
  have h4 := wdE_iff.1 h
  have hk : ndOk n l := by unfold ndOk; omega
  exact ⟨by unfold ndE; rw [if_neg (by omega), if_pos hk], by unfold ndM; rw [if_pos hk]⟩
end Go.ShM
