/-
  Contracts of functions that the claim reaches, or the logic and the plain laws that they rest on, or the row over them. (Conditions: none beyond the statement.)
-/
import Derived.Test.YthkchjcodibaeaaTrChain
import Derived.Test.YthkchjcodibaeaaSlXor
set_option linter.all false
/-
  The plain law of climbing: what a leaf and its chain lead to; two that lead to one root. (Conditions: none; no program in sight.)
-/
set_option maxRecDepth 20000
namespace Go.ShM
open Go.SL Go.RowKit
/-- one step: the node's brother is c, its number x -/
def clA (x : Nat) (c d : Dg) : Dg := if x % 2 = 0 then nodeD c d else nodeD d c
def clM : List Nat → List Dg → Dg → Dg
  | x :: xs, c :: cs, d => clM xs cs (clA x c d)
  | _, _, d => d
def clE (n l : Int) (c : List Dg) : Nat := if ndE n l ≠ 0 then ndE n l else if (chL (ndM n l)).length ≠ c.length then 112 else 0
def clD (n l : Int) (d : Dg) (c : List Dg) : Dg := if clE n l c = 0 then clM (chL (ndM n l)) c d else zD
theorem cl_e {n l : Int} {c : List Dg} (h : ndE n l ≠ 0) : clE n l c = ndE n l := by unfold clE; rw [if_pos h]
theorem cl_l {n l : Int} {c : List Dg} (h : ndE n l = 0) (h2 : ¬ (chL (ndM n l)).length = c.length) : clE n l c = 112 := by unfold clE; rw [if_neg (by omega), if_pos h2]
theorem cl_0 {n l : Int} {c : List Dg} (h : ndE n l = 0) (h2 : (chL (ndM n l)).length = c.length) : clE n l c = 0 := by unfold clE; rw [if_neg (by omega), if_neg (by simpa using h2)]
theorem cl_z {n l : Int} {d : Dg} {c : List Dg} (h : clE n l c ≠ 0) : clD n l d c = zD := by unfold clD; rw [if_neg h]
theorem cl_ok {n l : Int} {d : Dg} {c : List Dg} (h : clE n l c = 0) : clD n l d c = clM (chL (ndM n l)) c d := by unfold clD; rw [if_pos h]
theorem cl_inv {n l : Int} {c : List Dg} (h : clE n l c = 0) : ndE n l = 0 ∧ (chL (ndM n l)).length = c.length := by
  unfold clE at h
  split at h
  · omega
  · split at h
    · omega
    · rename_i h1 h2; exact ⟨by omega, Classical.not_not.1 h2⟩
theorem drop_getD {α : Type} {l : List α} {i : Nat} (z : α) (h : i < l.length) : l.drop i = l.getD i z :: l.drop (i + 1) := by
  rw [List.getD_eq_getElem?_getD, List.getElem?_eq_getElem h]; simp
theorem cl_step {ns : List Nat} {c : List Dg} {i : Nat} {d : Dg} (h1 : i < ns.length) (h2 : i < c.length) : clM (ns.drop i) (c.drop i) d = clM (ns.drop (i + 1)) (c.drop (i + 1)) (clA (ns.getD i 0) (c.getD i zD) d) := by
  rw [drop_getD 0 h1, drop_getD zD h2, clM]
theorem clA_even {x : Nat} {c d : Dg} (h : x % 2 = 0) : clA x c d = nodeD c d := by unfold clA; rw [if_pos h]
theorem clA_odd {x : Nat} {c d : Dg} (h : ¬ x % 2 = 0) : clA x c d = nodeD d c := by unfold clA; rw [if_neg h]
theorem clM_nil {c : List Dg} {d : Dg} : clM [] c d = d := by cases c <;> rfl
/-! ### the law TreeOne -/
/-- a node over a place: y = 2^k + p -/
def RP (y p : Nat) : Prop := ∃ k, y = 2 ^ k + p ∧ p < 2 ^ k
theorem RP.par {y p : Nat} (h : RP y p) (hy : 1 < y) : y % 2 = p % 2 ∧ RP (y / 2) (p / 2) := by
  obtain ⟨k, h1, h2⟩ := h
  cases k with
  | zero => simp at h1 h2; omega
  | succ k =>
    rw [Nat.pow_succ] at h1 h2
    exact ⟨by omega, k, by omega, by omega⟩
theorem RP_nd {n l : Int} (h : ndE n l = 0) : RP (ndM n l) l.toNat := by
  unfold ndE at h
  split at h
  · omega
  · split at h
    · rename_i h1 h2
      have hw := wdE_iff.1 (show wdE n.toNat = 0 by omega)
      have hm : ndM n l = wdM n.toNat + l.toNat := by unfold ndM; rw [if_pos h2]
      have h3 := h2.2
      have hwo := wd_ok hw.1 hw.2
      have hv : ∃ k, wdM n.toNat = 2 ^ k := by
        unfold wdM
        have hw1 := hw.1; have hw2 := hw.2
        repeat' split
        · omega
        · exact ⟨0, rfl⟩
        · exact ⟨1, rfl⟩
        · exact ⟨2, rfl⟩
        · exact ⟨3, rfl⟩
        · exact ⟨4, rfl⟩
        · exact ⟨5, rfl⟩
        · exact ⟨6, rfl⟩
        · exact ⟨7, rfl⟩
        · exact ⟨8, rfl⟩
        · exact ⟨9, rfl⟩
      obtain ⟨k, hk⟩ := hv
      exact ⟨k, by omega, by omega⟩
    · omega
theorem nd_pos {n l : Int} (h : ndE n l = 0) : 0 ≤ l := by
  unfold ndE at h
  split at h
  · omega
  · split at h
    · rename_i h2; exact h2.2.1
    · omega
theorem nd_lt {n l : Int} (h : ndE n l = 0) : l.toNat ≤ 512 := by
  unfold ndE at h
  split at h
  · omega
  · split at h
    · rename_i h2; have h3 := h2.2.2; have h4 := h2.1.2; omega
    · omega
/-- the two sides at one step: the number's parity is the place's -/
theorem ch_head {ns : List Nat} {i y p : Nat} (h : ns.drop i = chL y) (hi : i < ns.length) (hr : RP y p) : (ns.getD i 0 % 2 = 0 ↔ p % 2 = 1) ∧ ns.drop (i + 1) = chL (y / 2) ∧ RP (y / 2) (p / 2) := by
  have hd := drop_getD 0 hi
  have hy : 1 < y := by
    rcases Nat.lt_or_ge 1 y with q | q
    · exact q
    · rw [chL_le q, hd] at h; cases h
  rw [chL_gt hy, hd] at h
  injection h with e1 e2
  obtain ⟨h1, h2⟩ := hr.par hy
  refine ⟨?_, e2, h2⟩
  rw [e1, xor1]
  split <;> omega
theorem one_stepO {ns : List Nat} {c d : List Dg} {i y p : Nat} {aa bb : Dg} (hi : i < ns.length) (hc : i < c.length) (hd : i < d.length) (e1 : clM (ns.drop i) (c.drop i) aa = clM (ns.drop i) (d.drop i) bb) (e2 : ¬ (aa = bb ∧ c.drop i = d.drop i)) (e3 : ns.drop i = chL y) (e4 : RP y p)
    (hp : p % 2 = 1) (hcl : clB (tagB 6#8 [(c.getD i zD).1, aa.1]) (tagB 6#8 [(d.getD i zD).1, bb.1]) = false) :
    clM (ns.drop (i + 1)) (c.drop (i + 1)) (nodeD (c.getD i zD) aa) = clM (ns.drop (i + 1)) (d.drop (i + 1)) (nodeD (d.getD i zD) bb) ∧ ¬ (nodeD (c.getD i zD) aa = nodeD (d.getD i zD) bb ∧ c.drop (i + 1) = d.drop (i + 1)) ∧ ns.drop (i + 1) = chL (y / 2) ∧ RP (y / 2) (p / 2) := by
  obtain ⟨h1, h2, h3⟩ := ch_head e3 hi e4
  have hx := h1.2 hp
  rw [cl_step hi hc, cl_step hi hd, clA_even hx, clA_even hx] at e1
  refine ⟨e1, ?_, h2, h3⟩
  rintro ⟨g1, g2⟩
  refine e2 ?_
  by_cases hq : c.getD i zD = d.getD i zD ∧ aa = bb
  · exact ⟨hq.2, by rw [drop_getD zD hc, drop_getD zD hd, hq.1, g2]⟩
  · rw [node_clash g1 hq] at hcl; cases hcl
theorem one_stepE {ns : List Nat} {c d : List Dg} {i y p : Nat} {aa bb : Dg} (hi : i < ns.length) (hc : i < c.length) (hd : i < d.length) (e1 : clM (ns.drop i) (c.drop i) aa = clM (ns.drop i) (d.drop i) bb) (e2 : ¬ (aa = bb ∧ c.drop i = d.drop i)) (e3 : ns.drop i = chL y) (e4 : RP y p)
    (hp : ¬ p % 2 = 1) (hcl : clB (tagB 6#8 [aa.1, (c.getD i zD).1]) (tagB 6#8 [bb.1, (d.getD i zD).1]) = false) :
    clM (ns.drop (i + 1)) (c.drop (i + 1)) (nodeD aa (c.getD i zD)) = clM (ns.drop (i + 1)) (d.drop (i + 1)) (nodeD bb (d.getD i zD)) ∧ ¬ (nodeD aa (c.getD i zD) = nodeD bb (d.getD i zD) ∧ c.drop (i + 1) = d.drop (i + 1)) ∧ ns.drop (i + 1) = chL (y / 2) ∧ RP (y / 2) (p / 2) := by
  obtain ⟨h1, h2, h3⟩ := ch_head e3 hi e4
  have hx : ¬ ns.getD i 0 % 2 = 0 := fun h => hp (h1.1 h)
  rw [cl_step hi hc, cl_step hi hd, clA_odd hx, clA_odd hx] at e1
  refine ⟨e1, ?_, h2, h3⟩
  rintro ⟨g1, g2⟩
  refine e2 ?_
  by_cases hq : aa = bb ∧ c.getD i zD = d.getD i zD
  · exact ⟨hq.1, by rw [drop_getD zD hc, drop_getD zD hd, hq.2, g2]⟩
  · rw [node_clash g1 hq] at hcl; cases hcl
theorem one_end {ns : List Nat} {c d : List Dg} {i : Nat} {aa bb : Dg} (hi : ns.length ≤ i) (hc : c.length ≤ i) (hd : d.length ≤ i) (e1 : clM (ns.drop i) (c.drop i) aa = clM (ns.drop i) (d.drop i) bb) (e2 : ¬ (aa = bb ∧ c.drop i = d.drop i)) : False := by
  rw [List.drop_eq_nil_of_le hi, List.drop_eq_nil_of_le hc, List.drop_eq_nil_of_le hd, clM_nil, clM_nil] at e1
  exact e2 ⟨e1, by rw [List.drop_eq_nil_of_le hc, List.drop_eq_nil_of_le hd]⟩
end Go.ShM
