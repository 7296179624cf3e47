/-
  Contracts of functions that the claim reaches, or the logic and the plain laws that they rest on, or the row over them. (Conditions: none beyond the statement.)
-/
import Derived.Test.YthkchjcodibaeaaTrClimb
set_option linter.all false
/-
  The plain law of a tree's leaves out of its nodes; climbing along the chain ends at the root. (Conditions: none; no program in sight.)
-/
set_option maxRecDepth 20000
namespace Go.ShM
open Go.SL Go.RowKit
/-! ### the leaves out of the nodes -/
/-- is node x not what a tree over n leaves, w wide, asks? -/
def bad (n w : Nat) (ns : List Dg) (x : Nat) : Bool :=
  (decide (x < w) && decide (¬ ns.getD (x - 1) zD = nodeD (ns.getD (2 * x - 1) zD) (ns.getD (2 * x) zD))) || (decide (w + n ≤ x) && decide (¬ ns.getD (x - 1) zD = padD (x - w)))
def lvA (n : Nat) (ns : List Dg) : Nat := if wdE n ≠ 0 then 0 else if ns.length ≠ 2 * wdM n - 1 then 0 else ((List.range' 1 ns.length).find? (bad n (wdM n) ns)).getD 0
def lvE (n : Nat) (ns : List Dg) : Nat := if wdE n ≠ 0 then wdE n else if ns.length ≠ 2 * wdM n - 1 then 112 else if ((List.range' 1 ns.length).find? (bad n (wdM n) ns)).isSome then 113 else 0
def lvL (n : Nat) (ns : List Dg) : List Dg := if lvE n ns = 0 then (ns.drop (wdM n - 1)).take n else []
theorem bld_pad {ls : List Dg} (h : wdE ls.length = 0) {x : Nat} (h1 : wdM ls.length + ls.length ≤ x) (h2 : x ≤ (bldM ls).length) : (bldM ls).getD (x - 1) zD = padD (x - wdM ls.length) := by
  have hl := bld_len h
  obtain ⟨a, b⟩ := wdE_iff.1 h
  obtain ⟨w1, w2, w3, w4, w5⟩ := wd_ok a b
  rw [hl] at h2
  rw [bld_ok h, up_low (by omega) _ (Nat.le_refl _)]
  unfold lowI botM
  rw [List.getD_eq_getElem?_getD, List.append_assoc, List.append_assoc, List.getElem?_append_right (by simp; omega), List.getElem?_append_right (by simp; omega), List.getElem?_append_left (by simp; omega)]
  rw [List.getElem?_map, List.getElem?_range (by simp; omega)]
  simp only [List.length_replicate, Option.map_some, Option.getD_some]
  congr 1; omega
theorem lv_w {n : Nat} {ns : List Dg} (h : ¬ wdE n = 0) : lvE n ns = wdE n ∧ lvA n ns = 0 ∧ lvL n ns = [] := by
  have e1 : lvE n ns = wdE n := by unfold lvE; rw [if_pos h]
  exact ⟨e1, by unfold lvA; rw [if_pos h], by unfold lvL; rw [if_neg (by omega)]⟩
theorem lv_l {n : Nat} {ns : List Dg} (h : wdE n = 0) (h2 : ¬ ns.length = 2 * wdM n - 1) : lvE n ns = 112 ∧ lvA n ns = 0 ∧ lvL n ns = [] := by
  have e1 : lvE n ns = 112 := by unfold lvE; rw [if_neg (by omega), if_pos h2]
  exact ⟨e1, by unfold lvA; rw [if_neg (by omega), if_pos h2], by unfold lvL; rw [if_neg (by omega)]⟩
theorem lv_bad {n i : Nat} {ns : List Dg} (h : wdE n = 0) (h2 : ns.length = 2 * wdM n - 1) (hi : i < ns.length) (hb : bad n (wdM n) ns (i + 1) = true) (hg : ∀ x, 1 ≤ x → x ≤ i → bad n (wdM n) ns x = false) : lvE n ns = 113 ∧ lvA n ns = i + 1 ∧ lvL n ns = [] := by
  have hf : (List.range' 1 ns.length).find? (bad n (wdM n) ns) = some (i + 1) := by
    rw [List.find?_range'_eq_some]
    refine ⟨hb, by simp; omega, fun j h1 h2 => ?_⟩
    rw [hg j h1 (by omega)]; rfl
  have e1 : lvE n ns = 113 := by unfold lvE; rw [if_neg (by omega), if_neg (by omega), hf]; rfl
  exact ⟨e1, by unfold lvA; rw [if_neg (by omega), if_neg (by omega), hf]; rfl, by unfold lvL; rw [if_neg (by omega)]⟩
theorem lv_good {n : Nat} {ns : List Dg} (h : wdE n = 0) (h2 : ns.length = 2 * wdM n - 1) (hg : ∀ x, 1 ≤ x → x ≤ ns.length → bad n (wdM n) ns x = false) : lvE n ns = 0 ∧ lvA n ns = 0 ∧ lvL n ns = (ns.drop (wdM n - 1)).take n := by
  have hf : (List.range' 1 ns.length).find? (bad n (wdM n) ns) = none := by
    rw [List.find?_range'_eq_none]
    intro i h1 h2
    rw [hg i h1 (by omega)]; rfl
  have e1 : lvE n ns = 0 := by unfold lvE; rw [if_neg (by omega), if_neg (by omega), hf]; rfl
  exact ⟨e1, by unfold lvA; rw [if_neg (by omega), if_neg (by omega), hf]; rfl, by unfold lvL; rw [if_pos e1]⟩
theorem nodeD_val (x y : Dg) : (nodeD x y).1 = tagD 6#8 [x.1, y.1] := rfl
theorem padD_val (i : Nat) : (padD i).1 = tagD 7#8 [big32 (BitVec.ofNat 32 i)] := rfl
theorem bad_1 {n w x : Nat} {ns : List Dg} (h : x < w) (hq : ¬ (ns.getD (x - 1) zD).1 = tagD 6#8 [(ns.getD (2 * x - 1) zD).1, (ns.getD (2 * x) zD).1]) : bad n w ns x = true := by
  rw [← nodeD_val] at hq
  unfold bad
  rw [Bool.or_eq_true, Bool.and_eq_true]
  exact .inl ⟨decide_eq_true h, decide_eq_true (fun e => hq (congrArg Subtype.val e))⟩
theorem bad_2 {n w x : Nat} {ns : List Dg} (h : w + n ≤ x) (hq : ¬ (ns.getD (x - 1) zD).1 = tagD 7#8 [big32 (BitVec.ofNat 32 (x - w))]) : bad n w ns x = true := by
  rw [← padD_val] at hq
  unfold bad
  rw [Bool.or_eq_true, Bool.and_eq_true, Bool.and_eq_true]
  exact .inr ⟨decide_eq_true h, decide_eq_true (fun e => hq (congrArg Subtype.val e))⟩
theorem good_1 {n w x : Nat} {ns : List Dg} (h : x < w) (hq : (ns.getD (x - 1) zD).1 = tagD 6#8 [(ns.getD (2 * x - 1) zD).1, (ns.getD (2 * x) zD).1]) : bad n w ns x = false := by
  rw [← nodeD_val] at hq
  unfold bad
  rw [Bool.or_eq_false_iff, Bool.and_eq_false_iff, Bool.and_eq_false_iff]
  exact ⟨.inr (decide_eq_false (not_not_intro (Subtype.ext hq))), .inl (decide_eq_false (by omega))⟩
theorem good_2 {n w x : Nat} {ns : List Dg} (h : ¬ x < w) (hq : (ns.getD (x - 1) zD).1 = tagD 7#8 [big32 (BitVec.ofNat 32 (x - w))]) : bad n w ns x = false := by
  rw [← padD_val] at hq
  unfold bad
  rw [Bool.or_eq_false_iff, Bool.and_eq_false_iff, Bool.and_eq_false_iff]
  exact ⟨.inl (decide_eq_false h), .inr (decide_eq_false (not_not_intro (Subtype.ext hq)))⟩
theorem good_3 {n w x : Nat} {ns : List Dg} (h : ¬ x < w) (h2 : ¬ w + n ≤ x) : bad n w ns x = false := by
  unfold bad
  rw [decide_eq_false h, decide_eq_false h2]; simp
theorem sv_nil {α : Type} {A : List Asn} {v : Value} {e : Nat} {f : α → List Value} {l : List α} {ao : Option Addr} {cap : Nat} (h : Sv A v e f l ao cap) (hn : ao.isNone = true) : l = [] := by
  rcases Nat.eq_zero_or_pos l.length with q | q
  · exact List.eq_nil_of_length_eq_zero q
  · have := h.ptr q
    rw [this] at hn; cases hn
end Go.ShM
namespace Go.ShM
open Go.SL Go.RowKit
theorem chL_lenle : ∀ y, (chL y).length ≤ y := by
  intro y
  induction y using Nat.strongRecOn with
  | _ y ih =>
    rcases Nat.lt_or_ge 1 y with q | q
    · rw [chL_gt q, List.length_cons]
      have := ih (y / 2) (by omega)
      omega
    · rw [chL_le q]; simp
end Go.ShM
