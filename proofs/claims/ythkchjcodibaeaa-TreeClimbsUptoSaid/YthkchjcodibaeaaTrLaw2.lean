/-
  Contracts of functions that the claim reaches, or the logic and the plain laws that they rest on, or the row over them. (Conditions: none beyond the statement.)
-/
import Derived.Test.YthkchjcodibaeaaLibD
set_option linter.all false
/-
  Trees: each node above two is their digest; leaves stand at the bottom; where two trees of one root differ there is a clash. (Conditions: none; no program in sight.)
-/
set_option maxRecDepth 20000
namespace Go.ShM
open Go.SL Go.RowKit
theorem getD_set_ne' {l : List Dg} {i j : Nat} {d : Dg} (h : i ≠ j) : (l.set i d).getD j zD = l.getD j zD := by
  rw [List.getD_eq_getElem?_getD, List.getD_eq_getElem?_getD, List.getElem?_set_ne h]
theorem getD_set_eq' {l : List Dg} {i : Nat} {d : Dg} (h : i < l.length) : (l.set i d).getD i zD = d := by
  rw [List.getD_eq_getElem?_getD, List.getElem?_set_self h]; rfl
/-- what stands at the bottom stays -/
theorem up_low {o : List Dg} {w j : Nat} (hj : w - 1 ≤ j) : ∀ m, m ≤ w - 1 → (upI o w m).getD j zD = o.getD j zD
  | 0, _ => rfl
  | m + 1, h => by rw [upI, getD_set_ne' (by omega), up_low hj m (by omega)]
theorem up_node {o : List Dg} {w : Nat} (ho : o.length = 2 * w - 1) : ∀ m, m ≤ w - 1 → ∀ x, w - 1 - m < x → x < w → (upI o w m).getD (x - 1) zD = nodeD ((upI o w m).getD (2 * x - 1) zD) ((upI o w m).getD (2 * x) zD)
  | 0, _, x, h1, h2 => by omega
  | m + 1, h, x, h1, h2 => by
    have hl := upI_len o w m
    rw [upI]
    by_cases hx : x = w - 1 - m
    · subst hx
      rw [getD_set_eq' (by omega), getD_set_ne' (by omega), getD_set_ne' (by omega)]
    · rw [getD_set_ne' (by omega), getD_set_ne' (by omega), getD_set_ne' (by omega)]
      exact up_node ho m (by omega) x (by omega) h2
theorem bld_node {ls : List Dg} (h : wdE ls.length = 0) {x : Nat} (h1 : 1 ≤ x) (h2 : x < wdM ls.length) : (bldM ls).getD (x - 1) zD = nodeD ((bldM ls).getD (2 * x - 1) zD) ((bldM ls).getD (2 * x) zD) := by
  obtain ⟨a, b⟩ := wdE_iff.1 h
  obtain ⟨w1, w2, w3, w4, w5⟩ := wd_ok a b
  rw [bld_ok h]
  exact up_node (lowI_len w5 (by omega)) _ (Nat.le_refl _) x (by omega) h2
theorem bld_leaf {ls : List Dg} (h : wdE ls.length = 0) {i : Nat} (hi : i < ls.length) : (bldM ls).getD (wdM ls.length - 1 + i) zD = ls.getD i zD := by
  obtain ⟨a, b⟩ := wdE_iff.1 h
  obtain ⟨w1, w2, w3, w4, w5⟩ := wd_ok a b
  rw [bld_ok h, up_low (by omega) _ (Nat.le_refl _)]
  unfold lowI botM
  rw [List.getD_eq_getElem?_getD, List.getD_eq_getElem?_getD, List.append_assoc, List.append_assoc, List.getElem?_append_right (by simp), List.getElem?_append_left (by simp; omega)]
  simp
theorem wd_idem {n : Nat} (h : wdE n = 0) : wdE (wdM n) = 0 ∧ wdM (wdM n) = wdM n := by
  obtain ⟨a, b⟩ := wdE_iff.1 h
  have hv : wdM n = 1 ∨ wdM n = 2 ∨ wdM n = 4 ∨ wdM n = 8 ∨ wdM n = 16 ∨ wdM n = 32 ∨ wdM n = 64 ∨ wdM n = 128 ∨ wdM n = 256 ∨ wdM n = 512 := by
    unfold wdM
    repeat' split
    all_goals omega
  rcases hv with e | e | e | e | e | e | e | e | e | e <;> rw [e] <;> exact ⟨rfl, rfl⟩
theorem bld_difOk {a b : List Dg} (ha : wdE a.length = 0) (hl : b.length = a.length) : difOk (bldM a) (bldM b) ∧ ((bldM a).length + 1) / 2 = wdM a.length := by
  have h1 := bld_len ha
  have h2 := bld_len (ls := b) (by rw [hl]; exact ha)
  obtain ⟨x, y⟩ := wdE_iff.1 ha
  obtain ⟨w1, w2, w3, w4, w5⟩ := wd_ok x y
  obtain ⟨i1, i2⟩ := wd_idem ha
  rw [hl] at h2
  have e : ((bldM a).length + 1) / 2 = wdM a.length := by omega
  refine ⟨⟨by rw [e]; exact i1, by rw [e]; exact i2, by rw [e]; exact h1, by omega⟩, e⟩
/-- no node differs: the leaves are the same -/
theorem dif_same {a b : List Dg} (ha : wdE a.length = 0) (hl : b.length = a.length) (hd : difF (bldM a) (bldM b) = none) (h0 : (bldM a).getD 0 zD = (bldM b).getD 0 zD) : a = b := by
  obtain ⟨hok, e⟩ := bld_difOk ha hl
  have h2 := bld_len (ls := b) (by rw [hl]; exact ha)
  have hf : ∀ x, 1 ≤ x → x < wdM a.length → dP (bldM a) (bldM b) x = false := by
    unfold difF at hd
    rw [if_pos hok, List.find?_range'_eq_none, e] at hd
    intro x h1 h2
    have := hd x h1 (by omega)
    simpa using this
  have hall : ∀ k x, 1 ≤ x → x < 2 ^ k → x < 2 * wdM a.length → (bldM a).getD (x - 1) zD = (bldM b).getD (x - 1) zD := by
    intro k
    induction k with
    | zero => intro x h1 h2; omega
    | succ k ih =>
      intro x h1 h2 h3
      by_cases hx : x = 1
      · subst hx; exact h0
      · have hp := ih (x / 2) (by omega) (by rw [Nat.pow_succ] at h2; omega) (by omega)
        have hq := hf (x / 2) (by omega) (by omega)
        unfold dP at hq
        rw [decide_eq_true hp, Bool.true_and, Bool.or_eq_false_iff] at hq
        have q1 : (bldM a).getD (2 * (x / 2) - 1) zD = (bldM b).getD (2 * (x / 2) - 1) zD := by simpa only [decide_eq_false_iff_not, Decidable.not_not] using hq.1
        have q2 : (bldM a).getD (2 * (x / 2)) zD = (bldM b).getD (2 * (x / 2)) zD := by simpa only [decide_eq_false_iff_not, Decidable.not_not] using hq.2
        rcases (show x - 1 = 2 * (x / 2) - 1 ∨ x - 1 = 2 * (x / 2) from by omega) with e | e <;> rw [e]
        · exact q1
        · exact q2
  obtain ⟨x, y⟩ := wdE_iff.1 ha
  obtain ⟨w1, w2, w3, w4, w5⟩ := wd_ok x y
  apply List.ext_getElem?
  intro i
  by_cases hi : i < a.length
  · have h1 := bld_leaf ha hi
    have h2' := bld_leaf (ls := b) (by rw [hl]; exact ha) (i := i) (by omega)
    have h3 := hall 10 (wdM a.length - 1 + i + 1) (by omega) (by show _ < 1024; omega) (by omega)
    rw [Nat.add_sub_cancel, h1] at h3
    rw [hl] at h2'
    rw [h2'] at h3
    rw [at_of hi, at_of (l := b) (by omega), h3]
  · rw [List.getElem?_eq_none (by omega), List.getElem?_eq_none (by omega)]
theorem tagE6 {x y : List B8} (hx : x.length = 32) (hy : y.length = 32) : tagE 6#8 [x, y] = 0 := by unfold tagE; rw [if_neg (by decide), if_pos (by rw [fitM_6 rfl]; simp [lens, *])]
def clB (l l' : List B8) : Bool := decide (¬ l = l') && decide (dgM l = dgM l')
/-- two unlike pairs under one digest are a clash -/
theorem node_clash {x y x' y' : Dg} (h : nodeD x y = nodeD x' y') (hn : ¬ (x = x' ∧ y = y')) : clB (tagB 6#8 [x.1, y.1]) (tagB 6#8 [x'.1, y'.1]) = true := by
  have e1 := tagE6 x.2 y.2
  have e2 := tagE6 x'.2 y'.2
  have h1 : dgM (tagB 6#8 [x.1, y.1]) = dgM (tagB 6#8 [x'.1, y'.1]) := by
    have := congrArg Subtype.val h
    show dgM _ = dgM _
    rw [← tagD_ok e1, ← tagD_ok e2]; exact this
  have h2 : ¬ tagB 6#8 [x.1, y.1] = tagB 6#8 [x'.1, y'.1] := fun e => by
    have hx := x.2; have hy := y.2; have hx' := x'.2; have hy' := y'.2
    have := (tagB_inj e1 e2 (fun l hl => by simp at hl; rcases hl with rfl | rfl <;> omega) (fun l hl => by simp at hl; rcases hl with rfl | rfl <;> omega)).1 e
    simp only [List.cons.injEq, and_true, true_and] at this
    exact hn ⟨Subtype.ext this.1, Subtype.ext this.2⟩
  unfold clB
  rw [decide_eq_true h2, decide_eq_true h1]; rfl
theorem dif_clash {a b : List Dg} {x : Nat} (ha : wdE a.length = 0) (hl : b.length = a.length) (hd : difF (bldM a) (bldM b) = some x) :
    1 ≤ x ∧ x < wdM a.length ∧ (bldM a).getD (x - 1) zD = (bldM b).getD (x - 1) zD ∧ clB (tagB 6#8 [((bldM a).getD (2 * x - 1) zD).1, ((bldM a).getD (2 * x) zD).1]) (tagB 6#8 [((bldM b).getD (2 * x - 1) zD).1, ((bldM b).getD (2 * x) zD).1]) = true := by
  obtain ⟨hok, e⟩ := bld_difOk ha hl
  unfold difF at hd
  rw [if_pos hok, List.find?_range'_eq_some, e] at hd
  obtain ⟨h1, h2, _⟩ := hd
  have h2' : 1 ≤ x ∧ x < wdM a.length := by simp at h2; omega
  unfold dP at h1
  rw [Bool.and_eq_true, Bool.or_eq_true] at h1
  obtain ⟨p, q⟩ := h1
  have p' := of_decide_eq_true p
  have hna := bld_node ha h2'.1 h2'.2
  have hnb := bld_node (ls := b) (by rw [hl]; exact ha) h2'.1 (by rw [hl]; exact h2'.2)
  refine ⟨h2'.1, h2'.2, p', node_clash (by rw [← hna, ← hnb, p']) ?_⟩
  rintro ⟨e1, e2⟩
  rcases q with q | q
  · exact of_decide_eq_true q e1
  · exact of_decide_eq_true q e2
end Go.ShM
namespace Go.SL
theorem WI_fact {P : Program} {m : Md} {ops : Array Oper} {Q : Exit → Act → World → Prop} {w0 : World} {n : Nat} {S : List Asn} {J : Nat → Nat} {fuel : Nat} {is : List Nat} {L : List (Nat × Value)} {A : List Asn} {i : Nat} {p : Prop} (h : ∀ w, sat w A → p) (k : p → WI P m ops Q w0 n S J fuel is L A i) : WI P m ops Q w0 n S J fuel is L A i := fun a w hd hf hs hk => k (h w hs) a w hd hf hs hk
theorem WJ_fact {P : Program} {m : Md} {ops : Array Oper} {Q : Exit → Act → World → Prop} {w0 : World} {n : Nat} {S : List Asn} {J : Nat → Nat} {fuel : Nat} {is : List Nat} {L : List (Nat × Value)} {A : List Asn} {p : Prop} (h : ∀ w, sat w A → p) (k : p → WJ P m ops Q w0 n S J fuel is L A) : WJ P m ops Q w0 n S J fuel is L A := fun a w hd hf hs hk => k (h w hs) a w hd hf hs hk
end Go.SL
