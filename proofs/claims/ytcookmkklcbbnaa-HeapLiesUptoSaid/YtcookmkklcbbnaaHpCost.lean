/-
  Contracts of functions that the claim reaches, or the logic and the plain laws that they rest on, or the row over them. (Conditions: none beyond the statement.)
-/
import Derived.Test.YtcookmkklcbbnaaHpOrd
set_option linter.all false
/-
  What asking an order costs, and what its state keeps, whatever it tells. Plain: no program. (Conditions: none.)
-/
namespace Go.HpM
open Go.SL
section
variable {α σ : Type} {lt : σ → α → α → Bool × σ} {cost : σ → Nat}
theorem ahM_cost (hco : ∀ s x y, cost (lt s x y).2 ≤ cost s + 1) (s : σ) (x y : Nat × α) : cost (ahM lt s x y).2 ≤ cost s + 2 := by
  unfold ahM
  have h1 := hco s x.2 y.2
  have h2 := hco (lt s x.2 y.2).2 y.2 x.2
  split
  · dsimp only; omega
  · dsimp only; omega
theorem pickM_cost (hco : ∀ s x y, cost (lt s x y).2 ≤ cost s + 1) (s : σ) (rows : List (Nat × α)) (c b : Nat) : cost (pickM lt s rows c b).2 ≤ cost s + 2 := by
  unfold pickM
  split
  · rename_i x y _ _
    have := ahM_cost hco s x y
    dsimp only; omega
  · dsimp only; omega
theorem bestM_cost (hco : ∀ s x y, cost (lt s x y).2 ≤ cost s + 1) (s : σ) (rows : List (Nat × α)) (i : Nat) : cost (bestM lt s rows i).2 ≤ cost s + 4 := by
  unfold bestM
  have h1 := pickM_cost hco s rows (2 * i + 1) i
  have h2 := pickM_cost hco (pickM lt s rows (2 * i + 1) i).2 rows (2 * i + 2) (pickM lt s rows (2 * i + 1) i).1
  omega
theorem downM_cost (hco : ∀ s x y, cost (lt s x y).2 ≤ cost s + 1) : ∀ (m i : Nat) (s : σ) (rows : List (Nat × α)), rows.length - i ≤ m → i < rows.length → cost (downM lt s rows i).2 ≤ cost s + 4 * m
  | 0, i, s, rows, h, hi => by omega
  | m + 1, i, s, rows, h, hi => by
    have hb := bestM_cost hco s rows i
    by_cases he : (bestM lt s rows i).1 = i
    · rw [downM_stop he]; dsimp only; omega
    · rw [downM_go he]
      have ho := bestM_or lt s rows i
      have := downM_cost hco m (bestM lt s rows i).1 (bestM lt s rows i).2 (swp rows i (bestM lt s rows i).1) (by rw [swp_len]; omega) (by rw [swp_len]; omega)
      omega
/-- what the state keeps, by how often the order was asked, of things of which p holds -/
structure Keeps (lt : σ → α → α → Bool × σ) (p : α → Prop) (Q : Nat → σ → Prop) : Prop where
  step : ∀ k s x y, Q k s → p x → p y → Q (k + 1) (lt s x y).2
  mono : ∀ k k' s, k ≤ k' → Q k s → Q k' s
variable {p : α → Prop} {Q : Nat → σ → Prop}
def All2 (p : α → Prop) (rows : List (Nat × α)) : Prop := ∀ r ∈ rows, p r.2
theorem All2.at {rows : List (Nat × α)} (h : All2 p rows) {i : Nat} {x : Nat × α} (hx : rows[i]? = some x) : p x.2 := h x (List.mem_of_getElem? hx)
theorem All2.perm {rows rows' : List (Nat × α)} (h : All2 p rows) (hp : rows'.Perm rows) : All2 p rows' := fun r hr => h r (hp.mem_iff.1 hr)
theorem ahM_keeps (K : Keeps lt p Q) {k : Nat} {s : σ} {x y : Nat × α} (h : Q k s) (hx : p x.2) (hy : p y.2) : Q (k + 2) (ahM lt s x y).2 := by
  unfold ahM
  have h1 := K.step k s x.2 y.2 h hx hy
  have h2 := K.step (k + 1) _ y.2 x.2 h1 hy hx
  split
  · exact K.mono _ _ _ (by omega) h1
  · exact h2
theorem upM_keeps (K : Keeps lt p Q) : ∀ (i k : Nat) (s : σ) (rows : List (Nat × α)), All2 p rows → Q k s → Q (k + 2 * i) (upM lt s rows i).2 := by
  intro i
  induction i using Nat.strongRecOn with
  | _ i ih =>
    intro k s rows hA h
    rcases Nat.eq_zero_or_pos i with q | q
    · subst q; rw [upM_zero]; exact h
    · cases h1 : rows[i]? with
      | none =>
        obtain ⟨j, rfl⟩ : ∃ j, i = j + 1 := ⟨i - 1, by omega⟩
        rw [upM, h1]; exact K.mono _ _ _ (by omega) h
      | some x =>
        cases h2 : rows[(i - 1) / 2]? with
        | none => have := (List.getElem?_eq_some_iff.1 h1).1; rw [List.getElem?_eq_none_iff] at h2; omega
        | some y =>
          rw [upM_step lt s q h1 h2]
          have ha := ahM_keeps K h (hA.at h1) (hA.at h2)
          split
          · have := ih ((i - 1) / 2) (by omega) (k + 2) (ahM lt s x y).2 (swp rows i ((i - 1) / 2)) (hA.perm (swp_perm _ _)) ha
            exact K.mono _ _ _ (by omega) this
          · exact K.mono _ _ _ (by omega) ha
theorem pickM_keeps (K : Keeps lt p Q) {k : Nat} {s : σ} {rows : List (Nat × α)} (hA : All2 p rows) (h : Q k s) (c b : Nat) : Q (k + 2) (pickM lt s rows c b).2 := by
  unfold pickM
  split
  · rename_i x y hx hy
    exact ahM_keeps K h (hA.at hx) (hA.at hy)
  · exact K.mono _ _ _ (by omega) h
theorem bestM_keeps (K : Keeps lt p Q) {k : Nat} {s : σ} {rows : List (Nat × α)} (hA : All2 p rows) (h : Q k s) (i : Nat) : Q (k + 4) (bestM lt s rows i).2 := by
  unfold bestM
  exact pickM_keeps K hA (pickM_keeps K hA h _ _) _ _
theorem downM_keeps (K : Keeps lt p Q) : ∀ (m i k : Nat) (s : σ) (rows : List (Nat × α)), rows.length - i ≤ m → All2 p rows → Q k s → Q (k + 4 * (m + 1)) (downM lt s rows i).2
  | 0, i, k, s, rows, hm, hA, h => by
    have he : (bestM lt s rows i).1 = i := by have := bestM_or lt s rows i; omega
    rw [downM_stop he]; exact bestM_keeps K hA h i
  | m + 1, i, k, s, rows, hm, hA, h => by
    have hb := bestM_keeps K hA h i
    by_cases he : (bestM lt s rows i).1 = i
    · rw [downM_stop he]; exact K.mono _ _ _ (by omega) hb
    · rw [downM_go he]
      have ho := bestM_or lt s rows i
      have := downM_keeps K m (bestM lt s rows i).1 (k + 4) (bestM lt s rows i).2 (swp rows i (bestM lt s rows i).1) (by rw [swp_len]; omega) (hA.perm (swp_perm _ _)) hb
      exact K.mono _ _ _ (by omega) this
theorem pushM_keeps (K : Keeps lt p Q) {k made : Nat} {s : σ} {rows : List (Nat × α)} {x : α} (hA : All2 p rows) (hx : p x) (h : Q k s) : Q (k + 2 * rows.length) (pushM lt s rows made x).2 := by
  unfold pushM
  refine upM_keeps K _ _ _ _ (fun r hr => ?_) h
  rcases List.mem_append.1 hr with q | q
  · exact hA r q
  · simp at q; subst q; exact hx
theorem takeM_keeps (K : Keeps lt p Q) {k i : Nat} {s : σ} {rows : List (Nat × α)} (hi : i < rows.length) (hA : All2 p rows) (h : Q k s) : Q (k + 6 * rows.length) (takeM lt s rows i).2 := by
  have hA2 : All2 p ((swp rows i (rows.length - 1)).take (rows.length - 1)) := fun r hr => (hA.perm (swp_perm _ _)) r (List.mem_of_mem_take hr)
  have hl : ((swp rows i (rows.length - 1)).take (rows.length - 1)).length = rows.length - 1 := by rw [List.length_take, swp_len]; omega
  unfold takeM
  split
  · have hd := downM_keeps K (rows.length - 1 - i) i k s ((swp rows i (rows.length - 1)).take (rows.length - 1)) (by rw [hl]; exact Nat.le_refl _) hA2 h
    have hu := upM_keeps K i _ _ _ (hA2.perm (downM_perm lt _ i s _ (Nat.le_refl _))) hd
    exact K.mono _ _ _ (by omega) hu
  · exact K.mono _ _ _ (by omega) h
theorem pushM_all {made : Nat} {s : σ} {rows : List (Nat × α)} {x : α} (hA : All2 p rows) (hx : p x) : All2 p (pushM lt s rows made x).1 := by
  refine All2.perm (fun r hr => ?_) (pushM_perm lt s rows made x)
  rcases List.mem_append.1 hr with q | q
  · exact hA r q
  · simp at q; subst q; exact hx
theorem takeM_all {i : Nat} {s : σ} {rows : List (Nat × α)} {x : Nat × α} (hx : rows[i]? = some x) (hA : All2 p rows) : All2 p (takeM lt s rows i).1 := fun r hr =>
  hA r ((takeM_perm lt s hx).mem_iff.1 (List.mem_cons_of_mem _ hr))
end
end Go.HpM
