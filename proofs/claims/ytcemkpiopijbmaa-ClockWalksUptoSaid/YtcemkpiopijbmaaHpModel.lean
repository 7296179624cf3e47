/-
  Contracts of functions that the claim reaches, or the logic and the plain laws that they rest on, or the row over them. (Conditions: none beyond the statement.)
-/
import Derived.Test.YtcemkpiopijbmaaLibA
set_option linter.all false
/-
  The heap as lists: rows of tickets and things, an order that is asked (its state is handed on). Plain: no program. (Conditions: none.)
-/
namespace Go.HpM
open Go.SL
section
variable {α σ : Type}
def ahM (lt : σ → α → α → Bool × σ) (s : σ) (x y : Nat × α) : Bool × σ :=
  if (lt s x.2 y.2).1 then (true, (lt s x.2 y.2).2)
  else (!(lt (lt s x.2 y.2).2 y.2 x.2).1 && decide (x.1 < y.1), (lt (lt s x.2 y.2).2 y.2 x.2).2)
def swp (rows : List (Nat × α)) (i j : Nat) : List (Nat × α) :=
  match rows[i]?, rows[j]? with
  | some x, some y => (rows.set i y).set j x
  | _, _ => rows
theorem swp_eq {rows : List (Nat × α)} {i j : Nat} {x y : Nat × α} (hi : rows[i]? = some x) (hj : rows[j]? = some y) : swp rows i j = (rows.set i y).set j x := by unfold swp; rw [hi, hj]
theorem swp_len (rows : List (Nat × α)) (i j : Nat) : (swp rows i j).length = rows.length := by unfold swp; split <;> simp
def upM (lt : σ → α → α → Bool × σ) (s : σ) (rows : List (Nat × α)) : Nat → List (Nat × α) × σ
  | 0 => (rows, s)
  | i + 1 => match rows[i + 1]?, rows[i / 2]? with
    | some x, some y => if (ahM lt s x y).1 then upM lt (ahM lt s x y).2 (swp rows (i + 1) (i / 2)) (i / 2) else (rows, (ahM lt s x y).2)
    | _, _ => (rows, s)
termination_by i => i
decreasing_by omega
theorem upM_zero (lt : σ → α → α → Bool × σ) (s : σ) (rows : List (Nat × α)) : upM lt s rows 0 = (rows, s) := by rw [upM]
theorem upM_step (lt : σ → α → α → Bool × σ) (s : σ) {rows : List (Nat × α)} {i : Nat} {x y : Nat × α} (h0 : 0 < i) (hi : rows[i]? = some x) (hj : rows[(i - 1) / 2]? = some y) :
    upM lt s rows i = if (ahM lt s x y).1 then upM lt (ahM lt s x y).2 (swp rows i ((i - 1) / 2)) ((i - 1) / 2) else (rows, (ahM lt s x y).2) := by
  cases i with
  | zero => omega
  | succ i =>
    rw [upM]
    simp only [Nat.add_sub_cancel] at hj ⊢
    rw [hi, hj]
/-- the better of two places: c, if it is there and stands ahead of the one at best -/
def pickM (lt : σ → α → α → Bool × σ) (s : σ) (rows : List (Nat × α)) (c best : Nat) : Nat × σ :=
  match rows[c]?, rows[best]? with
  | some x, some y => (if (ahM lt s x y).1 then c else best, (ahM lt s x y).2)
  | _, _ => (best, s)
theorem pickM_no (lt : σ → α → α → Bool × σ) (s : σ) {rows : List (Nat × α)} {c best : Nat} (h : rows.length ≤ c) : pickM lt s rows c best = (best, s) := by
  unfold pickM; rw [List.getElem?_eq_none h]
theorem pickM_yes (lt : σ → α → α → Bool × σ) (s : σ) {rows : List (Nat × α)} {c best : Nat} {x y : Nat × α} (hc : rows[c]? = some x) (hb : rows[best]? = some y) : pickM lt s rows c best = (if (ahM lt s x y).1 then c else best, (ahM lt s x y).2) := by
  unfold pickM; rw [hc, hb]
def bestM (lt : σ → α → α → Bool × σ) (s : σ) (rows : List (Nat × α)) (i : Nat) : Nat × σ :=
  pickM lt (pickM lt s rows (2 * i + 1) i).2 rows (2 * i + 2) (pickM lt s rows (2 * i + 1) i).1
theorem pickM_or (lt : σ → α → α → Bool × σ) (s : σ) (rows : List (Nat × α)) (c best : Nat) : (pickM lt s rows c best).1 = best ∨ ((pickM lt s rows c best).1 = c ∧ c < rows.length) := by
  unfold pickM
  split
  · rename_i x y hx hy
    have := (List.getElem?_eq_some_iff.1 hx).1
    simp only
    split
    · exact .inr ⟨rfl, this⟩
    · exact .inl rfl
  · exact .inl rfl
theorem bestM_or (lt : σ → α → α → Bool × σ) (s : σ) (rows : List (Nat × α)) (i : Nat) : (bestM lt s rows i).1 = i ∨ (i < (bestM lt s rows i).1 ∧ (bestM lt s rows i).1 < rows.length) := by
  unfold bestM
  rcases pickM_or lt (pickM lt s rows (2 * i + 1) i).2 rows (2 * i + 2) (pickM lt s rows (2 * i + 1) i).1 with h | h
  · rw [h]
    rcases pickM_or lt s rows (2 * i + 1) i with h' | h'
    · exact .inl h'
    · rw [h'.1]; exact .inr ⟨by omega, h'.2⟩
  · rw [h.1]; exact .inr ⟨by omega, h.2⟩
/-- what is left to be picked behind k of the two -/
def remM (lt : σ → α → α → Bool × σ) (s : σ) (rows : List (Nat × α)) (i best : Nat) : Nat → Nat × σ
  | 0 => pickM lt (pickM lt s rows (2 * i + 1) best).2 rows (2 * i + 2) (pickM lt s rows (2 * i + 1) best).1
  | 1 => pickM lt s rows (2 * i + 2) best
  | _ => (best, s)
theorem remM_step (lt : σ → α → α → Bool × σ) (s : σ) (rows : List (Nat × α)) (i best : Nat) {k : Nat} (h : k < 2) :
    remM lt s rows i best k = remM lt (pickM lt s rows (2 * i + 1 + k) best).2 rows i (pickM lt s rows (2 * i + 1 + k) best).1 (k + 1) := by
  rcases (show k = 0 ∨ k = 1 from by omega) with h | h <;> subst h <;> rfl
def downM (lt : σ → α → α → Bool × σ) (s : σ) (rows : List (Nat × α)) (i : Nat) : List (Nat × α) × σ :=
  if _h : (bestM lt s rows i).1 = i then (rows, (bestM lt s rows i).2)
  else downM lt (bestM lt s rows i).2 (swp rows i (bestM lt s rows i).1) (bestM lt s rows i).1
termination_by rows.length - i
decreasing_by
  have := bestM_or lt s rows i
  rw [swp_len]; omega
theorem downM_stop {lt : σ → α → α → Bool × σ} {s : σ} {rows : List (Nat × α)} {i : Nat} (h : (bestM lt s rows i).1 = i) : downM lt s rows i = (rows, (bestM lt s rows i).2) := by
  rw [downM, dif_pos h]
theorem downM_go {lt : σ → α → α → Bool × σ} {s : σ} {rows : List (Nat × α)} {i : Nat} (h : (bestM lt s rows i).1 ≠ i) : downM lt s rows i = downM lt (bestM lt s rows i).2 (swp rows i (bestM lt s rows i).1) (bestM lt s rows i).1 := by
  rw [downM, dif_neg h]
/-! where a ticket stands -/
def atOf (rows : List (Nat × α)) : Int → Option Value := fun t => (rows.findIdx? fun r => ((r.1 : Nat) : Int) == t).map fun i => .int .i64 (i : Int)
def Tk (rows : List (Nat × α)) : Prop := (rows.map (·.1)).Nodup
theorem atOf_get {rows : List (Nat × α)} (h : Tk rows) {i : Nat} {x : Nat × α} (hi : rows[i]? = some x) : rows.findIdx? (fun r => ((r.1 : Nat) : Int) == (x.1 : Int)) = some i := by
  rw [List.findIdx?_eq_some_iff_getElem]
  obtain ⟨hlt, he⟩ := List.getElem?_eq_some_iff.1 hi
  refine ⟨hlt, by rw [he]; simp, fun j hj hb => ?_⟩
  have hb' : (rows[j]'(by omega)).1 = x.1 := by simp at hb; omega
  have := (List.getElem_inj (h₀ := (by simp; omega)) (h₁ := (by simpa using hlt)) h (i := j) (j := i)).1 (by simp [hb', he])
  omega
theorem atOf_ext {rows' : List (Nat × α)} {φ : Int → Option Value} (hn : ∀ t : Int, (∀ x ∈ rows', (x.1 : Int) ≠ t) → φ t = none) (hy : ∀ (i : Nat) (x : Nat × α), rows'[i]? = some x → φ (x.1 : Int) = some (.int .i64 (i : Int))) : φ = atOf rows' := by
  funext t
  unfold atOf
  cases hf : rows'.findIdx? (fun r => ((r.1 : Nat) : Int) == t) with
  | none =>
    rw [List.findIdx?_eq_none_iff] at hf
    exact hn t (fun x hx => by have := hf x hx; simpa using this)
  | some i =>
    obtain ⟨hlt, he, _⟩ := List.findIdx?_eq_some_iff_getElem.1 hf
    have e : ((rows'[i].1 : Nat) : Int) = t := by simpa using he
    rw [← e]
    exact hy i rows'[i] (by simp [hlt])
theorem atOf_some {rows : List (Nat × α)} (h : Tk rows) {i : Nat} {x : Nat × α} (hi : rows[i]? = some x) : atOf rows (x.1 : Int) = some (.int .i64 (i : Int)) := by
  unfold atOf; rw [atOf_get h hi]; rfl
theorem atOf_none {rows : List (Nat × α)} {t : Int} (h : ∀ x ∈ rows, (x.1 : Int) ≠ t) : atOf rows t = none := by
  unfold atOf
  rw [List.findIdx?_eq_none_iff.2 (fun x hx => by simpa using h x hx)]; rfl
theorem swp_get {rows : List (Nat × α)} {i j : Nat} {x y : Nat × α} (hi : rows[i]? = some x) (hj : rows[j]? = some y) (k : Nat) : (swp rows i j)[k]? = if k = j then some x else if k = i then some y else rows[k]? := by
  rw [swp_eq hi hj, List.getElem?_set, List.getElem?_set]
  have h1 := (List.getElem?_eq_some_iff.1 hi).1
  have h2 := (List.getElem?_eq_some_iff.1 hj).1
  by_cases hk : k = j
  · subst hk; simp [h2]
  · rw [if_neg (Ne.symm hk), if_neg hk]
    by_cases hk' : k = i
    · subst hk'; simp [h1]
    · rw [if_neg (Ne.symm hk'), if_neg hk']
theorem swp_left {rows : List (Nat × α)} {i j : Nat} {x y : Nat × α} (hi : rows[i]? = some x) (hj : rows[j]? = some y) : (swp rows i j)[i]? = some y := by
  rw [swp_get hi hj]
  by_cases h : i = j
  · subst h; rw [hi] at hj; rw [if_pos rfl]; exact hj
  · rw [if_neg h, if_pos rfl]
theorem swp_perm {rows : List (Nat × α)} (i j : Nat) : (swp rows i j).Perm rows := by
  unfold swp
  split
  · rename_i x y hi hj
    have h1 := (List.getElem?_eq_some_iff.1 hi)
    have h2 := (List.getElem?_eq_some_iff.1 hj)
    by_cases hij : i = j
    · subst hij
      rw [hi] at hj; cases hj
      rw [List.set_set]
      have : rows.set i x = rows := by obtain ⟨h, e⟩ := h1; rw [← e]; exact List.set_getElem_self h
      rw [this]
    · -- by counting
      classical
      rw [List.perm_iff_count]
      intro a
      have hj' : ((rows.set i y)[j]?) = some y := by rw [List.getElem?_set, if_neg hij]; exact hj
      rw [List.count_set (by simpa using h2.1), List.count_set h1.1]
      have e1 : (rows.set i y)[j]'(by simpa using h2.1) = y := (List.getElem?_eq_some_iff.1 hj').2
      rw [e1, h1.2]
      have hx : x ∈ rows := List.mem_of_getElem? hi
      by_cases ha : x = a
      · subst ha
        have := List.count_pos_iff.2 hx
        by_cases hb : y = x <;> simp [hb] <;> omega
      · by_cases hb : y = a <;> simp [ha, hb]
  · exact List.Perm.refl _
theorem Tk_perm {rows rows' : List (Nat × α)} (p : rows'.Perm rows) (h : Tk rows) : Tk rows' := (List.Perm.nodup_iff (p.map _)).2 h
theorem atOf_swp {rows : List (Nat × α)} (h : Tk rows) {i j : Nat} {x y : Nat × α} (hi : rows[i]? = some x) (hj : rows[j]? = some y) :
    upd (upd (atOf rows) (y.1 : Int) (some (.int .i64 (i : Int)))) (x.1 : Int) (some (.int .i64 (j : Int))) = atOf (swp rows i j) := by
  refine atOf_ext (fun t ht => ?_) (fun k z hk => ?_)
  · have hp := swp_perm (rows := rows) i j
    have hx := ht x (hp.mem_iff.2 (List.mem_of_getElem? hi))
    have hy := ht y (hp.mem_iff.2 (List.mem_of_getElem? hj))
    unfold upd
    rw [if_neg (Ne.symm hx), if_neg (Ne.symm hy)]
    exact atOf_none fun w hw => ht w (hp.mem_iff.2 hw)
  · rw [swp_get hi hj] at hk
    unfold upd
    by_cases h1 : k = j
    · rw [if_pos h1] at hk; cases hk; rw [if_pos rfl, h1]
    · rw [if_neg h1] at hk
      by_cases h2 : k = i
      · rw [if_pos h2] at hk; cases hk
        have hxy : (y.1 : Int) ≠ x.1 := by
          intro e
          have e' : y.1 = x.1 := by omega
          have h3 := atOf_get h hi
          have h4 := atOf_get h hj
          rw [e', h3] at h4
          cases h4; exact h1 h2
        rw [if_neg hxy, if_pos rfl, h2]
      · rw [if_neg h2] at hk
        have hne : ∀ (q : Nat) (w : Nat × α), rows[q]? = some w → k ≠ q → (z.1 : Int) ≠ w.1 := by
          intro q w hq hkq e
          have e' : z.1 = w.1 := by omega
          have h3 := atOf_get h hk
          have h4 := atOf_get h hq
          rw [e', h4] at h3
          cases h3; exact hkq rfl
        rw [if_neg (hne i x hi h2), if_neg (hne j y hj h1)]
        exact atOf_some h hk
theorem atOf_push {rows : List (Nat × α)} (h : Tk rows) {t : Nat} {x : α} (hn : ∀ r ∈ rows, r.1 ≠ t) : upd (atOf rows) (t : Int) (some (.int .i64 (rows.length : Int))) = atOf (rows ++ [(t, x)]) := by
  have hT : Tk (rows ++ [(t, x)]) := by
    unfold Tk at h ⊢
    rw [List.map_append, List.nodup_append]
    refine ⟨h, by simp, fun a ha b hb => ?_⟩
    simp at hb; subst hb
    obtain ⟨r, hr, rfl⟩ := List.mem_map.1 ha
    exact hn r hr
  refine atOf_ext (fun u hu => ?_) (fun k z hk => ?_)
  · have h1 := hu (t, x) (by simp)
    unfold upd
    rw [if_neg (Ne.symm h1)]
    exact atOf_none fun w hw => hu w (by simp [hw])
  · unfold upd
    rw [List.getElem?_append] at hk
    split at hk
    · have : (z.1 : Int) ≠ (t : Int) := by have := hn z (List.mem_of_getElem? hk); omega
      rw [if_neg this]; exact atOf_some h hk
    · rename_i hge
      have hk0 : k - rows.length = 0 := by
        rcases Nat.eq_zero_or_pos (k - rows.length) with q | q
        · exact q
        · rw [List.getElem?_eq_none (by simp; omega)] at hk; cases hk
      rw [hk0] at hk
      simp at hk; subst hk
      rw [if_pos rfl]
      congr 2; omega
theorem Tk_push {rows : List (Nat × α)} (h : Tk rows) {t : Nat} {x : α} (hn : ∀ r ∈ rows, r.1 ≠ t) : Tk (rows ++ [(t, x)]) := by
  unfold Tk at h ⊢
  rw [List.map_append, List.nodup_append]
  refine ⟨h, by simp, fun a ha b hb => ?_⟩
  simp at hb; subst hb
  obtain ⟨r, hr, rfl⟩ := List.mem_map.1 ha
  exact hn r hr
theorem atOf_drop {rows : List (Nat × α)} {t : Nat} {x : α} (h : Tk (rows ++ [(t, x)])) : upd (atOf (rows ++ [(t, x)])) (t : Int) none = atOf rows := by
  have h' := h
  unfold Tk at h'
  rw [List.map_append, List.nodup_append] at h'
  have hn : ∀ r ∈ rows, r.1 ≠ t := fun r hr => h'.2.2 r.1 (List.mem_map.2 ⟨r, hr, rfl⟩) t (by simp)
  refine atOf_ext (fun u hu => ?_) (fun k z hk => ?_)
  · unfold upd
    split
    · rfl
    · rename_i hne
      refine atOf_none fun w hw => ?_
      rcases List.mem_append.1 hw with q | q
      · exact hu w q
      · simp at q; subst q; exact fun e => hne e.symm
  · unfold upd
    have : (z.1 : Int) ≠ (t : Int) := by have := hn z (List.mem_of_getElem? hk); omega
    rw [if_neg this]
    exact atOf_some h (by rw [List.getElem?_append_left (List.getElem?_eq_some_iff.1 hk).1]; exact hk)
/-! the models keep what is there -/
theorem upM_perm (lt : σ → α → α → Bool × σ) : ∀ (i : Nat) (s : σ) (rows : List (Nat × α)), (upM lt s rows i).1.Perm rows := by
  intro i
  induction i using Nat.strongRecOn with
  | _ i ih =>
    intro s rows
    cases i with
    | zero => rw [upM_zero]
    | succ i =>
      rw [upM]
      split
      · split
        · exact (ih (i / 2) (by omega) _ _).trans (swp_perm _ _)
        · exact List.Perm.refl _
      · exact List.Perm.refl _
theorem downM_perm (lt : σ → α → α → Bool × σ) : ∀ (m i : Nat) (s : σ) (rows : List (Nat × α)), rows.length - i ≤ m → (downM lt s rows i).1.Perm rows := by
  intro m
  induction m with
  | zero =>
    intro i s rows h
    have : (bestM lt s rows i).1 = i := by rcases bestM_or lt s rows i with q | q <;> omega
    rw [downM_stop this]
  | succ m ih =>
    intro i s rows h
    by_cases hb : (bestM lt s rows i).1 = i
    · rw [downM_stop hb]
    · rw [downM_go hb]
      have hb' := bestM_or lt s rows i
      exact (ih _ _ _ (by rw [swp_len]; omega)).trans (swp_perm _ _)
/-- one place taken out: the last one comes in its place -/
def takeM (lt : σ → α → α → Bool × σ) (s : σ) (rows : List (Nat × α)) (i : Nat) : List (Nat × α) × σ :=
  if i < rows.length - 1 then upM lt (downM lt s ((swp rows i (rows.length - 1)).take (rows.length - 1)) i).2 (downM lt s ((swp rows i (rows.length - 1)).take (rows.length - 1)) i).1 i
  else ((swp rows i (rows.length - 1)).take (rows.length - 1), s)
def pushM (lt : σ → α → α → Bool × σ) (s : σ) (rows : List (Nat × α)) (made : Nat) (x : α) : List (Nat × α) × σ := upM lt s (rows ++ [(made, x)]) rows.length
theorem takeM_len (lt : σ → α → α → Bool × σ) (s : σ) (rows : List (Nat × α)) (i : Nat) : (takeM lt s rows i).1.length = rows.length - 1 := by
  have h : ((swp rows i (rows.length - 1)).take (rows.length - 1)).length = rows.length - 1 := by rw [List.length_take, swp_len]; omega
  unfold takeM
  split
  · rw [(upM_perm lt _ _ _).length_eq, (downM_perm lt _ i _ _ (Nat.le_refl _)).length_eq, h]
  · exact h
theorem take_last {β : Type} {l : List β} {n : Nat} {x : β} (h : l.length = n) (hx : l[n - 1]? = some x) (h0 : 0 < n) : l = l.take (n - 1) ++ [x] := by
  have h1 := List.take_append_drop (n - 1) l
  obtain ⟨hl, e⟩ := List.getElem?_eq_some_iff.1 hx
  have h2 : l.drop (n - 1) = [x] := by
    rw [List.drop_eq_getElem_cons hl, e, List.drop_eq_nil_of_le (by omega)]
  rw [h2] at h1; exact h1.symm
end
end Go.HpM
