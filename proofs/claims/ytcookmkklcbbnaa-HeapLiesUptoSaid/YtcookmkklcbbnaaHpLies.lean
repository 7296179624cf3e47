/-
  Contracts of functions that the claim reaches, or the logic and the plain laws that they rest on, or the row over them. (Conditions: none beyond the statement.)
-/
import Derived.Test.YtcookmkklcbbnaaHpCost
import Derived.Test.YtcookmkklcbbnaaHpCall
set_option linter.all false
/-
  Orders that lie: what they count and keep; things by their tickets, taken out one by one; how often a number stands in a list. Plain: no program. (Conditions: none.)
-/
namespace Go.HpM
open Go.SL
/-- how often -/
def cntM (l : List Int) (x : Int) : Nat := l.count x
theorem cnt_mem {l : List Int} {x : Int} (h : x ∈ l) : 1 ≤ cntM l x := List.count_pos_iff.2 h
theorem cnt_0 (l : List Int) (x : Int) : cntM (l.take 0) x = 0 := rfl
theorem cnt_yes {l : List Int} {i : Nat} {x : Int} (h : l[i]? = some x) : cntM (l.take i) x + 1 = cntM (l.take (i + 1)) x := by
  obtain ⟨hi, e⟩ := List.getElem?_eq_some_iff.1 h
  unfold cntM
  rw [List.take_succ_eq_append_getElem hi, e, List.count_append]; simp
theorem cnt_no {l : List Int} {i : Nat} {x y : Int} (h : l[i]? = some y) (hne : ¬ y = x) : cntM (l.take i) x = cntM (l.take (i + 1)) x := by
  obtain ⟨hi, e⟩ := List.getElem?_eq_some_iff.1 h
  unfold cntM
  rw [List.take_succ_eq_append_getElem hi, e, List.count_append, List.count_singleton]
  simp [hne]
theorem cnt_le (l : List Int) (i : Nat) (x : Int) : cntM (l.take i) x ≤ i := Nat.le_trans (List.count_le_length) (by rw [List.length_take]; exact Nat.min_le_left _ _)
theorem cnt_len (l : List Int) (x : Int) : cntM l x ≤ l.length := List.count_le_length
theorem cnt_perm {l l' : List Int} {x : Int} (h : l'.Perm l) : cntM l' x = cntM l x := h.count_eq x
/-- what is told at the n-th asking -/
def tellB (tells : List Bool) (n : Nat) : Bool := if tells.length = 0 then false else tells.getD (n % tells.length) false
theorem tell_at {tells : List Bool} {n : Nat} (h : 0 < tells.length) : tells[n % tells.length]? = some (tellB tells n) := by
  unfold tellB
  rw [if_neg (by omega), List.getD_eq_getElem?_getD, List.getElem?_eq_getElem (Nat.mod_lt _ h)]; rfl
theorem tell_0 {tells : List Bool} {n : Nat} (h : ¬ 0 < tells.length) : tellB tells n = false := if_pos (by omega)
/-- an order that tells what it likes; its state: how often it was asked, and whether of a strange thing -/
def lieM (l : List Int) (tells : List Bool) (s : Nat × Bool) (x y : Int) : Bool × (Nat × Bool) := (tellB tells (s.1 + 1), (s.1 + 1, s.2 || decide (cntM l x < 1) || decide (cntM l y < 1)))
def lieC (s : Nat × Bool) : Nat := s.1
theorem lie_cost {l : List Int} {tells : List Bool} (s : Nat × Bool) (x y : Int) : lieC (lieM l tells s x y).2 ≤ lieC s + 1 := Nat.le_refl _
def lieQ (k : Nat) (s : Nat × Bool) : Prop := s.1 ≤ k ∧ s.2 = false
theorem lie_keeps {l : List Int} {tells : List Bool} : Keeps (lieM l tells) (fun x => 1 ≤ cntM l x) lieQ := ⟨fun k s x y h hx hy => ⟨Nat.succ_le_succ h.1, by
  show (s.2 || decide (cntM l x < 1) || decide (cntM l y < 1)) = false
  rw [h.2, decide_eq_false (by omega), decide_eq_false (by omega)]; rfl⟩, fun k k' s h hs => ⟨Nat.le_trans hs.1 h, hs.2⟩⟩
theorem lieQ_cost {k : Nat} {s : Nat × Bool} (h : lieQ k s) : lieC s ≤ k := h.1
/-! tickets and things -/
theorem rowsI_map (l : List Int) : (rowsI l).map (·.2) = l := by
  apply List.ext_getElem?
  intro i
  simp [rowsI, List.getElem?_mapIdx]
  cases l[i]? <;> rfl
theorem row_in {l : List Int} {r : Nat × Int} (h : r ∈ rowsI l) : l[r.1]? = some r.2 := by
  obtain ⟨i, hi, rfl⟩ := List.getElem_of_mem h
  have hl : i < l.length := by rw [rowsI_len] at hi; exact hi
  simp [rowsI, hl]
theorem all_take {l : List Int} {p : Int → Prop} (h : ∀ x ∈ l, p x) {rows : List (Nat × Int)} {i : Nat} (hp : rows.Perm (rowsI (l.take i))) : All2 p rows := fun r hr => by
  have := row_in (hp.mem_iff.1 hr)
  exact h _ (List.mem_of_mem_take (List.mem_of_getElem? this))
theorem row_at {l : List Int} {out rows : List (Nat × Int)} (hp : (out ++ rows).Perm (rowsI l)) {r : Nat × Int} (hr : r ∈ rows) : l[r.1]? = some r.2 := row_in (hp.mem_iff.1 (List.mem_append_right _ hr))
theorem all_left {l : List Int} {p : Int → Prop} (h : ∀ x ∈ l, p x) {out rows : List (Nat × Int)} (hp : (out ++ rows).Perm (rowsI l)) : All2 p rows := fun r hr => h _ (List.mem_of_getElem? (row_at hp hr))
theorem out_next {σ : Type} {lt : σ → Int → Int → Bool × σ} {s : σ} {l : List Int} {out rows : List (Nat × Int)} {i : Nat} {x : Nat × Int} (hp : (out ++ rows).Perm (rowsI l)) (hx : rows[i]? = some x) : (out ++ [x] ++ (takeM lt s rows i).1).Perm (rowsI l) := by
  rw [List.append_assoc]
  exact (List.Perm.append_left out (takeM_perm lt s hx)).trans hp
theorem out_all {l : List Int} {out : List (Nat × Int)} (hp : (out ++ []).Perm (rowsI l)) : (out.map (·.2)).Perm l := by
  rw [List.append_nil] at hp
  have := hp.map (·.2)
  rwa [rowsI_map] at this
theorem out_len {l : List Int} {out rows : List (Nat × Int)} (hp : (out ++ rows).Perm (rowsI l)) : out.length + rows.length = l.length := by
  have := hp.length_eq
  rwa [List.length_append, rowsI_len] at this
theorem out_tk {l : List Int} {out rows : List (Nat × Int)} (hp : (out ++ rows).Perm (rowsI l)) : Tk rows := by
  have h1 : Tk (rowsI l) := by
    unfold Tk List.Nodup
    rw [List.pairwise_map]
    exact (rowsI_up l).imp fun h => by omega
  have h2 := Tk_perm hp h1
  unfold Tk at h2 ⊢
  rw [List.map_append, List.nodup_append] at h2
  exact h2.2.1
theorem fd_of {rows : List (Nat × Int)} {t : Nat} (h : ∃ r ∈ rows, r.1 = t) : ∃ i x, fdM rows (t : Int) = some i ∧ rows[i]? = some x ∧ x.1 = t := by
  obtain ⟨r, hr, e⟩ := h
  cases hf : fdM rows (t : Int) with
  | none => exact absurd (by rw [e]) (fd_none hf r hr)
  | some i =>
    obtain ⟨x, hx, e2⟩ := fd_some hf
    exact ⟨i, x, rfl, hx, by omega⟩
theorem fd_no {rows : List (Nat × Int)} {t : Nat} (h : ∀ r ∈ rows, r.1 ≠ t) : fdM rows (t : Int) = none := by
  cases hf : fdM rows (t : Int) with
  | none => rfl
  | some i =>
    obtain ⟨x, hx, e2⟩ := fd_some hf
    exact absurd (by omega) (h x (List.mem_of_getElem? hx))
/-- Drop, of a ticket that is there or not -/
def dlR {α σ : Type} (lt : σ → α → α → Bool × σ) (s : σ) (rows : List (Nat × α)) (t : Int) : List (Nat × α) × σ := match fdM rows t with
  | none => (rows, s)
  | some i => takeM lt s rows i
theorem dl_no {σ : Type} {lt : σ → Int → Int → Bool × σ} {s : σ} {rows : List (Nat × Int)} {t : Int} (h : fdM rows t = none) : drE rows t = 171 ∧ dlR lt s rows t = (rows, s) := by
  unfold drE dlR; rw [h]; exact ⟨rfl, rfl⟩
theorem dl_yes {σ : Type} {lt : σ → Int → Int → Bool × σ} {s : σ} {rows : List (Nat × Int)} {t : Int} {i : Nat} {x : Nat × Int} (h : fdM rows t = some i) (hx : rows[i]? = some x) : drV rows t = x.2 ∧ drE rows t = 0 ∧ dlR lt s rows t = takeM lt s rows i := by
  unfold drV drE dlR; rw [h]; simp only [hx]; exact ⟨trivial, trivial, trivial⟩
/-- what is marked as gone -/
def GO (n : Nat) (rows : List (Nat × Int)) (gn : List Bool) : Prop := gn.length = n + 1 ∧ ∀ (t : Nat) (b : Bool), gn[t]? = some b → (b = true → ∀ r ∈ rows, r.1 ≠ t) ∧ (b = false → t < n → ∃ r ∈ rows, r.1 = t)
theorem GO_0 {l : List Int} {rows : List (Nat × Int)} (hp : rows.Perm (rowsI l)) : GO l.length rows (List.replicate (l.length + 1) false) := by
  refine ⟨by simp, fun t b h => ?_⟩
  rw [List.getElem?_replicate] at h
  split at h
  · cases h
    refine ⟨fun e => (by cases e), fun _ ht => ?_⟩
    exact ⟨(t, l[t]), hp.mem_iff.2 (List.mem_of_getElem? (rowsI_at (List.getElem?_eq_getElem ht))), rfl⟩
  · cases h
theorem GO_take {σ : Type} {lt : σ → Int → Int → Bool × σ} {s : σ} {n i : Nat} {rows : List (Nat × Int)} {gn : List Bool} {x : Nat × Int} (h : GO n rows gn) (hT : Tk rows) (hx : rows[i]? = some x) (hn : x.1 < n) : GO n (takeM lt s rows i).1 (gn.set x.1 true) := by
  have hp := takeM_perm lt s hx
  have hT2 : Tk (x :: (takeM lt s rows i).1) := Tk_perm hp hT
  have hne : ∀ r ∈ (takeM lt s rows i).1, r.1 ≠ x.1 := fun r hr e => by
    unfold Tk at hT2
    rw [List.map_cons, List.nodup_cons] at hT2
    exact hT2.1 (by rw [← e]; exact List.mem_map.2 ⟨r, hr, rfl⟩)
  refine ⟨by rw [List.length_set]; exact h.1, fun t b hb => ?_⟩
  rw [List.getElem?_set] at hb
  by_cases e : x.1 = t
  · subst e
    rw [if_pos rfl, if_pos (by rw [h.1]; omega)] at hb
    cases hb
    exact ⟨fun _ => hne, fun e => (by cases e)⟩
  · rw [if_neg e] at hb
    obtain ⟨h1, h2⟩ := h.2 t b hb
    refine ⟨fun hb' r hr => h1 hb' r (hp.mem_iff.1 (List.mem_cons_of_mem _ hr)), fun hb' ht => ?_⟩
    obtain ⟨r, hr, e2⟩ := h2 hb' ht
    rcases List.mem_cons.1 (hp.mem_iff.2 hr) with q | q
    · subst q; exact absurd e2 e
    · exact ⟨r, q, e2⟩
theorem GO_no {l : List Int} {out rows : List (Nat × Int)} {gn : List Bool} {t : Nat} (h : GO l.length rows gn) (hp : (out ++ rows).Perm (rowsI l)) (ho : l.length ≤ t ∨ gn[t]? = some true) : ∀ r ∈ rows, r.1 ≠ t := by
  rcases ho with q | q
  · intro r hr e
    have := (List.getElem?_eq_some_iff.1 (row_at hp hr)).1
    omega
  · exact (h.2 t true q).1 rfl
end Go.HpM
