/-
  Contracts of functions that the claim reaches, or the logic and the plain laws that they rest on, or the row over them. (Conditions: none beyond the statement.)
-/
import Derived.Test.YtcemkpiopijbmaaHpOrd
import Derived.Test.YtcemkpiopijbmaaLibC
set_option linter.all false
/-
  Things in their order: what comes out of a heap one by one, what is picked out of a list one by one: one list. Plain: no program. (Conditions: none.)
-/
namespace Go.HpM
open Go.SL
section
variable {α : Type}
/-- things with their tickets -/
def rowsI (l : List α) : List (Nat × α) := l.mapIdx fun i x => (i, x)
theorem rowsI_len (l : List α) : (rowsI l).length = l.length := by simp [rowsI]
theorem rowsI_at {l : List α} {i : Nat} {x : α} (h : l[i]? = some x) : (rowsI l)[i]? = some (i, x) := by simp [rowsI, List.getElem?_mapIdx, h]
theorem rowsI_snoc {l : List α} {i : Nat} {x : α} (h : l[i]? = some x) : rowsI (l.take i) ++ [(i, x)] = rowsI (l.take (i + 1)) := by
  obtain ⟨hi, e⟩ := List.getElem?_eq_some_iff.1 h
  rw [List.take_succ_eq_append_getElem hi, e]
  unfold rowsI
  rw [List.mapIdx_append]
  simp
  omega
theorem rowsI_up (l : List α) : (rowsI l).Pairwise fun x y => x.1 < y.1 := by
  rw [List.pairwise_iff_getElem]
  intro i j hi hj hij
  simp [rowsI]; exact hij
theorem rowsI_tk (l : List α) {x y : Nat × α} (hx : x ∈ rowsI l) (hy : y ∈ rowsI l) (h : x.1 = y.1) : x = y := by
  obtain ⟨i, hi, rfl⟩ := List.getElem_of_mem hx
  obtain ⟨j, hj, rfl⟩ := List.getElem_of_mem hy
  simp [rowsI] at h ⊢
  subst h
  simp
variable {lt : α → α → Bool}
/-- in their order -/
def srt (lt : α → α → Bool) (rows : List (Nat × α)) : List (Nat × α) := rows.mergeSort fun x y => !ah lt y x
theorem srt_perm (rows : List (Nat × α)) : (srt lt rows).Perm rows := List.mergeSort_perm _ _
theorem ah_tot (O : Od lt) (x y : Nat × α) : (!ah lt y x || !ah lt x y) = true := by
  cases h : ah lt y x with
  | false => rfl
  | true => rw [ah_asym O h]; rfl
theorem srt_sorted (O : Od lt) (rows : List (Nat × α)) : (srt lt rows).Pairwise fun x y => ah lt y x = false := by
  have h := List.pairwise_mergeSort (le := fun x y => !ah lt y x) (by
    intro a b c h1 h2
    simp only [Bool.not_eq_true'] at *
    exact ah_tr O h2 h1) (fun a b => ah_tot O a b) rows
  exact h.imp fun h => by simpa using h
theorem srt_uniq (O : Od lt) {l : List α} {out : List (Nat × α)} (hp : out.Perm (rowsI l)) (hs : out.Pairwise fun x y => ah lt y x = false) : out = srt lt (rowsI l) :=
  List.Perm.eq_of_pairwise (le := fun x y => ah lt y x = false) (fun a b ha hb h1 h2 => rowsI_tk l (hp.mem_iff.1 ha) ((srt_perm _).mem_iff.1 hb) (ah_eq h2 h1)) hs (srt_sorted O _) (hp.trans (srt_perm _).symm)
/-- the things in their order, alike ones as they came -/
def sortZ (lt : α → α → Bool) (l : List α) : List α := (srt lt (rowsI l)).map (·.2)
theorem sortZ_len (l : List α) : (sortZ lt l).length = l.length := by unfold sortZ; rw [List.length_map, (srt_perm _).length_eq, rowsI_len]
/-- what has come out, what is left -/
def Outs (lt : α → α → Bool) (l : List α) (out rows : List (Nat × α)) : Prop := (out ++ rows).Perm (rowsI l) ∧ out.Pairwise (fun x y => ah lt y x = false) ∧ ∀ x ∈ out, ∀ y ∈ rows, ah lt y x = false
theorem Outs_0 {l : List α} {rows : List (Nat × α)} (h : rows.Perm (rowsI l)) : Outs lt l [] rows := ⟨h, .nil, by simp⟩
theorem Outs_step {l : List α} {out rows rows' : List (Nat × α)} {x : Nat × α} (h : Outs lt l out rows) (hp : (x :: rows').Perm rows) (hl : ∀ y ∈ rows', ah lt y x = false) : Outs lt l (out ++ [x]) rows' := by
  obtain ⟨h1, h2, h3⟩ := h
  refine ⟨?_, ?_, ?_⟩
  · rw [List.append_assoc]
    exact (List.Perm.append_left out hp).trans h1
  · rw [List.pairwise_append]
    refine ⟨h2, List.pairwise_singleton _ _, fun a ha b hb => ?_⟩
    rw [List.mem_singleton] at hb; subst hb
    exact h3 a ha b (hp.mem_iff.1 List.mem_cons_self)
  · intro a ha y hy
    rcases List.mem_append.1 ha with q | q
    · exact h3 a q y (hp.mem_iff.1 (List.mem_cons_of_mem _ hy))
    · rw [List.mem_singleton] at q; subst q; exact hl y hy
theorem Outs_end (O : Od lt) {l : List α} {out : List (Nat × α)} (h : Outs lt l out []) : out.map (·.2) = sortZ lt l := by
  obtain ⟨h1, h2, _⟩ := h
  rw [List.append_nil] at h1
  rw [srt_uniq O h1 h2]; rfl
theorem Outs_len {l : List α} {out rows : List (Nat × α)} (h : Outs lt l out rows) : out.length + rows.length = l.length := by
  have := h.1.length_eq
  rwa [List.length_append, rowsI_len] at this
/-- .. out of a heap -/
theorem Outs_heap (O : Od lt) {l : List α} {out rows : List (Nat × α)} {x : Nat × α} (h : Outs lt l out rows) (hH : Hp lt rows) (hx : rows[0]? = some x) : Outs lt l (out ++ [x]) (takeM (pl lt) () rows 0).1 :=
  Outs_step h (takeM_perm _ _ hx) fun y hy => hH.top_mem O hx ((takeM_perm (pl lt) () hx).mem_iff.1 (List.mem_cons_of_mem _ hy))
/-- the place of the least of a list, by going through it -/
def leastP (lt : α → α → Bool) (rows : List (Nat × α)) : Nat → Int
  | 0 => -1
  | k + 1 => match rows[k]?, rows[(leastP lt rows k).toNat]? with
    | some x, some y => if leastP lt rows k < 0 ∨ lt x.2 y.2 = true then (k : Int) else leastP lt rows k
    | _, _ => leastP lt rows k
theorem leastP_step {rows : List (Nat × α)} {k : Nat} {x y : Nat × α} (hx : rows[k]? = some x) (hy : rows[(leastP lt rows k).toNat]? = some y) : leastP lt rows (k + 1) = if leastP lt rows k < 0 ∨ lt x.2 y.2 = true then (k : Int) else leastP lt rows k := by
  rw [leastP, hx, hy]
theorem leastP_rng (rows : List (Nat × α)) : ∀ k, k ≤ rows.length → (k = 0 ∧ leastP lt rows k = -1) ∨ (0 < k ∧ 0 ≤ leastP lt rows k ∧ leastP lt rows k < k)
  | 0, _ => .inl ⟨rfl, rfl⟩
  | k + 1, h => by
    right
    have ih := leastP_rng rows k (by omega)
    obtain ⟨x, hx⟩ : ∃ x, rows[k]? = some x := ⟨_, List.getElem?_eq_getElem (by omega)⟩
    obtain ⟨y, hy⟩ : ∃ y, rows[(leastP lt rows k).toNat]? = some y := ⟨_, List.getElem?_eq_getElem (by omega)⟩
    rw [leastP_step hx hy]
    split <;> omega
/-- of rows with rising tickets it stands ahead of all others -/
theorem leastP_least (O : Od lt) {rows : List (Nat × α)} (hu : rows.Pairwise fun x y => x.1 < y.1) : ∀ k, 0 < k → k ≤ rows.length → ∀ b, rows[(leastP lt rows k).toNat]? = some b → ∀ j y, j < k → rows[j]? = some y → ah lt y b = false
  | 0, h, _, _, _, _, _, _, _ => by omega
  | k + 1, _, h, b, hb, j, y, hj, hy => by
    obtain ⟨x, hx⟩ : ∃ x, rows[k]? = some x := ⟨_, List.getElem?_eq_getElem (by omega)⟩
    have hr := leastP_rng (lt := lt) rows k (by omega)
    obtain ⟨z, hz⟩ : ∃ z, rows[(leastP lt rows k).toNat]? = some z := ⟨_, List.getElem?_eq_getElem (by omega)⟩
    rw [leastP_step hx hz] at hb
    have hup : ∀ {i i' : Nat} {u v : Nat × α}, i < i' → rows[i]? = some u → rows[i']? = some v → u.1 < v.1 := fun {i i' u v} hi hu' hv' => by
      obtain ⟨a1, a2⟩ := List.getElem?_eq_some_iff.1 hu'
      obtain ⟨b1, b2⟩ := List.getElem?_eq_some_iff.1 hv'
      have := List.pairwise_iff_getElem.1 hu i i' a1 b1 hi
      rwa [a2, b2] at this
    rcases hr with ⟨hk0, hl⟩ | ⟨hk0, hl0, hlk⟩
    · subst hk0
      rw [if_pos (.inl (by rw [hl]; decide))] at hb
      have e : j = 0 := by omega
      subst e
      simp only [Int.toNat_natCast] at hb
      rw [hy] at hb; cases hb
      exact ah_self O _
    · have ih := leastP_least O hu k hk0 (by omega) z hz
      by_cases hc : lt x.2 z.2 = true
      · rw [if_pos (.inr hc)] at hb
        simp only [Int.toNat_natCast] at hb
        rw [hx] at hb; cases hb
        rcases (show j = k ∨ j < k from by omega) with e | e
        · subst e; rw [hy] at hx; cases hx; exact ah_self O _
        · exact ah_tr O (ih j y e hy) (ah_asym O (ah_true.2 (.inl hc)))
      · rw [if_neg (by rintro (q | q); omega; exact hc q)] at hb
        rw [hz] at hb; cases hb
        rcases (show j = k ∨ j < k from by omega) with e | e
        · subst e
          rw [hy] at hx; cases hx
          have hlt := hup (i := (leastP lt rows j).toNat) (i' := j) (by omega) hz hy
          refine ah_false.2 ⟨by simpa using hc, .inr (by omega)⟩
        · exact ih j y e hy
/-- .. out of a list with rising tickets -/
theorem Outs_list (O : Od lt) {l : List α} {out rows : List (Nat × α)} {x : Nat × α} (h : Outs lt l out rows) (hu : rows.Pairwise fun x y => x.1 < y.1) (h0 : 0 < rows.length) (hx : rows[(leastP lt rows rows.length).toNat]? = some x) : Outs lt l (out ++ [x]) (rows.eraseIdx (leastP lt rows rows.length).toNat) := by
  refine Outs_step h (erase_perm rows _ x hx).symm fun y hy => ?_
  have hm : y ∈ rows := List.mem_of_mem_eraseIdx hy
  obtain ⟨j, hj⟩ := List.getElem?_of_mem hm
  exact leastP_least O hu rows.length h0 (Nat.le_refl _) x hx j y (List.getElem?_eq_some_iff.1 hj).1 hj
theorem up_erase {rows : List (Nat × α)} (i : Nat) (hu : rows.Pairwise fun x y => x.1 < y.1) : (rows.eraseIdx i).Pairwise fun x y => x.1 < y.1 := hu.sublist (List.eraseIdx_sublist _ _)
end
end Go.HpM
