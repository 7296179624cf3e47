/-
  Contracts of functions that the claim reaches, or the logic and the plain laws that they rest on, or the row over them. (Conditions: none beyond the statement.)
-/
import Derived.Test.YtcemkpiopijbmaaHpSort
set_option linter.all false
/-
  A heap's rows and the document's list beside one another: each call of the one is the call of the other. Plain: no program. (Conditions: none.)
-/
namespace Go.HpM
open Go.SL
section
variable {α : Type} {lt : α → α → Bool}
theorem srt_len (rows : List (Nat × α)) : (srt lt rows).length = rows.length := (srt_perm _).length_eq
theorem up_mem {L : List (Nat × α)} (hu : L.Pairwise fun x y => x.1 < y.1) {x y : Nat × α} (hx : x ∈ L) (hy : y ∈ L) (h : x.1 = y.1) : x = y := by
  obtain ⟨i, hi, rfl⟩ := List.getElem_of_mem hx
  obtain ⟨j, hj, rfl⟩ := List.getElem_of_mem hy
  rcases Nat.lt_trichotomy i j with q | q | q
  · have := List.pairwise_iff_getElem.1 hu i j hi hj q; omega
  · subst q; rfl
  · have := List.pairwise_iff_getElem.1 hu j i hj hi q; omega
theorem set_fst {rows : List (Nat × α)} {i : Nat} {x y : Nat × α} (hx : rows[i]? = some x) (hy : y.1 = x.1) : (rows.set i y).map (·.1) = rows.map (·.1) := by
  obtain ⟨hlt, e⟩ := List.getElem?_eq_some_iff.1 hx
  rw [List.map_set, hy]
  have : x.1 = (rows.map (·.1))[i]'(by simpa using hlt) := by simp [e]
  rw [this, List.set_getElem_self]
theorem atOf_fst (rows : List (Nat × α)) : atOf rows = fun t => ((rows.map (·.1)).findIdx? fun n => ((n : Nat) : Int) == t).map fun i : Nat => Value.int .i64 (i : Int) := by
  funext t
  unfold atOf
  rw [List.findIdx?_map]
  show _ = Option.map _ (List.findIdx? (fun r : Nat × α => ((r.1 : Nat) : Int) == t) rows)
  cases List.findIdx? (fun r : Nat × α => ((r.1 : Nat) : Int) == t) rows <;> rfl
theorem atOf_set {rows : List (Nat × α)} {i : Nat} {x : Nat × α} {z : α} (hx : rows[i]? = some x) : atOf rows = atOf (rows.set i (x.1, z)) := by
  rw [atOf_fst, atOf_fst, set_fst (y := (x.1, z)) hx rfl]
theorem at_grow {rows : List (Nat × α)} {k : Nat} {x : Nat × α} (hT : Tk rows) (hx : rows[k]? = some x) : upd (atOf (rows.take k)) (x.1 : Int) (some (.int .i64 (k : Int))) = atOf (rows.take (k + 1)) := by
  obtain ⟨hlt, e⟩ := List.getElem?_eq_some_iff.1 hx
  have e2 : rows.take (k + 1) = rows.take k ++ [x] := by rw [List.take_succ_eq_append_getElem hlt, e]
  have hT2 : Tk (rows.take k ++ [x]) := by
    rw [← e2]; unfold Tk at hT ⊢
    exact hT.sublist ((List.take_sublist _ _).map _)
  have hn : Tk (rows.take k) ∧ ∀ r ∈ rows.take k, r.1 ≠ x.1 := by
    unfold Tk at hT2 ⊢
    rw [List.map_append, List.nodup_append] at hT2
    exact ⟨hT2.1, fun r hr => hT2.2.2 r.1 (List.mem_map.2 ⟨r, hr, rfl⟩) x.1 (by simp)⟩
  have h := atOf_push (x := x.2) hn.1 hn.2
  rw [List.length_take, Nat.min_eq_left (by omega)] at h
  rw [h, e2]
/-! what has come out of any rows, what is left -/
def OutG (lt : α → α → Bool) (L out rows : List (Nat × α)) : Prop := (out ++ rows).Perm L ∧ out.Pairwise (fun x y => ah lt y x = false) ∧ ∀ x ∈ out, ∀ y ∈ rows, ah lt y x = false
theorem OutG_0 {L rows : List (Nat × α)} (h : rows.Perm L) : OutG lt L [] rows := ⟨h, .nil, by simp⟩
theorem OutG_len {L out rows : List (Nat × α)} (h : OutG lt L out rows) : out.length + rows.length = L.length := by
  have := h.1.length_eq
  rwa [List.length_append] at this
theorem OutG_step {L out rows rows' : List (Nat × α)} {x : Nat × α} (h : OutG lt L out rows) (hp : (x :: rows').Perm rows) (hl : ∀ y ∈ rows', ah lt y x = false) : OutG lt L (out ++ [x]) rows' := by
  obtain ⟨h1, h2, h3⟩ := h
  refine ⟨?_, ?_, ?_⟩
  · rw [List.append_assoc]
    exact (List.Perm.append_left out hp).trans h1
  · rw [List.pairwise_append]
    refine ⟨h2, List.pairwise_singleton _ _, fun a ha b hb => ?_⟩
    rw [List.mem_singleton] at hb; subst hb
    exact h3 a ha b (hp.mem_iff.1 List.mem_cons_self)
  · intro a ha y hy
    rcases List.mem_append.1 ha with q | q
    · exact h3 a q y (hp.mem_iff.1 (List.mem_cons_of_mem _ hy))
    · rw [List.mem_singleton] at q; subst q; exact hl y hy
theorem srt_uniqU (O : Od lt) {L out : List (Nat × α)} (hu : L.Pairwise fun x y => x.1 < y.1) (hp : out.Perm L) (hs : out.Pairwise fun x y => ah lt y x = false) : out = srt lt L :=
  List.Perm.eq_of_pairwise (le := fun x y => ah lt y x = false) (fun a b ha hb h1 h2 => up_mem hu (hp.mem_iff.1 ha) ((srt_perm _).mem_iff.1 hb) (ah_eq h2 h1)) hs (srt_sorted O _) (hp.trans (srt_perm _).symm)
theorem OutG_end (O : Od lt) {L out : List (Nat × α)} (hu : L.Pairwise fun x y => x.1 < y.1) (h : OutG lt L out []) : out = srt lt L := by
  obtain ⟨h1, h2, _⟩ := h
  rw [List.append_nil] at h1
  exact srt_uniqU O hu h1 h2
theorem OutG_at (O : Od lt) {L out rows : List (Nat × α)} {x : Nat × α} (hu : L.Pairwise fun x y => x.1 < y.1) (h : OutG lt L (out ++ [x]) rows) : (srt lt L)[out.length]? = some x := by
  obtain ⟨h1, h2, h3⟩ := h
  rw [← srt_uniqU O (out := (out ++ [x]) ++ srt lt rows) hu ((List.Perm.append_left _ (srt_perm _)).trans h1) (by
    rw [List.pairwise_append]
    exact ⟨h2, srt_sorted O _, fun a ha b hb => h3 a ha b ((srt_perm _).mem_iff.1 hb)⟩)]
  rw [List.append_assoc, List.getElem?_append_right (Nat.le_refl _)]
  simp
theorem OutG_heap (O : Od lt) {L out rows : List (Nat × α)} {x : Nat × α} (h : OutG lt L out rows) (hH : Hp lt rows) (hx : rows[0]? = some x) : OutG lt L (out ++ [x]) (takeM (pl lt) () rows 0).1 :=
  OutG_step h (takeM_perm _ _ hx) fun y hy => hH.top_mem O hx ((takeM_perm (pl lt) () hx).mem_iff.1 (List.mem_cons_of_mem _ hy))
theorem OutG_list (O : Od lt) {L out rows : List (Nat × α)} {x : Nat × α} (h : OutG lt L out rows) (hu : rows.Pairwise fun x y => x.1 < y.1) (h0 : 0 < rows.length) (hx : rows[(leastP lt rows rows.length).toNat]? = some x) : OutG lt L (out ++ [x]) (rows.eraseIdx (leastP lt rows rows.length).toNat) := by
  refine OutG_step h (erase_perm rows _ x hx).symm fun y hy => ?_
  have hm : y ∈ rows := List.mem_of_mem_eraseIdx hy
  obtain ⟨j, hj⟩ := List.getElem?_of_mem hm
  exact leastP_least O hu rows.length h0 (Nat.le_refl _) x hx j y (List.getElem?_eq_some_iff.1 hj).1 hj
/-! where a ticket stands -/
def fdM (rows : List (Nat × α)) (t : Int) : Option Nat := rows.findIdx? fun r => ((r.1 : Nat) : Int) == t
theorem fd_none {rows : List (Nat × α)} {t : Int} (h : fdM rows t = none) : ∀ r ∈ rows, (r.1 : Int) ≠ t := by
  unfold fdM at h
  rw [List.findIdx?_eq_none_iff] at h
  intro x hx
  have := h x hx; simpa using this
theorem fd_some {rows : List (Nat × α)} {t : Int} {i : Nat} (h : fdM rows t = some i) : ∃ x, rows[i]? = some x ∧ (x.1 : Int) = t := by
  unfold fdM at h
  obtain ⟨hlt, he, _⟩ := List.findIdx?_eq_some_iff_getElem.1 h
  exact ⟨rows[i], by simp [hlt], by simpa using he⟩
def fdZ (rows : List (Nat × α)) (t : Int) : Int := match fdM rows t with
  | some i => (i : Int)
  | none => -1
theorem fd_end {rows : List (Nat × α)} {t : Int} (h : ∀ (j : Nat) (y : Nat × α), j < rows.length → rows[j]? = some y → (y.1 : Int) ≠ t) : fdZ rows t = -1 := by
  have e : fdM rows t = none := by
    unfold fdM
    rw [List.findIdx?_eq_none_iff]
    intro x hx
    obtain ⟨j, hj⟩ := List.getElem?_of_mem hx
    have := h j x (List.getElem?_eq_some_iff.1 hj).1 hj
    simpa using this
  unfold fdZ; rw [e]
theorem fd_hit {rows : List (Nat × α)} {t : Int} {k : Nat} {x : Nat × α} (h : ∀ (j : Nat) (y : Nat × α), j < k → rows[j]? = some y → (y.1 : Int) ≠ t) (hx : rows[k]? = some x) (he : (x.1 : Int) = t) : fdZ rows t = (k : Int) := by
  have e : fdM rows t = some k := by
    unfold fdM
    obtain ⟨hlt, e⟩ := List.getElem?_eq_some_iff.1 hx
    rw [List.findIdx?_eq_some_iff_getElem]
    refine ⟨hlt, by rw [e]; simpa using he, fun j hj hb => ?_⟩
    have := h j (rows[j]'(by omega)) hj (by simp)
    exact this (by simpa using hb)
  unfold fdZ; rw [e]
/-! what the calls answer -/
def tpV (rows : List (Nat × Int)) : Int := match rows with
  | x :: _ => x.2
  | [] => 0
def lsV (lt : Int → Int → Bool) (L : List (Nat × Int)) : Int := match L[(leastP lt L L.length).toNat]? with
  | some x => x.2
  | none => 0
def lsL (lt : α → α → Bool) (L : List (Nat × α)) : List (Nat × α) := L.eraseIdx (leastP lt L L.length).toNat
def drV (rows : List (Nat × Int)) (t : Int) : Int := match fdM rows t with
  | none => 0
  | some i => match rows[i]? with
    | some x => x.2
    | none => 0
def drE (rows : List (Nat × α)) (t : Int) : Int := match fdM rows t with
  | none => 171
  | some _ => 0
def drR (lt : α → α → Bool) (rows : List (Nat × α)) (t : Int) : List (Nat × α) := match fdM rows t with
  | none => rows
  | some i => (takeM (pl lt) () rows i).1
def drL (L : List (Nat × α)) (t : Int) : List (Nat × α) := match fdM L t with
  | none => L
  | some i => L.eraseIdx i
def tuR (lt : α → α → Bool) (rows : List (Nat × α)) (t : Int) (z : α) : List (Nat × α) := match fdM rows t with
  | none => rows
  | some i => (turnM (pl lt) () rows i (t.toNat, z)).1
def tuL (L : List (Nat × α)) (t : Int) (z : α) : List (Nat × α) := match fdM L t with
  | none => L
  | some i => L.set i (t.toNat, z)
/-- the heap's rows are the document's list, in the heap's order -/
structure Rl (lt : α → α → Bool) (rows L : List (Nat × α)) (made : Nat) : Prop where
  pm : rows.Perm L
  up : L.Pairwise fun x y => x.1 < y.1
  hp : Hp lt rows
  gd : Gd rows made
theorem Rl.len {rows L : List (Nat × α)} {made : Nat} (h : Rl lt rows L made) : rows.length = L.length := h.pm.length_eq
theorem Rl_nil {made : Nat} : Rl lt ([] : List (Nat × α)) [] made := ⟨List.Perm.refl _, .nil, Hp_nil, Gd_nil⟩
theorem Rl.push {rows L : List (Nat × α)} {made : Nat} (h : Rl lt rows L made) (O : Od lt) (x : α) : Rl lt (pushM (pl lt) () rows made x).1 (L ++ [(made, x)]) (made + 1) := by
  refine ⟨(pushM_perm _ _ _ _ _).trans (List.Perm.append_right _ h.pm), ?_, pushM_Hp O () h.hp, h.gd.push⟩
  rw [List.pairwise_append]
  refine ⟨h.up, List.pairwise_singleton _ _, fun a ha b hb => ?_⟩
  rw [List.mem_singleton] at hb; subst hb
  exact h.gd.2 a (h.pm.mem_iff.2 ha)
theorem Rl.take {rows L : List (Nat × α)} {made i j : Nat} {x : Nat × α} (h : Rl lt rows L made) (O : Od lt) (hx : rows[i]? = some x) (hy : L[j]? = some x) : Rl lt (takeM (pl lt) () rows i).1 (L.eraseIdx j) made :=
  ⟨((takeM_perm (pl lt) () hx).trans (h.pm.trans (erase_perm L j x hy))).cons_inv, up_erase j h.up, takeM_Hp O () (List.getElem?_eq_some_iff.1 hx).1 h.hp, h.gd.take hx⟩
theorem Rl.pop {lt : Int → Int → Bool} {rows L : List (Nat × Int)} {made : Nat} (h : Rl lt rows L made) (O : Od lt) : tpV rows = lsV lt L ∧ decide (rows ≠ []) = decide (L ≠ []) ∧ Rl lt (takeM (pl lt) () rows 0).1 (lsL lt L) made := by
  rcases Nat.eq_zero_or_pos L.length with q | q
  · have e1 : L = [] := List.eq_nil_of_length_eq_zero q
    have e2 : rows = [] := List.eq_nil_of_length_eq_zero (by rw [h.len]; exact q)
    subst e1; subst e2
    have e : (takeM (pl lt) () ([] : List (Nat × Int)) 0).1 = [] := List.eq_nil_of_length_eq_zero (by rw [takeM_len]; rfl)
    rw [e]
    exact ⟨rfl, rfl, Rl_nil⟩
  · have hl := h.len
    have hr := leastP_rng (lt := lt) L L.length (Nat.le_refl _)
    obtain ⟨y, hy⟩ : ∃ y, L[(leastP lt L L.length).toNat]? = some y := ⟨_, List.getElem?_eq_getElem (by omega)⟩
    obtain ⟨x, hx⟩ : ∃ x, rows[0]? = some x := ⟨_, List.getElem?_eq_getElem (by omega)⟩
    have hxm : x ∈ L := h.pm.mem_iff.1 (List.mem_of_getElem? hx)
    have hym := List.mem_of_getElem? hy
    obtain ⟨k, hk⟩ := List.getElem?_of_mem hxm
    have h1 : ah lt x y = false := leastP_least O h.up L.length q (Nat.le_refl _) y hy k x (List.getElem?_eq_some_iff.1 hk).1 hk
    have h2 : ah lt y x = false := h.hp.top_mem O hx (h.pm.mem_iff.2 hym)
    obtain rfl : x = y := up_mem h.up hxm hym (ah_eq h1 h2)
    refine ⟨?_, ?_, h.take O hx hy⟩
    · unfold lsV; rw [hy]
      cases rows with
      | nil => simp at hx
      | cons r rs => simp at hx; subst hx; rfl
    · rw [decide_eq_true (p := rows ≠ []) (fun e => by rw [e] at hx; simp at hx), decide_eq_true (p := L ≠ []) (fun e => by rw [e] at q; cases q)]
theorem Rl.find {rows L : List (Nat × α)} {made : Nat} (h : Rl lt rows L made) (t : Int) : (fdM rows t = none ∧ fdM L t = none) ∨ ∃ i j x, fdM rows t = some i ∧ fdM L t = some j ∧ rows[i]? = some x ∧ L[j]? = some x ∧ (x.1 : Int) = t := by
  cases h1 : fdM rows t with
  | none =>
    left; refine ⟨rfl, ?_⟩
    cases h2 : fdM L t with
    | none => rfl
    | some j =>
      obtain ⟨y, hy, e⟩ := fd_some h2
      exact absurd e (fd_none h1 y (h.pm.mem_iff.2 (List.mem_of_getElem? hy)))
  | some i =>
    right
    obtain ⟨x, hx, e⟩ := fd_some h1
    cases h2 : fdM L t with
    | none => exact absurd e (fd_none h2 x (h.pm.mem_iff.1 (List.mem_of_getElem? hx)))
    | some j =>
      obtain ⟨y, hy, e2⟩ := fd_some h2
      obtain rfl : x = y := up_mem h.up (h.pm.mem_iff.1 (List.mem_of_getElem? hx)) (List.mem_of_getElem? hy) (by omega)
      exact ⟨i, j, x, rfl, rfl, hx, hy, e⟩
theorem Rl.drop {lt : Int → Int → Bool} {rows L : List (Nat × Int)} {made : Nat} (h : Rl lt rows L made) (O : Od lt) (t : Int) : drV rows t = drV L t ∧ drE rows t = drE L t ∧ Rl lt (drR lt rows t) (drL L t) made := by
  unfold drV drE drR drL
  rcases h.find t with ⟨e1, e2⟩ | ⟨i, j, x, e1, e2, hx, hy, _⟩
  · rw [e1, e2]; exact ⟨rfl, rfl, h⟩
  · rw [e1, e2]; simp only [hx, hy]; refine ⟨?_, ?_, ?_⟩ <;> first | trivial | exact h.take O hx hy
theorem Rl.turn {rows L : List (Nat × α)} {made i j : Nat} {x : Nat × α} (h : Rl lt rows L made) (O : Od lt) (hx : rows[i]? = some x) (hy : L[j]? = some x) (z : α) : Rl lt (turnM (pl lt) () rows i (x.1, z)).1 (L.set j (x.1, z)) made := by
  have hi := (List.getElem?_eq_some_iff.1 hx).1
  have hj := (List.getElem?_eq_some_iff.1 hy).1
  have p1 : ∀ {l : List (Nat × α)} {k : Nat}, l[k]? = some x → k < l.length → (l.set k (x.1, z)).Perm ((x.1, z) :: l.eraseIdx k) := fun {l k} hk hkl => by
    have hh := erase_perm (l.set k (x.1, z)) k (x.1, z) (by rw [List.getElem?_set_self hkl])
    rwa [List.eraseIdx_set_eq] at hh
  have p2 : (rows.eraseIdx i).Perm (L.eraseIdx j) := ((erase_perm rows i x hx).symm.trans (h.pm.trans (erase_perm L j x hy))).cons_inv
  refine ⟨(turnM_perm _ _ _ _ _).trans ((p1 hx hi).trans ((p2.cons _).trans (p1 hy hj).symm)), ?_, turnM_Hp O () hi h.hp, (h.gd.set (y := (x.1, z)) hx rfl).perm (turnM_perm _ _ _ _ _)⟩
  have hu := h.up
  have e : ∀ l : List (Nat × α), (l.Pairwise fun x y => x.1 < y.1) ↔ (l.map (·.1)).Pairwise (· < ·) := fun l => by rw [List.pairwise_map]
  rw [e] at hu ⊢
  rwa [set_fst (y := (x.1, z)) hy rfl]
theorem Rl.turnT {rows L : List (Nat × α)} {made : Nat} (h : Rl lt rows L made) (O : Od lt) (t : Int) (z : α) : Rl lt (tuR lt rows t z) (tuL L t z) made := by
  unfold tuR tuL
  rcases h.find t with ⟨e1, e2⟩ | ⟨i, j, x, e1, e2, hx, hy, e⟩
  · rw [e1, e2]; exact h
  · rw [e1, e2]
    have e3 : t.toNat = x.1 := by omega
    simp only [e3]
    exact h.turn O hx hy z
end
end Go.HpM
