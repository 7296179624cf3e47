/-
  Contracts of functions that the claim reaches, or the logic and the plain laws that they rest on, or the row over them. (Conditions: none beyond the statement.)
-/
import Derived.Test.YtcemkpiopijbmaaHpModel
set_option linter.all false
/-
  The heap by an order without a state: the least thing stands at the top; pushing, taking, turning keep that. Plain: no program. (Conditions: the order is one.)
-/
namespace Go.HpM
section
variable {α : Type}
/-- an order without a state -/
def pl (lt : α → α → Bool) : Unit → α → α → Bool × Unit := fun _ x y => (lt x y, ())
def ah (lt : α → α → Bool) (x y : Nat × α) : Bool := lt x.2 y.2 || (!lt y.2 x.2 && decide (x.1 < y.1))
theorem ahM_pl (lt : α → α → Bool) (s : Unit) (x y : Nat × α) : ahM (pl lt) s x y = (ah lt x y, ()) := by
  unfold ahM pl ah; by_cases h : lt x.2 y.2 = true <;> simp [h]
/-- what an order must be -/
structure Od (lt : α → α → Bool) : Prop where
  irr : ∀ x, lt x x = false
  tr : ∀ x y z, lt x y = true → lt y z = true → lt x z = true
  nt : ∀ x y z, lt x y = false → lt y z = false → lt x z = false
variable {lt : α → α → Bool}
theorem Od.asym (O : Od lt) {x y : α} (h : lt x y = true) : lt y x = false := by
  cases hh : lt y x with
  | false => rfl
  | true => have := O.tr _ _ _ h hh; rw [O.irr] at this; cases this
theorem ah_false {x y : Nat × α} : ah lt x y = false ↔ lt x.2 y.2 = false ∧ (lt y.2 x.2 = true ∨ y.1 ≤ x.1) := by
  unfold ah; cases h1 : lt x.2 y.2 <;> cases h2 : lt y.2 x.2 <;> simp
theorem ah_true {x y : Nat × α} : ah lt x y = true ↔ lt x.2 y.2 = true ∨ (lt y.2 x.2 = false ∧ x.1 < y.1) := by
  unfold ah; cases h1 : lt x.2 y.2 <;> cases h2 : lt y.2 x.2 <;> simp
theorem ah_asym (O : Od lt) {x y : Nat × α} (h : ah lt x y = true) : ah lt y x = false := by
  rw [ah_false]; rcases ah_true.1 h with h | ⟨h1, h2⟩
  · exact ⟨O.asym h, .inl h⟩
  · exact ⟨h1, .inr (by omega)⟩
/-- z behind y, y behind x: z behind x -/
theorem ah_tr (O : Od lt) {x y z : Nat × α} (h1 : ah lt z y = false) (h2 : ah lt y x = false) : ah lt z x = false := by
  rw [ah_false] at *
  refine ⟨O.nt _ _ _ h1.1 h2.1, ?_⟩
  cases hxz : lt x.2 z.2 with
  | true => exact .inl rfl
  | false =>
    refine .inr ?_
    rcases h1.2 with q | q
    · have := O.nt _ _ _ h2.1 hxz; rw [this] at q; cases q
    · rcases h2.2 with p | p
      · have := O.nt _ _ _ hxz h1.1; rw [this] at p; cases p
      · omega
theorem ah_eq {x y : Nat × α} (h1 : ah lt x y = false) (h2 : ah lt y x = false) : x.1 = y.1 := by
  rw [ah_false] at *
  rcases h1.2 with q | q
  · rw [h2.1] at q; cases q
  · rcases h2.2 with p | p
    · rw [h1.1] at p; cases p
    · omega
theorem ah_self (O : Od lt) (x : Nat × α) : ah lt x x = false := ah_false.2 ⟨O.irr _, .inr (Nat.le_refl _)⟩
/-- the one at j is not ahead of the one at half its place -/
def okj (lt : α → α → Bool) (rows : List (Nat × α)) (j : Nat) : Prop := ∀ x y, rows[j]? = some x → rows[(j - 1) / 2]? = some y → ah lt x y = false
def Hp (lt : α → α → Bool) (rows : List (Nat × α)) : Prop := ∀ j, 0 < j → okj lt rows j
/-- the children of i are not ahead of what stands above i -/
def gr (lt : α → α → Bool) (rows : List (Nat × α)) (i : Nat) : Prop := ∀ j c p, 0 < i → 0 < j → (j - 1) / 2 = i → rows[j]? = some c → rows[(i - 1) / 2]? = some p → ah lt c p = false
def HU (lt : α → α → Bool) (rows : List (Nat × α)) (i : Nat) : Prop := (∀ j, 0 < j → j ≠ i → okj lt rows j) ∧ gr lt rows i
theorem Hp.gr (O : Od lt) {rows : List (Nat × α)} (h : Hp lt rows) (i : Nat) : gr lt rows i := by
  intro j c p hi hj hji hc hp
  have hlt := (List.getElem?_eq_some_iff.1 hc).1
  obtain ⟨y, hy⟩ : ∃ y, rows[i]? = some y := ⟨_, List.getElem?_eq_getElem (by omega)⟩
  exact ah_tr O (h j hj c y hc (by rw [hji]; exact hy)) (h i hi y p hy hp)
theorem Hp.HU (O : Od lt) {rows : List (Nat × α)} (h : Hp lt rows) (i : Nat) : HU lt rows i := ⟨fun j hj _ => h j hj, h.gr O i⟩
theorem upM_Hp (O : Od lt) : ∀ (i : Nat) (s : Unit) (rows : List (Nat × α)), i < rows.length → HU lt rows i → Hp lt (upM (pl lt) s rows i).1 := by
  intro i
  induction i using Nat.strongRecOn with
  | _ i ih =>
    intro s rows hi hu
    by_cases h0 : i = 0
    · subst h0; rw [upM_zero]; exact fun j hj => hu.1 j hj (by omega)
    · obtain ⟨x, hx⟩ : ∃ x, rows[i]? = some x := ⟨_, List.getElem?_eq_getElem hi⟩
      obtain ⟨y, hy⟩ : ∃ y, rows[(i - 1) / 2]? = some y := ⟨_, List.getElem?_eq_getElem (by omega)⟩
      rw [upM_step (pl lt) s (by omega) hx hy, ahM_pl]
      dsimp only
      cases ha : ah lt x y with
      | false =>
        rw [if_neg (by simp)]
        intro j hj
        by_cases hji : j = i
        · subst hji; intro a b h1 h2; rw [hx] at h1; rw [hy] at h2; cases h1; cases h2; exact ha
        · exact hu.1 j hj hji
      | true =>
        rw [if_pos rfl]
        have hg := swp_get hx hy
        refine ih _ (by omega) _ _ (by rw [swp_len]; omega) ⟨fun j hj hjp a b h1 h2 => ?_, fun j c p hp0 hj hjp h1 h2 => ?_⟩
        · rw [hg] at h1 h2
          rw [if_neg hjp] at h1
          by_cases hji : j = i
          · subst hji
            rw [if_pos rfl] at h1 h2
            cases h1; cases h2; exact ah_asym O ha
          · rw [if_neg hji] at h1
            have hok := hu.1 j hj hji
            by_cases hq : (j - 1) / 2 = (i - 1) / 2
            · rw [if_pos hq] at h2; cases h2
              exact ah_tr O (hok a y h1 (by rw [hq]; exact hy)) (ah_asym O ha)
            · rw [if_neg hq] at h2
              by_cases hq2 : (j - 1) / 2 = i
              · rw [if_pos hq2] at h2; cases h2
                exact hu.2 j a y (by omega) hj hq2 h1 hy
              · rw [if_neg hq2] at h2
                exact hok a b h1 h2
        · rw [hg] at h1 h2
          rw [if_neg (by omega), if_neg (by omega)] at h2
          have hyp := hu.1 ((i - 1) / 2) hp0 (by omega) y p hy h2
          rw [if_neg (by omega)] at h1
          by_cases hji : j = i
          · rw [if_pos hji] at h1; cases h1; exact hyp
          · rw [if_neg hji] at h1
            exact ah_tr O (hu.1 j hj hji c y h1 (by rw [hjp]; exact hy)) hyp
/-! downwards -/
theorem pickM_spec (O : Od lt) (s : Unit) {rows : List (Nat × α)} {c best : Nat} {y : Nat × α} (hb : rows[best]? = some y) : ∃ z, rows[(pickM (pl lt) s rows c best).1]? = some z ∧ ah lt y z = false ∧ (∀ x, rows[c]? = some x → ah lt x z = false) ∧
    ((pickM (pl lt) s rows c best).1 = best ∧ z = y ∨ (pickM (pl lt) s rows c best).1 = c ∧ ah lt z y = true) := by
  cases hc : rows[c]? with
  | none => rw [pickM_no _ _ (by simpa using hc)]; exact ⟨y, hb, ah_self O y, fun x hx => (by cases hx), .inl ⟨rfl, rfl⟩⟩
  | some x =>
    rw [pickM_yes _ _ hc hb, ahM_pl]
    dsimp only
    cases ha : ah lt x y with
    | true => rw [if_pos rfl]; exact ⟨x, hc, ah_asym O ha, fun x' hx' => (by cases hx'; exact ah_self O x), .inr ⟨rfl, ha⟩⟩
    | false => rw [if_neg (by simp)]; exact ⟨y, hb, ah_self O y, fun x' hx' => (by cases hx'; exact ha), .inl ⟨rfl, rfl⟩⟩
theorem bestM_spec (O : Od lt) (s : Unit) {rows : List (Nat × α)} {i : Nat} {x : Nat × α} (hi : rows[i]? = some x) : ∃ z, rows[(bestM (pl lt) s rows i).1]? = some z ∧ (∀ j c, 0 < j → (j - 1) / 2 = i → rows[j]? = some c → ah lt c z = false) ∧
    ((bestM (pl lt) s rows i).1 = i ∧ z = x ∨ (0 < (bestM (pl lt) s rows i).1 ∧ ((bestM (pl lt) s rows i).1 - 1) / 2 = i) ∧ ah lt z x = true) := by
  unfold bestM
  obtain ⟨y, h1, h2, h3, h4⟩ := pickM_spec O s (c := 2 * i + 1) hi
  obtain ⟨z, k1, k2, k3, k4⟩ := pickM_spec O (pickM (pl lt) s rows (2 * i + 1) i).2 (c := 2 * i + 2) h1
  refine ⟨z, k1, fun j c hj hji hc => ?_, ?_⟩
  · rcases (show j = 2 * i + 1 ∨ j = 2 * i + 2 from by omega) with q | q
    · subst q; exact ah_tr O (h3 c hc) k2
    · subst q; exact k3 c hc
  · rcases k4 with ⟨q, rfl⟩ | ⟨q, hq⟩
    · rw [q]
      rcases h4 with ⟨p, rfl⟩ | ⟨p, hp⟩
      · exact .inl ⟨p, rfl⟩
      · exact .inr ⟨by rw [p]; omega, hp⟩
    · refine .inr ⟨by rw [q]; omega, ?_⟩
      rcases h4 with ⟨p, rfl⟩ | ⟨p, hp⟩
      · exact hq
      · cases hzx : ah lt z x with
        | true => rfl
        | false => have := ah_tr O hzx (ah_asym O hp); rw [hq] at this; cases this
def HD (lt : α → α → Bool) (rows : List (Nat × α)) (i : Nat) : Prop := (∀ j, 0 < j → (j - 1) / 2 ≠ i → okj lt rows j) ∧ gr lt rows i
/-- one step down: but for i itself -/
theorem down_step (O : Od lt) {rows : List (Nat × α)} {i b : Nat} {x z : Nat × α} (hx : rows[i]? = some x) (hz : rows[b]? = some z) (hb : 0 < b ∧ (b - 1) / 2 = i) (hbest : ∀ j c, 0 < j → (j - 1) / 2 = i → rows[j]? = some c → ah lt c z = false) (hzx : ah lt z x = true)
    (h1 : ∀ j, 0 < j → j ≠ i → (j - 1) / 2 ≠ i → okj lt rows j) (h2 : gr lt rows i) : HD lt (swp rows i b) b := by
  have hg := swp_get hx hz
  refine ⟨fun j hj hjb a p ha hp => ?_, fun j c p _ hj hjb hc hp => ?_⟩
  · rw [hg] at ha hp
    rw [if_neg hjb] at hp
    by_cases q : j = b
    · subst q
      rw [if_pos rfl] at ha
      rw [if_pos hb.2] at hp
      cases ha; cases hp; exact ah_asym O hzx
    · rw [if_neg q] at ha
      by_cases q2 : j = i
      · subst q2
        rw [if_pos rfl] at ha
        rw [if_neg (by omega)] at hp
        cases ha
        exact h2 b z p hj hb.1 hb.2 hz hp
      · rw [if_neg q2] at ha
        by_cases q3 : (j - 1) / 2 = i
        · rw [if_pos q3] at hp; cases hp
          exact hbest j a hj q3 ha
        · rw [if_neg q3] at hp
          exact h1 j hj q2 q3 a p ha hp
  · rw [hg] at hc hp
    rw [if_neg (by omega), if_neg (by omega)] at hc
    rw [if_neg (by omega), if_pos hb.2] at hp
    cases hp
    exact h1 j hj (by omega) (by omega) c z hc (by rw [hjb]; exact hz)
theorem downM_Hp (O : Od lt) : ∀ (m i : Nat) (s : Unit) (rows : List (Nat × α)), rows.length - i ≤ m → i < rows.length → HD lt rows i → Hp lt (downM (pl lt) s rows i).1 := by
  intro m
  induction m with
  | zero => intro i s rows hm hi; omega
  | succ m ih =>
    intro i s rows hm hi hd
    obtain ⟨x, hx⟩ : ∃ x, rows[i]? = some x := ⟨_, List.getElem?_eq_getElem hi⟩
    obtain ⟨z, hz, hbest, hor⟩ := bestM_spec O s hx
    by_cases hb : (bestM (pl lt) s rows i).1 = i
    · rw [downM_stop hb]
      intro j hj
      by_cases hji : (j - 1) / 2 = i
      · intro a p ha hp
        rw [hji, ← hb, hz] at hp; cases hp
        exact hbest j a hj hji ha
      · exact hd.1 j hj hji
    · rw [downM_go hb]
      rcases hor with ⟨q, _⟩ | ⟨hbi, hzx⟩
      · exact absurd q hb
      · have hlt := (List.getElem?_eq_some_iff.1 hz).1
        exact ih _ _ _ (by rw [swp_len]; omega) (by rw [swp_len]; exact hlt) (down_step O hx hz hbi hbest hzx (fun j hj _ h => hd.1 j hj h) hd.2)
theorem downM_HU (O : Od lt) (i : Nat) (s : Unit) {rows : List (Nat × α)} (hi : i < rows.length) (h1 : ∀ j, 0 < j → j ≠ i → (j - 1) / 2 ≠ i → okj lt rows j) (h2 : gr lt rows i) : HU lt (downM (pl lt) s rows i).1 i := by
  obtain ⟨x, hx⟩ : ∃ x, rows[i]? = some x := ⟨_, List.getElem?_eq_getElem hi⟩
  obtain ⟨z, hz, hbest, hor⟩ := bestM_spec O s hx
  by_cases hb : (bestM (pl lt) s rows i).1 = i
  · rw [downM_stop hb]
    refine ⟨fun j hj hne => ?_, h2⟩
    by_cases hji : (j - 1) / 2 = i
    · intro a p ha hp
      rw [hji, ← hb, hz] at hp; cases hp
      exact hbest j a hj hji ha
    · exact h1 j hj hne hji
  · rw [downM_go hb]
    rcases hor with ⟨q, _⟩ | ⟨hbi, hzx⟩
    · exact absurd q hb
    · have hlt := (List.getElem?_eq_some_iff.1 hz).1
      exact (downM_Hp O _ _ _ _ (Nat.le_refl _) (by rw [swp_len]; exact hlt) (down_step O hx hz hbi hbest hzx h1 h2)).HU O i
/-! what the calls keep -/
theorem mendM_Hp (O : Od lt) (i : Nat) (s : Unit) {rows : List (Nat × α)} (hi : i < rows.length) (h1 : ∀ j, 0 < j → j ≠ i → (j - 1) / 2 ≠ i → okj lt rows j) (h2 : gr lt rows i) : Hp lt (upM (pl lt) (downM (pl lt) s rows i).2 (downM (pl lt) s rows i).1 i).1 :=
  upM_Hp O i _ _ (by rw [(downM_perm (pl lt) _ i s rows (Nat.le_refl _)).length_eq]; exact hi) (downM_HU O i s hi h1 h2)
theorem pushM_Hp (O : Od lt) (s : Unit) {rows : List (Nat × α)} {made : Nat} {x : α} (h : Hp lt rows) : Hp lt (pushM (pl lt) s rows made x).1 := by
  unfold pushM
  have hlt : ∀ {k : Nat} {c : Nat × α}, (rows ++ [(made, x)])[k]? = some c → k ≠ rows.length → rows[k]? = some c := fun {k c} hk hne => by
    have := (List.getElem?_eq_some_iff.1 hk).1
    simp at this
    rwa [List.getElem?_append_left (by omega)] at hk
  refine upM_Hp O _ _ _ (by simp) ⟨fun j hj hne a b ha hb => ?_, fun j c p hi hj hji hc hp => ?_⟩
  · have ha' := hlt ha hne
    have := (List.getElem?_eq_some_iff.1 ha').1
    exact h j hj a b ha' (hlt hb (by omega))
  · have := (List.getElem?_eq_some_iff.1 hc).1
    simp at this; omega
theorem takeM_Hp (O : Od lt) (s : Unit) {rows : List (Nat × α)} {i : Nat} (hi : i < rows.length) (h : Hp lt rows) : Hp lt (takeM (pl lt) s rows i).1 := by
  obtain ⟨x, hx⟩ : ∃ x, rows[i]? = some x := ⟨_, List.getElem?_eq_getElem hi⟩
  obtain ⟨y, hy⟩ : ∃ y, rows[rows.length - 1]? = some y := ⟨_, List.getElem?_eq_getElem (by omega)⟩
  have hg := swp_get hx hy
  have hl : ((swp rows i (rows.length - 1)).take (rows.length - 1)).length = rows.length - 1 := by rw [List.length_take, swp_len]; omega
  have hk : ∀ {k : Nat} {c : Nat × α}, ((swp rows i (rows.length - 1)).take (rows.length - 1))[k]? = some c → k ≠ i → rows[k]? = some c := fun {k c} hk hne => by
    have := (List.getElem?_eq_some_iff.1 hk).1
    rw [hl] at this
    rw [List.getElem?_take, if_pos this, hg, if_neg (by omega), if_neg hne] at hk
    exact hk
  unfold takeM
  by_cases hlast : i < rows.length - 1
  · rw [if_pos hlast]
    refine mendM_Hp O i s (by rw [hl]; exact hlast) (fun j hj hne hpi a b ha hb => h j hj a b (hk ha hne) (hk hb hpi)) (fun j c p hi0 hj hji hc hp => ?_)
    exact h.gr O i j c p hi0 hj hji (hk hc (by omega)) (hk hp (by omega))
  · rw [if_neg hlast]
    intro j hj a b ha hb
    have h1 := (List.getElem?_eq_some_iff.1 ha).1
    rw [hl] at h1
    exact h j hj a b (hk ha (by omega)) (hk hb (by omega))
/-- another thing in a thing's place -/
def turnM {σ : Type} (lt : σ → α → α → Bool × σ) (s : σ) (rows : List (Nat × α)) (i : Nat) (x : Nat × α) : List (Nat × α) × σ := upM lt (downM lt s (rows.set i x) i).2 (downM lt s (rows.set i x) i).1 i
theorem turnM_Hp (O : Od lt) (s : Unit) {rows : List (Nat × α)} {i : Nat} {x : Nat × α} (hi : i < rows.length) (h : Hp lt rows) : Hp lt (turnM (pl lt) s rows i x).1 := by
  unfold turnM
  have hk : ∀ {k : Nat} {c : Nat × α}, (rows.set i x)[k]? = some c → k ≠ i → rows[k]? = some c := fun {k c} hk hne => by
    rwa [List.getElem?_set, if_neg (Ne.symm hne)] at hk
  refine mendM_Hp O i s (by simpa using hi) (fun j hj hne hpi a b ha hb => h j hj a b (hk ha hne) (hk hb hpi)) (fun j c p hi0 hj hji hc hp => ?_)
  exact h.gr O i j c p hi0 hj hji (hk hc (by omega)) (hk hp (by omega))
theorem turnM_perm {σ : Type} (lt : σ → α → α → Bool × σ) (s : σ) (rows : List (Nat × α)) (i : Nat) (x : Nat × α) : (turnM lt s rows i x).1.Perm (rows.set i x) := (upM_perm _ _ _ _).trans (downM_perm _ _ _ _ _ (Nat.le_refl _))
theorem pushM_perm {σ : Type} (lt : σ → α → α → Bool × σ) (s : σ) (rows : List (Nat × α)) (made : Nat) (x : α) : (pushM lt s rows made x).1.Perm (rows ++ [(made, x)]) := upM_perm _ _ _ _
/-- what is left, and what is taken -/
theorem takeM_perm {σ : Type} (lt : σ → α → α → Bool × σ) (s : σ) {rows : List (Nat × α)} {i : Nat} {x : Nat × α} (hx : rows[i]? = some x) : (x :: (takeM lt s rows i).1).Perm rows := by
  have hi := (List.getElem?_eq_some_iff.1 hx).1
  obtain ⟨y, hy⟩ : ∃ y, rows[rows.length - 1]? = some y := ⟨_, List.getElem?_eq_getElem (by omega)⟩
  have hg := swp_get hx hy
  have hx' : (swp rows i (rows.length - 1))[rows.length - 1]? = some x := by rw [hg, if_pos rfl]
  have hap := take_last (n := rows.length) (swp_len rows i (rows.length - 1)) hx' (by omega)
  have hp : ((takeM lt s rows i).1).Perm ((swp rows i (rows.length - 1)).take (rows.length - 1)) := by
    unfold takeM
    split
    · exact (upM_perm _ _ _ _).trans (downM_perm _ _ _ _ _ (Nat.le_refl _))
    · exact List.Perm.refl _
  have h2 := swp_perm (rows := rows) i (rows.length - 1)
  rw [hap] at h2
  exact ((hp.cons x).trans (List.perm_append_comm (l₁ := [x]))).trans h2
/-- at the top stands the least -/
theorem Hp.top (O : Od lt) {rows : List (Nat × α)} (h : Hp lt rows) {r : Nat × α} (hr : rows[0]? = some r) : ∀ (j : Nat) (x : Nat × α), rows[j]? = some x → ah lt x r = false := by
  intro j
  induction j using Nat.strongRecOn with
  | _ j ih =>
    intro x hx
    by_cases h0 : j = 0
    · subst h0; rw [hr] at hx; cases hx; exact ah_self O r
    · have hlt := (List.getElem?_eq_some_iff.1 hx).1
      obtain ⟨y, hy⟩ : ∃ y, rows[(j - 1) / 2]? = some y := ⟨_, List.getElem?_eq_getElem (by omega)⟩
      exact ah_tr O (h j (by omega) x y hx hy) (ih _ (by omega) y hy)
theorem Hp.top_mem (O : Od lt) {rows : List (Nat × α)} (h : Hp lt rows) {r x : Nat × α} (hr : rows[0]? = some r) (hx : x ∈ rows) : ah lt x r = false := by
  obtain ⟨j, hj, e⟩ := List.getElem_of_mem hx
  exact h.top O hr j x (by rw [List.getElem?_eq_getElem hj, e])
/-- tickets are unlike, and were given -/
def Gd (rows : List (Nat × α)) (made : Nat) : Prop := Tk rows ∧ ∀ r ∈ rows, r.1 < made
theorem len_of_nodup : ∀ (n : Nat) (l : List Nat), l.Nodup → (∀ x ∈ l, x < n) → l.length ≤ n
  | 0, l, _, h => by cases l with
    | nil => simp
    | cons x r => have := h x (by simp); omega
  | n + 1, l, hn, h => by
    have h1 := len_of_nodup n (l.erase n) (hn.erase n) (fun x hx => by
      have h2 := (List.Nodup.mem_erase_iff hn).1 hx
      have := h x h2.2; omega)
    have h3 := List.length_erase (a := n) (l := l)
    split at h3 <;> omega
theorem Gd.len {rows : List (Nat × α)} {made : Nat} (h : Gd rows made) : rows.length ≤ made := by
  have hT : (rows.map (fun r : Nat × α => r.1)).Nodup := h.1
  have := len_of_nodup made (rows.map (fun r : Nat × α => r.1)) hT (fun x hx => by obtain ⟨r, hr, rfl⟩ := List.mem_map.1 hx; exact h.2 r hr)
  simpa using this
theorem Gd.perm {rows rows' : List (Nat × α)} {made : Nat} (h : Gd rows made) (p : rows'.Perm rows) : Gd rows' made := ⟨Tk_perm p h.1, fun r hr => h.2 r (p.mem_iff.1 hr)⟩
theorem Gd.push {σ : Type} {lt : σ → α → α → Bool × σ} {s : σ} {rows : List (Nat × α)} {made : Nat} {x : α} (h : Gd rows made) : Gd (pushM lt s rows made x).1 (made + 1) := by
  have hG : Gd (rows ++ [(made, x)]) (made + 1) := ⟨Tk_push h.1 (fun r hr => by have := h.2 r hr; omega), fun r hr => by
    rcases List.mem_append.1 hr with q | q
    · have := h.2 r q; omega
    · simp at q; subst q; exact Nat.lt_succ_self _⟩
  exact hG.perm (pushM_perm lt s rows made x)
theorem Gd.take {σ : Type} {lt : σ → α → α → Bool × σ} {s : σ} {rows : List (Nat × α)} {made i : Nat} {x : Nat × α} (h : Gd rows made) (hx : rows[i]? = some x) : Gd (takeM lt s rows i).1 made := by
  have p := takeM_perm lt s hx
  have h' := h.perm p
  refine ⟨?_, fun r hr => h'.2 r (List.mem_cons_of_mem _ hr)⟩
  have := h'.1; unfold Tk at this ⊢
  rw [List.map_cons] at this
  exact (List.nodup_cons.1 this).2
theorem Gd.set {rows : List (Nat × α)} {made i : Nat} {x y : Nat × α} (h : Gd rows made) (hx : rows[i]? = some x) (hy : y.1 = x.1) : Gd (rows.set i y) made := by
  have hm : (rows.set i y).map (·.1) = rows.map (·.1) := by
    obtain ⟨hlt, e⟩ := List.getElem?_eq_some_iff.1 hx
    rw [List.map_set, hy]
    have : x.1 = (rows.map (·.1))[i]'(by simpa using hlt) := by simp [e]
    rw [this, List.set_getElem_self]
  refine ⟨by unfold Tk; rw [hm]; exact h.1, fun r hr => ?_⟩
  have : r.1 ∈ (rows.set i y).map (·.1) := List.mem_map.2 ⟨r, hr, rfl⟩
  rw [hm] at this
  obtain ⟨q, hq, e⟩ := List.mem_map.1 this
  rw [← e]; exact h.2 q hq
theorem Gd_nil {made : Nat} : Gd ([] : List (Nat × α)) made := ⟨by simp [Tk], by simp⟩
/-! reckoned -/
def upP (lt : α → α → Bool) : Nat → List (Nat × α) → Nat → List (Nat × α)
  | 0, rows, _ => rows
  | _ + 1, rows, 0 => rows
  | f + 1, rows, i + 1 => match rows[i + 1]?, rows[i / 2]? with
    | some x, some y => if ah lt x y then upP lt f (swp rows (i + 1) (i / 2)) (i / 2) else rows
    | _, _ => rows
theorem upP_eq : ∀ (f i : Nat) (s : Unit) (rows : List (Nat × α)), i ≤ f → (upM (pl lt) s rows i).1 = upP lt f rows i
  | 0, 0, s, rows, _ => by rw [upM_zero]; rfl
  | f + 1, 0, s, rows, _ => by rw [upM_zero]; rfl
  | f + 1, i + 1, s, rows, h => by
    rw [upM, upP]
    cases h1 : rows[i + 1]? with
    | none => rfl
    | some x =>
      cases h2 : rows[i / 2]? with
      | none => rfl
      | some y =>
        dsimp only
        rw [ahM_pl]; dsimp only
        split
        · exact upP_eq f (i / 2) _ _ (by omega)
        · rfl
def pickP (lt : α → α → Bool) (rows : List (Nat × α)) (c best : Nat) : Nat := match rows[c]?, rows[best]? with
  | some x, some y => if ah lt x y then c else best
  | _, _ => best
def bestP (lt : α → α → Bool) (rows : List (Nat × α)) (i : Nat) : Nat := pickP lt rows (2 * i + 2) (pickP lt rows (2 * i + 1) i)
theorem pickP_eq (s : Unit) (rows : List (Nat × α)) (c best : Nat) : (pickM (pl lt) s rows c best).1 = pickP lt rows c best := by
  unfold pickM pickP
  cases h1 : rows[c]? with
  | none => rfl
  | some x =>
    cases h2 : rows[best]? with
    | none => rfl
    | some y => dsimp only; rw [ahM_pl]
theorem bestP_eq (s : Unit) (rows : List (Nat × α)) (i : Nat) : (bestM (pl lt) s rows i).1 = bestP lt rows i := by unfold bestM bestP; rw [pickP_eq, pickP_eq]
def downP (lt : α → α → Bool) : Nat → List (Nat × α) → Nat → List (Nat × α)
  | 0, rows, _ => rows
  | f + 1, rows, i => if bestP lt rows i = i then rows else downP lt f (swp rows i (bestP lt rows i)) (bestP lt rows i)
theorem downP_eq : ∀ (f i : Nat) (s : Unit) (rows : List (Nat × α)), rows.length - i ≤ f → (downM (pl lt) s rows i).1 = downP lt f rows i
  | 0, i, s, rows, h => by
    have hb : (bestM (pl lt) s rows i).1 = i := by rcases bestM_or (pl lt) s rows i with q | q <;> omega
    rw [downM_stop hb]; rfl
  | f + 1, i, s, rows, h => by
    rw [downP, ← bestP_eq s]
    split
    · rw [downM_stop (by assumption)]
    · rename_i hb
      rw [downM_go hb]
      have := bestM_or (pl lt) s rows i
      exact downP_eq f _ _ _ (by rw [swp_len]; omega)
def pushP (lt : α → α → Bool) (rows : List (Nat × α)) (made : Nat) (x : α) : List (Nat × α) := upP lt rows.length (rows ++ [(made, x)]) rows.length
def takeP (lt : α → α → Bool) (rows : List (Nat × α)) (i : Nat) : List (Nat × α) :=
  if i < rows.length - 1 then upP lt i (downP lt rows.length ((swp rows i (rows.length - 1)).take (rows.length - 1)) i) i else (swp rows i (rows.length - 1)).take (rows.length - 1)
theorem pushM_P (s : Unit) (rows : List (Nat × α)) (made : Nat) (x : α) : (pushM (pl lt) s rows made x).1 = pushP lt rows made x := upP_eq _ _ _ _ (Nat.le_refl _)
theorem takeM_P (s : Unit) (rows : List (Nat × α)) (i : Nat) : (takeM (pl lt) s rows i).1 = takeP lt rows i := by
  unfold takeM takeP
  split
  · rw [upP_eq i i _ _ (Nat.le_refl _), downP_eq rows.length i _ _ (by rw [List.length_take, swp_len]; omega)]
  · rfl
theorem Hp_nil : Hp lt ([] : List (Nat × α)) := fun j hj x y hx => by simp at hx
end
end Go.HpM
