/-
  Contracts of functions that the claim reaches, or the logic and the plain laws that they rest on, or the row over them. (Conditions: none beyond the statement.)
-/
import Derived.Test.YtilmiikfjcdllaaHyGd
import Derived.Test.YtilmiikfjcdllaaHyLa
set_option linter.all false
/-
  Pairs as a table. (Conditions: none; no program in sight.)
-/
set_option maxRecDepth 20000
namespace Go.HyM
open Go.SL Go.RowKit
def tAt (t : List Bool) (s n : Nat) : Bool := t.getD (s * 255 + n) false
def tSet (t : List Bool) (s n : Nat) : List Bool := t.set (s * 255 + n) true
def isTab (t : List Bool) (ps : List Pr) : Prop := t.length = 8160 ∧ ∀ s n : Nat, s < 32 → n < 255 → tAt t s n = decide ((((s : Nat) : Int), ((n : Nat) : Int)) ∈ ps)
theorem tSet_len (t : List Bool) (s n : Nat) : (tSet t s n).length = t.length := by unfold tSet; rw [List.length_set]
theorem tAt_set {t : List Bool} {s n s' n' : Nat} (hl : t.length = 8160) (hs : s < 32) (hn : n < 255) (hs' : s' < 32) (hn' : n' < 255) : tAt (tSet t s n) s' n' = if s' = s ∧ n' = n then true else tAt t s' n' := by
  unfold tAt tSet
  rw [List.getD_eq_getElem?_getD, List.getElem?_set]
  by_cases e : s * 255 + n = s' * 255 + n'
  · rw [if_pos e, if_pos (by omega), if_pos (by omega)]; rfl
  · rw [if_neg e, if_neg (by omega), List.getD_eq_getElem?_getD]
theorem isTab_nil : isTab (List.replicate 8160 false) [] := ⟨List.length_replicate, fun s n hs hn => by
  unfold tAt
  rw [List.getD_eq_getElem?_getD, List.getElem?_replicate]
  split <;> simp⟩
theorem isTab_snoc {t : List Bool} {ps : List Pr} {i : Nat} {p : Pr} (h : isTab t (ps.take i)) (hp : ps[i]? = some p) (ho : pOk p) : isTab (tSet t p.1.toNat p.2.toNat) (ps.take (i + 1)) := by
  unfold pOk at ho
  refine ⟨by rw [tSet_len]; exact h.1, fun s n hs hn => ?_⟩
  rw [tAt_set h.1 (by omega) (by omega) hs hn, h.2 s n hs hn, List.take_add_one, hp]
  simp only [Option.toList_some, List.mem_append, List.mem_singleton]
  by_cases e : s = p.1.toNat ∧ n = p.2.toNat
  · rw [if_pos e]
    symm
    rw [decide_eq_true_eq]
    exact .inr (Prod.ext (by dsimp only; omega) (by dsimp only; omega))
  · rw [if_neg e]
    refine decide_eq_decide.2 ⟨.inl, fun k => k.resolve_right fun z => e ?_⟩
    have h1 := congrArg Prod.fst z
    have h2 := congrArg Prod.snd z
    dsimp only at h1 h2
    omega
theorem flatMap_one {α : Type} {L : List α} {f : Nat → List α} {s : Nat} (h1 : f s = L) (h2 : ∀ a, a ≠ s → f a = []) : ∀ m, s < m → (List.range m).flatMap f = L
  | 0, h => by omega
  | m + 1, h => by
    rw [List.range_succ, List.flatMap_append]
    by_cases e : s = m
    · subst e
      have : (List.range s).flatMap f = [] := by
        rw [List.flatMap_eq_nil_iff]
        exact fun a ha => h2 a (by have := List.mem_range.1 ha; omega)
      rw [this]; simp [h1]
    · rw [flatMap_one h1 h2 m (by omega)]
      simp [h2 m (fun k => e k.symm)]
theorem nums_tab {t : List Bool} {ps : List Pr} {s : Nat} (h : isTab t ps) (hs : s < 32) : numsM (lookP ps) ((s : Nat) : Int) = ((List.range 255).filter fun n => tAt t s n).map fun n : Nat => ((n : Nat) : Int) := by
  unfold numsM lookP gridP
  rw [List.filter_filter, List.filter_flatMap]
  rw [flatMap_one (s := s) (L := ((List.range 255).filter fun n => tAt t s n).map fun n : Nat => (((s : Nat) : Int), ((n : Nat) : Int))) ?_ ?_ 32 hs, List.map_map]
  · rfl
  · rw [List.filter_map]
    congr 1
    refine List.filter_congr fun n hn => ?_
    rw [h.2 s n hs (List.mem_range.1 hn)]
    simp
  · intro a ha
    rw [List.filter_eq_nil_iff]
    intro p hp
    obtain ⟨n, _, rfl⟩ := List.mem_map.1 hp
    simp
    omega
section
variable {P : Program} {n : Nat} {L : List (Nat × Value)} {A : List Asn} {d : Option Tmp} {ty : TypeId} {pos : String} {af : Array Edge} {g : Option (Nat × Bool)}
theorem Rd_indexT1 {t et : TypeId} {x y : Operand} {kk : IntKind} {j : Int} {b : Nat} {len : Nat} (i : Nat) (hx : ev L x = some (.pointer (some ⟨b, 0, none⟩))) (hy : ev L y = some (.int kk j)) (hu : P.underlying t = some (.array len et)) (hz : sz P et = some 255) (hj : j = i) (hi : i < len) :
    Rd P n ⟨d, .indexAddr t x y, ty, pos, af, g⟩ L A (.pointer (some ⟨b, i * 255, none⟩)) := by
  have h := Rd_indexA (P := P) (n := n) (L := L) (A := A) (d := d) (ty := ty) (pos := pos) (af := af) (g := g) i hx hy hu hz hj hi
  rwa [Nat.zero_add] at h
theorem Rd_indexT2 {t et : TypeId} {x y : Operand} {kk : IntKind} {j : Int} {b o : Nat} {len : Nat} (i : Nat) (hx : ev L x = some (.pointer (some ⟨b, o, none⟩))) (hy : ev L y = some (.int kk j)) (hu : P.underlying t = some (.array len et)) (hz : sz P et = some 1) (hj : j = i) (hi : i < len) :
    Rd P n ⟨d, .indexAddr t x y, ty, pos, af, g⟩ L A (.pointer (some ⟨b, o + i, none⟩)) := by
  have h := Rd_indexA (P := P) (n := n) (L := L) (A := A) (d := d) (ty := ty) (pos := pos) (af := af) (g := g) i hx hy hu hz hj hi
  rwa [Nat.mul_one] at h
end
theorem tAt_get {t : List Bool} {s n : Nat} (h : t.length = 8160) (hs : s < 32) (hn : n < 255) : (t.map Value.bool)[s * 255 + n]? = some (.bool (tAt t s n)) := by
  unfold tAt
  rw [List.getElem?_map, List.getD_eq_getElem?_getD, List.getElem?_eq_getElem (show s * 255 + n < t.length by omega)]; rfl
theorem tset_map {t : List Bool} {s n : Nat} : (t.map Value.bool).set (s * 255 + n) (.bool true) = (tSet t s n).map Value.bool := by unfold tSet; rw [List.map_set]
end Go.HyM
/-
  What is matched and what was tried, as two rows of 255 places. (Conditions: none; no program in sight.)
-/
set_option maxRecDepth 20000
namespace Go.HyM
open Go.SL Go.RowKit
def ofL (W : List (Int × Int)) : List Value := (List.range 255).map fun n : Nat => .int .i64 (at0 ((n : Nat) : Int) W - 1)
def seL (T : List (Int × Int)) : List Bool := (List.range 255).map fun n : Nat => decide (0 < at0 ((n : Nat) : Int) T)
theorem ofL_len (W : List (Int × Int)) : (ofL W).length = 255 := by unfold ofL; rw [List.length_map, List.length_range]
theorem seL_len (T : List (Int × Int)) : (seL T).length = 255 := by unfold seL; rw [List.length_map, List.length_range]
theorem ofL_get {W : List (Int × Int)} {n : Nat} (h : n < 255) : (ofL W)[n]? = some (.int .i64 (at0 ((n : Nat) : Int) W - 1)) := by
  unfold ofL; rw [List.getElem?_map, List.getElem?_range h]; rfl
theorem seL_get {T : List (Int × Int)} {n : Nat} (h : n < 255) : ((seL T).map Value.bool)[n]? = some (.bool (decide (0 < at0 ((n : Nat) : Int) T))) := by
  unfold seL; rw [List.getElem?_map, List.getElem?_map, List.getElem?_range h]; rfl
theorem ofL_set {W : List (Int × Int)} {n : Nat} {s : Int} (h : n < 255) : (ofL W).set n (.int .i64 s) = ofL (putL ((n : Nat) : Int) (s + 1) W) := by
  apply List.ext_getElem?
  intro i
  rw [List.getElem?_set]
  rcases Nat.lt_or_ge i 255 with q | q
  · by_cases e : n = i
    · subst e
      rw [if_pos rfl, if_pos (by rw [ofL_len]; exact h), ofL_get h, at0_put, if_pos rfl, Int.add_sub_cancel]
    · rw [if_neg e, ofL_get q, ofL_get q, at0_put, if_neg (by omega)]
  · rw [if_neg (by omega), List.getElem?_eq_none (by rw [ofL_len]; exact q), List.getElem?_eq_none (by rw [ofL_len]; exact q)]
theorem seL_set {T : List (Int × Int)} {n : Nat} (h : n < 255) : ((seL T).map Value.bool).set n (.bool true) = (seL (putL ((n : Nat) : Int) 1 T)).map Value.bool := by
  apply List.ext_getElem?
  intro i
  rw [List.getElem?_set]
  rcases Nat.lt_or_ge i 255 with q | q
  · by_cases e : n = i
    · subst e
      rw [if_pos rfl, if_pos (by rw [List.length_map, seL_len]; exact h), seL_get h, at0_put, if_pos rfl]; rfl
    · rw [if_neg e, seL_get q, seL_get q, at0_put, if_neg (by omega)]
  · rw [if_neg (by omega), List.getElem?_eq_none (by rw [List.length_map, seL_len]; exact q), List.getElem?_eq_none (by rw [List.length_map, seL_len]; exact q)]
def adjFrom (t : List Bool) (s n : Nat) : List Int := (((List.range 255).drop n).filter fun n => tAt t s n).map fun n : Nat => ((n : Nat) : Int)
theorem adjFrom_0 (t : List Bool) (s : Nat) : adjFrom t s 0 = ((List.range 255).filter fun n => tAt t s n).map fun n : Nat => ((n : Nat) : Int) := by unfold adjFrom; rw [List.drop_zero]
theorem adjFrom_end (t : List Bool) (s : Nat) : adjFrom t s 255 = [] := by
  unfold adjFrom; rw [List.drop_of_length_le (by rw [List.length_range]; exact Nat.le_refl _)]; rfl
theorem range_drop {n : Nat} (h : n < 255) : (List.range 255).drop n = n :: (List.range 255).drop (n + 1) := by
  rw [List.drop_eq_getElem_cons (by rw [List.length_range]; exact h), List.getElem_range]
theorem adjFrom_yes {t : List Bool} {s n : Nat} (h : n < 255) (k : tAt t s n = true) : adjFrom t s n = ((n : Nat) : Int) :: adjFrom t s (n + 1) := by
  unfold adjFrom; rw [range_drop h, List.filter_cons_of_pos k, List.map_cons]
theorem adjFrom_no {t : List Bool} {s n : Nat} (h : n < 255) (k : tAt t s n = false) : adjFrom t s n = adjFrom t s (n + 1) := by
  unfold adjFrom; rw [range_drop h, List.filter_cons_of_neg (by rw [k]; decide)]
theorem growL_congr {rec rec' : Int → Gs → Bool × Gs} {s : Int} (hr : ∀ s' st, 0 ≤ s' ∧ s' < 32 → okW st.W → rec s' st = rec' s' st ∧ okW (rec s' st).2.W) : ∀ (xs : List Int) (st : Gs), okW st.W → growL rec s xs st = growL rec' s xs st
  | [], _, _ => rfl
  | x :: xs, st, hw => by
    unfold growL
    split
    · exact growL_congr hr xs st hw
    · split
      · rfl
      · rename_i h1
        have hb := hw x
        obtain ⟨e, hk⟩ := hr (at0 x st.W - 1) ⟨putL x 1 st.T, st.W⟩ (by omega) hw
        rw [← e]
        split
        · rfl
        · exact growL_congr hr xs _ hk
theorem growM_congr {adj adj' : Int → List Int} (ha : ∀ s, ∀ x ∈ adj s, 0 ≤ x ∧ x < 255) (h : ∀ s, 0 ≤ s ∧ s < 32 → adj s = adj' s) : ∀ (f : Nat) (s : Int) (st : Gs), 0 ≤ s ∧ s < 32 → okW st.W → growM adj f s st = growM adj' f s st
  | 0, _, _, _, _ => rfl
  | f + 1, s, st, hs, hw => by
    show growL (growM adj f) s (adj s) st = growL (growM adj' f) s (adj' s) st
    rw [← h s hs]
    exact growL_congr (fun s' st' h1 h2 => ⟨growM_congr ha h f s' st' h1 h2, (growM_K ha f s' st' h1 h2).w⟩) (adj s) st hw
end Go.HyM
/-
  What the document computes of pairs in a table. (Conditions: none; no program in sight.)
-/
set_option maxRecDepth 20000
namespace Go.HyM
open Go.SL Go.RowKit Go.Fl
theorem adT_in (t : List Bool) : ∀ s, ∀ x ∈ (fun z : Int => adjFrom t z.toNat 0) s, 0 ≤ x ∧ x < 255 := fun s x hx => by
  dsimp only at hx
  rw [adjFrom_0] at hx
  obtain ⟨n, hn, rfl⟩ := List.mem_map.1 hx
  have := List.mem_range.1 (List.mem_filter.1 hn).1
  omega
theorem adT_num {t : List Bool} {ps : List Pr} (h : isTab t ps) (s : Int) (hs : 0 ≤ s ∧ s < 32) : (fun z : Int => adjFrom t z.toNat 0) s = numsM (lookP ps) s := by
  have e := nums_tab h (s := s.toNat) (by omega)
  rw [show ((s.toNat : Nat) : Int) = s by omega] at e
  dsimp only
  rw [adjFrom_0, e]
theorem step_ok {adj : Int → List Int} (ha : ∀ s, ∀ x ∈ adj s, 0 ≤ x ∧ x < 255) {c : Nat × List (Int × Int)} {n : Nat} (hn : n < 32) (h : okW c.2) : okW (sizeStep adj c n).2 := by
  have e : (sizeStep adj c n).2 = (growM adj 256 ((n : Nat) : Int) ⟨[], c.2⟩).2.W := by unfold sizeStep; with_reducible rfl
  rw [e]
  exact (growM_K ha 256 ((n : Nat) : Int) ⟨[], c.2⟩ ⟨by omega, by omega⟩ h).w
theorem step_eq {adj adj' : Int → List Int} (ha : ∀ s, ∀ x ∈ adj s, 0 ≤ x ∧ x < 255) (hh : ∀ s, 0 ≤ s ∧ s < 32 → adj s = adj' s) {c : Nat × List (Int × Int)} {n : Nat} (hn : n < 32) (h : okW c.2) : sizeStep adj c n = sizeStep adj' c n := by
  have e := growM_congr ha hh 256 ((n : Nat) : Int) ⟨[], c.2⟩ ⟨by omega, by omega⟩ h
  unfold sizeStep
  rw [e]
theorem sizeTo_eq {adj adj' : Int → List Int} (ha : ∀ s, ∀ x ∈ adj s, 0 ≤ x ∧ x < 255) (hh : ∀ s, 0 ≤ s ∧ s < 32 → adj s = adj' s) : ∀ n, n ≤ 32 → sizeTo adj n = sizeTo adj' n ∧ okW (sizeTo adj n).2
  | 0, _ => ⟨by unfold sizeTo; rw [List.range_zero, List.foldl_nil, List.foldl_nil], okW_nil⟩
  | n + 1, hn => by
    obtain ⟨h1, h2⟩ := sizeTo_eq ha hh n (by omega)
    rw [sizeTo_succ, sizeTo_succ, ← h1]
    exact ⟨step_eq ha hh (by omega) h2, step_ok ha (by omega) h2⟩
theorem sizeTo_le (adj : Int → List Int) : ∀ n, (sizeTo adj n).1 ≤ n
  | 0 => Nat.le_refl _
  | n + 1 => by
    have ih := sizeTo_le adj n
    rw [sizeTo_succ]
    generalize sizeTo adj n = c at *
    unfold sizeStep
    dsimp only
    split <;> omega
theorem sizeM_le (l : List Pr) : sizeM l ≤ 32 := by unfold sizeM; exact sizeTo_le _ 32
theorem sizeTo_tab {t : List Bool} {ps : List Pr} (h : isTab t ps) : sizeTo (fun z : Int => adjFrom t z.toNat 0) 32 = sizeTo (numsM (lookP ps)) 32 := (sizeTo_eq (adT_in t) (adT_num h) 32 (Nat.le_refl _)).1
theorem size_tab {t : List Bool} {ps : List Pr} (h : isTab t ps) : (sizeTo (fun z : Int => adjFrom t z.toNat 0) 32).1 = sizeM (lookP ps) := by
  rw [sizeTo_tab h]; unfold sizeM; with_reducible rfl
def tRow (t : List Bool) (s : Nat) : Nat → List Bool
  | 0 => t
  | i + 1 => (tRow t s i).set (s * 255 + i) false
def tCol (t : List Bool) (n : Nat) : Nat → List Bool
  | 0 => t
  | j + 1 => (tCol t n j).set (j * 255 + n) false
def tWo (t : List Bool) (s : Nat) (z : Int) : List Bool := if 0 ≤ z then tCol (tRow t s 255) z.toNat 32 else tRow t s 255
theorem tRow_len (t : List Bool) (s : Nat) : ∀ i, (tRow t s i).length = t.length
  | 0 => rfl
  | i + 1 => by show ((tRow t s i).set _ _).length = _; rw [List.length_set, tRow_len t s i]
theorem tCol_len (t : List Bool) (n : Nat) : ∀ i, (tCol t n i).length = t.length
  | 0 => rfl
  | i + 1 => by show ((tCol t n i).set _ _).length = _; rw [List.length_set, tCol_len t n i]
theorem tWo_len (t : List Bool) (s : Nat) (z : Int) : (tWo t s z).length = t.length := by
  unfold tWo; split
  · rw [tCol_len, tRow_len]
  · rw [tRow_len]
theorem trow_map {t : List Bool} {s i : Nat} : ((tRow t s i).map Value.bool).set (s * 255 + i) (.bool false) = (tRow t s (i + 1)).map Value.bool := by
  show _ = ((tRow t s i).set _ _).map _; rw [List.map_set]
theorem tcol_map {t : List Bool} {n j : Nat} : ((tCol t n j).map Value.bool).set (j * 255 + n) (.bool false) = (tCol t n (j + 1)).map Value.bool := by
  show _ = ((tCol t n j).set _ _).map _; rw [List.map_set]
theorem tAt_clr {t : List Bool} {s n s' n' : Nat} (hl : t.length = 8160) (hs : s < 32) (hn : n < 255) (hs' : s' < 32) (hn' : n' < 255) : tAt (t.set (s * 255 + n) false) s' n' = if s' = s ∧ n' = n then false else tAt t s' n' := by
  unfold tAt
  rw [List.getD_eq_getElem?_getD, List.getElem?_set]
  by_cases e : s * 255 + n = s' * 255 + n'
  · rw [if_pos e, if_pos (by omega), if_pos (by omega)]; rfl
  · rw [if_neg e, if_neg (by omega), List.getD_eq_getElem?_getD]
theorem tAt_row {t : List Bool} {s s' n' : Nat} (hl : t.length = 8160) (hs : s < 32) (hs' : s' < 32) (hn' : n' < 255) : ∀ i, i ≤ 255 → tAt (tRow t s i) s' n' = (tAt t s' n' && !(decide (s' = s) && decide (n' < i)))
  | 0, _ => by show tAt t s' n' = _; simp
  | i + 1, hi => by
    show tAt ((tRow t s i).set _ _) s' n' = _
    rw [tAt_clr (by rw [tRow_len]; exact hl) hs (by omega) hs' hn', tAt_row hl hs hs' hn' i (by omega)]
    by_cases e : s' = s ∧ n' = i
    · rw [if_pos e]; simp [e.1, e.2]
    · rw [if_neg e]
      congr 2
      by_cases e1 : s' = s
      · simp only [e1, decide_true, Bool.true_and]
        exact decide_eq_decide.2 (by omega)
      · simp [e1]
theorem tAt_col {t : List Bool} {n s' n' : Nat} (hl : t.length = 8160) (hn : n < 255) (hs' : s' < 32) (hn' : n' < 255) : ∀ j, j ≤ 32 → tAt (tCol t n j) s' n' = (tAt t s' n' && !(decide (n' = n) && decide (s' < j)))
  | 0, _ => by show tAt t s' n' = _; simp
  | j + 1, hj => by
    show tAt ((tCol t n j).set _ _) s' n' = _
    rw [tAt_clr (by rw [tCol_len]; exact hl) (by omega) hn hs' hn', tAt_col hl hn hs' hn' j (by omega)]
    by_cases e : s' = j ∧ n' = n
    · rw [if_pos e]; simp [e.1, e.2]
    · rw [if_neg e]
      congr 2
      by_cases e1 : n' = n
      · simp only [e1, decide_true, Bool.true_and]
        exact decide_eq_decide.2 (by omega)
      · simp [e1]
theorem cN_le (p : Nat → Bool) (m : Nat) : cN p m ≤ m := by unfold cN; have := List.length_filter_le p (List.range m); rwa [List.length_range] at this
theorem wo_end {t : List Bool} {s j : Nat} {z : Int} (h : z < 0 → j = 0) (k : j ≤ 32) (e : j = 32 ∨ z < 0) : tCol (tRow t s 255) z.toNat j = tWo t s z := by
  unfold tWo
  rcases Int.lt_or_le z 0 with q | q
  · rw [if_neg (by omega), h q]
    show tCol _ _ 0 = _
    unfold tCol
    with_reducible rfl
  · rw [if_pos q, show j = 32 by omega]
theorem isTab_mem {t : List Bool} {ps qs : List Pr} (h : isTab t ps) (hq : ∀ p, pOk p → (p ∈ qs ↔ p ∈ ps)) : isTab t qs := ⟨h.1, fun s n hs hn => by
  rw [h.2 s n hs hn]
  exact decide_eq_decide.2 (hq _ (by unfold pOk; (try dsimp only); omega)).symm⟩
theorem isTab_wo {t : List Bool} {ps qs : List Pr} {s n : Nat} (h : isTab t ps) (hs : s < 32) (hn : n < 255) (hq : ∀ p, p ∈ qs ↔ p ∈ ps ∧ p.1 ≠ (s : Int) ∧ p.2 ≠ (n : Int)) : isTab (tWo t s (n : Int)) qs := ⟨by rw [tWo_len]; exact h.1, fun s' n' hs' hn' => by
  unfold tWo
  rw [if_pos (by omega), show ((n : Nat) : Int).toNat = n from rfl, tAt_col (by rw [tRow_len]; exact h.1) hn hs' hn' 32 (Nat.le_refl _), tAt_row h.1 hs hs' hn' 255 (Nat.le_refl _), h.2 s' n' hs' hn', Bool.eq_iff_iff]
  simp only [Bool.and_eq_true, decide_eq_true_eq, Bool.not_eq_true', Bool.and_eq_false_iff, decide_eq_false_iff_not, hq]
  constructor
  · rintro ⟨⟨a, b⟩, c⟩; exact ⟨a, by (try dsimp only); omega, by (try dsimp only); omega⟩
  · rintro ⟨a, b, c⟩; (try dsimp only at b c); exact ⟨⟨a, by omega⟩, by omega⟩⟩
theorem isTab_wo1 {t : List Bool} {ps qs : List Pr} {s : Nat} (h : isTab t ps) (hs : s < 32) (hq : ∀ p, p ∈ qs ↔ p ∈ ps ∧ p.1 ≠ (s : Int)) : isTab (tWo t s (-1)) qs := ⟨by rw [tWo_len]; exact h.1, fun s' n' hs' hn' => by
  unfold tWo
  rw [if_neg (by omega), tAt_row h.1 hs hs' hn' 255 (Nat.le_refl _), h.2 s' n' hs' hn', Bool.eq_iff_iff]
  simp only [Bool.and_eq_true, decide_eq_true_eq, Bool.not_eq_true', Bool.and_eq_false_iff, decide_eq_false_iff_not, hq]
  constructor
  · rintro ⟨a, b⟩; exact ⟨a, by (try dsimp only); omega⟩
  · rintro ⟨a, b⟩; (try dsimp only at b); exact ⟨a, by omega⟩⟩
theorem lookP_self {l : List Pr} (h : l.Pairwise prLt) (ho : ∀ p ∈ l, pOk p) : lookP l = l :=
  ((lookP_perm ho (pw_nodup h) fun _ => Iff.rfl).eq_of_pairwise (fun a b _ _ q1 q2 => absurd (prLt_tr q1 q2) (prLt_irr a)) h (lookP_pw l)).symm
structure MaI (M : List Pr) (s : Nat) (t : List Bool) (out : List Pr) (w : Nat) (l : List Pr) : Prop where
  pw : l.Pairwise prLt
  ok : ∀ p ∈ l, pOk p
  sz : sizeM l = w
  mt : out ++ matM w l = M
  tb : isTab t (l.filter fun q => decide ((s : Int) ≤ q.1))
  no : ∀ p ∈ l, p.1 < (s : Int) → sizeM (leftP l p) + 1 ≠ w
structure MbI (M : List Pr) (s n : Nat) (t : List Bool) (out : List Pr) (w : Nat) (l : List Pr) : Prop where
  a : MaI M s t out w l
  nn : ∀ p ∈ l, p.1 = (s : Int) → p.2 < (n : Int) → sizeM (leftP l p) + 1 ≠ w
section
variable {M out l : List Pr} {s n w : Nat} {t : List Bool}
theorem ma_beg {ps : List Pr} (h : isTab t ps) (ho : ∀ p ∈ ps, pOk p) : MaI (matM (sizeM (lookP ps)) (lookP ps)) 0 t [] (sizeM (lookP ps)) (lookP ps) :=
  ⟨lookP_pw ps, lookP_ok ps, rfl, rfl, isTab_mem h fun p hp => by
    rw [List.mem_filter, lookP_mem ho, decide_eq_true_eq]
    unfold pOk at hp
    exact ⟨fun k => k.1, fun k => ⟨k, by omega⟩⟩, fun p hp k => by
    have := lookP_ok ps p hp
    unfold pOk at this
    omega⟩
theorem mb_beg (h : MaI M s t out w l) : MbI M s 0 t out w l := ⟨h, fun p hp _ k => by
  have := h.ok p hp
  unfold pOk at this
  omega⟩
theorem mb_skip (h : MbI M s n t out w l) (hs : s < 32) (hn : n < 255) (k : tAt t s n = false) : MbI M s (n + 1) t out w l := ⟨h.a, fun p hp h1 h2 => by
  by_cases e : p.2 < (n : Int)
  · exact h.nn p hp h1 e
  · have e2 : p = (((s : Nat) : Int), ((n : Nat) : Int)) := Prod.ext h1 (by (try dsimp only); omega)
    rw [h.a.tb.2 s n hs hn, decide_eq_false_iff_not, List.mem_filter] at k
    exact absurd ⟨e2 ▸ hp, by simp⟩ k⟩
theorem mb_mem (h : MbI M s n t out w l) (hs : s < 32) (hn : n < 255) (k : tAt t s n = true) : (((s : Nat) : Int), ((n : Nat) : Int)) ∈ l := by
  rw [h.a.tb.2 s n hs hn, decide_eq_true_eq, List.mem_filter] at k
  exact k.1
theorem mb_tab (h : MbI M s n t out w l) (hs : s < 32) (hn : n < 255) : isTab (tWo t s (n : Int)) (leftP l (((s : Nat) : Int), ((n : Nat) : Int))) :=
  isTab_wo h.a.tb hs hn fun p => by
    rw [leftP_mem, List.mem_filter, decide_eq_true_eq]
    constructor
    · rintro ⟨a, b, c⟩; exact ⟨⟨a, by omega⟩, by dsimp only at b ⊢; omega, c⟩
    · rintro ⟨⟨a, b⟩, c, d⟩; exact ⟨a, by dsimp only at c ⊢; omega, d⟩
theorem leftP_pw {p : Pr} (h : l.Pairwise prLt) : (leftP l p).Pairwise prLt := h.filter _
theorem mb_size (h : MbI M s n t out w l) (hs : s < 32) (hn : n < 255) : (sizeTo (fun z : Int => adjFrom (tWo t s (n : Int)) z.toNat 0) 32).1 = sizeM (leftP l (((s : Nat) : Int), ((n : Nat) : Int))) := by
  rw [size_tab (mb_tab h hs hn), lookP_self (leftP_pw h.a.pw) (leftP_ok h.a.ok)]
theorem mb_no (h : MbI M s n t out w l) (hs : s < 32) (hn : n < 255) (k : (sizeTo (fun z : Int => adjFrom (tWo t s (n : Int)) z.toNat 0) 32).1 + 1 ≠ w) : MbI M s (n + 1) t out w l := ⟨h.a, fun p hp h1 h2 => by
  by_cases e : p.2 < (n : Int)
  · exact h.nn p hp h1 e
  · have e2 : p = (((s : Nat) : Int), ((n : Nat) : Int)) := Prod.ext h1 (by (try dsimp only); omega)
    rw [mb_size h hs hn] at k
    rw [e2]; exact k⟩
theorem find_first {l : List Pr} {q : Pr → Bool} {p : Pr} (h : l.Pairwise prLt) (hp : p ∈ l) (he : q p = true) (hn : ∀ y ∈ l, prLt y p → q y = false) : l.find? q = some p := by
  induction l with
  | nil => cases hp
  | cons x l ih =>
    rw [List.pairwise_cons] at h
    rcases List.mem_cons.1 hp with rfl | hp
    · rw [List.find?_cons_of_pos he]
    · rw [List.find?_cons_of_neg (by rw [hn x List.mem_cons_self (h.1 p hp)]; decide)]
      exact ih h.2 hp fun y hy => hn y (List.mem_cons_of_mem _ hy)
theorem mb_yes (h : MbI M s n t out w l) (hs : s < 32) (hn : n < 255) (k0 : tAt t s n = true) (k : (sizeTo (fun z : Int => adjFrom (tWo t s (n : Int)) z.toNat 0) 32).1 + 1 = w) :
    MaI M (s + 1) (tWo (tWo t s (n : Int)) s (-1)) (out ++ [(((s : Nat) : Int), ((n : Nat) : Int))]) (w - 1) (leftP l (((s : Nat) : Int), ((n : Nat) : Int))) := by
  rw [mb_size h hs hn] at k
  have hpk : pickM l (w - 1) = some (((s : Nat) : Int), ((n : Nat) : Int)) := by
    unfold pickM
    refine find_first h.a.pw (mb_mem h hs hn k0) (decide_eq_true (by omega)) fun y hy hl => decide_eq_false fun e => ?_
    unfold prLt at hl
    dsimp only at hl
    rcases hl with hl | ⟨h1, h2⟩
    · exact h.a.no y hy hl (by omega)
    · exact h.nn y hy h1 h2 (by omega)
  refine ⟨leftP_pw h.a.pw, leftP_ok h.a.ok, by omega, ?_, ?_, ?_⟩
  · exact mat_step (w := w - 1) hpk (by rw [show w - 1 + 1 = w by omega]; exact h.a.mt)
  · refine isTab_wo1 (mb_tab h hs hn) hs fun p => ?_
    rw [List.mem_filter, decide_eq_true_eq]
    constructor
    · rintro ⟨a, b⟩; exact ⟨a, by omega⟩
    · rintro ⟨a, b⟩
      have := (leftP_mem.1 a).2.1
      dsimp only at this
      exact ⟨a, by omega⟩
  · intro p hp k1
    have := (leftP_mem.1 hp).2.1
    dsimp only at this
    omega
theorem mb_end (h : MbI M s 255 t out w l) (hs : s < 32) : MaI M (s + 1) (tWo t s (-1)) out w l := by
  refine ⟨h.a.pw, h.a.ok, h.a.sz, h.a.mt, ?_, ?_⟩
  · refine isTab_wo1 h.a.tb hs fun p => ?_
    rw [List.mem_filter, List.mem_filter, decide_eq_true_eq, decide_eq_true_eq]
    constructor
    · rintro ⟨a, b⟩; exact ⟨⟨a, by omega⟩, by omega⟩
    · rintro ⟨⟨a, b⟩, c⟩; exact ⟨a, by omega⟩
  · intro p hp k1
    by_cases e : p.1 < (s : Int)
    · exact h.a.no p hp e
    · refine h.nn p hp (by omega) ?_
      have := h.a.ok p hp
      unfold pOk at this
      omega
theorem ma_end (h : MaI M s t out w l) (k : s = 32 ∨ w = 0) : out = M := by
  have hm := h.mt
  have hw : w = 0 := by
    rcases k with k | k
    · rcases Nat.eq_zero_or_pos w with q | q
      · exact q
      · obtain ⟨v, rfl⟩ : ∃ v, w = v + 1 := ⟨w - 1, by omega⟩
        obtain ⟨p, hp, e⟩ := left_ex h.ok h.sz
        have := h.ok p hp
        unfold pOk at this
        exact absurd (by omega) (h.no p hp (by omega))
    · exact k
  subst hw
  rw [← hm]
  show out = out ++ []
  rw [List.append_nil]
end
def hasL (t : List Bool) (s n : Nat) : Bool := (List.range n).any fun i => tAt t s i
theorem hasL_succ (t : List Bool) (s n : Nat) : hasL t s (n + 1) = (hasL t s n || tAt t s n) := by
  unfold hasL; rw [List.range_succ, List.any_append]; simp
def nbL (t : List Bool) (s n : Nat) : List Bool := (List.range 255).map fun x => ((List.range s).any fun s' => tAt t s' x) || (decide (x < n) && tAt t s x)
theorem nbL_len (t : List Bool) (s n : Nat) : (nbL t s n).length = 255 := by unfold nbL; rw [List.length_map, List.length_range]
theorem nbL_0 (t : List Bool) : List.replicate 255 false = nbL t 0 0 := by
  apply List.ext_getElem?
  intro i
  unfold nbL
  rw [List.getElem?_replicate, List.getElem?_map]
  split
  · rename_i h; rw [List.getElem?_range h]; simp
  · rename_i h; rw [List.getElem?_eq_none (by rw [List.length_range]; omega)]; rfl
theorem nbL_no {t : List Bool} {s n : Nat} (h : tAt t s n = false) : nbL t s n = nbL t s (n + 1) := by
  unfold nbL
  refine List.map_congr_left fun x hx => ?_
  congr 1
  by_cases e : x = n
  · subst e; rw [h]; simp
  · congr 1; exact decide_eq_decide.2 (by omega)
theorem nbL_yes {t : List Bool} {s n : Nat} (hn : n < 255) (h : tAt t s n = true) : (nbL t s n).set n true = nbL t s (n + 1) := by
  apply List.ext_getElem?
  intro i
  rw [List.getElem?_set]
  rcases Nat.lt_or_ge i 255 with q | q
  · have hg : ∀ m, (nbL t s m)[i]? = some (((List.range s).any fun s' => tAt t s' i) || (decide (i < m) && tAt t s i)) := fun m => by
      unfold nbL; rw [List.getElem?_map, List.getElem?_range q]; rfl
    by_cases e : n = i
    · subst e
      rw [if_pos rfl, if_pos (by rw [nbL_len]; exact hn), hg, h]; simp
    · rw [if_neg e, hg, hg]
      congr 3; exact decide_eq_decide.2 (by omega)
  · rw [if_neg (by omega), List.getElem?_eq_none (by rw [nbL_len]; exact q), List.getElem?_eq_none (by rw [nbL_len]; exact q)]
theorem nbL_set {t : List Bool} {s n : Nat} (hn : n < 255) (h : tAt t s n = true) : ((nbL t s n).map Value.bool).set n (.bool true) = (nbL t s (n + 1)).map Value.bool := by rw [← nbL_yes hn h, List.map_set]
theorem nbL_end (t : List Bool) (s : Nat) : nbL t s 255 = nbL t (s + 1) 0 := by
  unfold nbL
  refine List.map_congr_left fun x hx => ?_
  have := List.mem_range.1 hx
  rw [List.range_succ, List.any_append]
  simp [this]
def anyN (t : List Bool) (n : Nat) : Bool := (List.range 32).any fun s => tAt t s n
theorem nbL_get {t : List Bool} {n : Nat} (h : n < 255) : ((nbL t 32 0).map Value.bool)[n]? = some (.bool (anyN t n)) := by
  unfold nbL anyN
  rw [List.getElem?_map, List.getElem?_map, List.getElem?_range h]
  simp
theorem cN_more {p : Nat → Bool} {k : Nat} (h : ∀ v, k ≤ v → p v = false) : ∀ m, cN p (k + m) = cN p k
  | 0 => rfl
  | m + 1 => by rw [← Nat.add_assoc, cN_succ, cN_more h m, if_neg (by rw [h _ (by omega)]; decide)]; rfl
theorem cnt_fst {t : List Bool} {ps : List Pr} (h : isTab t ps) : cN (fun s => hasL t s 255) 32 = cntM (lookP ps) Prod.fst := by
  have e : cntM (lookP ps) Prod.fst = cN (fun v : Nat => (lookP ps).any fun p => decide (p.1 = ((v : Nat) : Int))) 255 := rfl
  have e2 : cN (fun v : Nat => (lookP ps).any fun p => decide (p.1 = ((v : Nat) : Int))) 255 = cN (fun v : Nat => (lookP ps).any fun p => decide (p.1 = ((v : Nat) : Int))) 32 := cN_more (k := 32) (fun v hv => by
    rw [List.any_eq_false]
    intro p hp
    have := lookP_ok ps p hp
    unfold pOk at this
    simp; omega) 223
  rw [e, e2]
  refine cN_same fun s hs => ?_
  rw [Bool.eq_iff_iff]
  unfold hasL
  rw [List.any_eq_true, List.any_eq_true]
  constructor
  · rintro ⟨n, hn, k⟩
    have hn := List.mem_range.1 hn
    rw [h.2 s n hs hn, decide_eq_true_eq] at k
    refine ⟨(((s : Nat) : Int), ((n : Nat) : Int)), ?_, decide_eq_true rfl⟩
    · unfold lookP
      rw [List.mem_filter, grid_mem]
      exact ⟨by unfold pOk; (try dsimp only); omega, decide_eq_true k⟩
  · rintro ⟨p, hp, k⟩
    rw [decide_eq_true_eq] at k
    have ho := lookP_ok ps p hp
    unfold pOk at ho
    refine ⟨p.2.toNat, List.mem_range.2 (by omega), ?_⟩
    rw [h.2 s _ hs (by omega), decide_eq_true_eq]
    have e : (((s : Nat) : Int), ((p.2.toNat : Nat) : Int)) = p := Prod.ext k.symm (by (try dsimp only); omega)
    rw [e]
    unfold lookP at hp
    exact of_decide_eq_true (List.mem_filter.1 hp).2
theorem cnt_snd {t : List Bool} {ps : List Pr} (h : isTab t ps) : cN (fun n => anyN t n) 255 = cntM (lookP ps) Prod.snd := by
  have e : cntM (lookP ps) Prod.snd = cN (fun v : Nat => (lookP ps).any fun p => decide (p.2 = ((v : Nat) : Int))) 255 := rfl
  rw [e]
  refine cN_same fun n hn => ?_
  rw [Bool.eq_iff_iff]
  unfold anyN
  rw [List.any_eq_true, List.any_eq_true]
  constructor
  · rintro ⟨s, hs, k⟩
    have hs := List.mem_range.1 hs
    rw [h.2 s n hs hn, decide_eq_true_eq] at k
    refine ⟨(((s : Nat) : Int), ((n : Nat) : Int)), ?_, decide_eq_true rfl⟩
    unfold lookP
    rw [List.mem_filter, grid_mem]
    exact ⟨by unfold pOk; (try dsimp only); omega, decide_eq_true k⟩
  · rintro ⟨p, hp, k⟩
    rw [decide_eq_true_eq] at k
    have ho := lookP_ok ps p hp
    unfold pOk at ho
    refine ⟨p.1.toNat, List.mem_range.2 (by omega), ?_⟩
    rw [h.2 _ n (by omega) hn, decide_eq_true_eq]
    have e : (((p.1.toNat : Nat) : Int), ((n : Nat) : Int)) = p := Prod.ext (by (try dsimp only); omega) k.symm
    rw [e]
    unfold lookP at hp
    exact of_decide_eq_true (List.mem_filter.1 hp).2
def doneC (l : List Pr) (n s : Nat) : List Pr := l.filter fun q => decide (q.2 < (n : Int)) || (decide (q.2 = (n : Int)) && decide (q.1 < (s : Int)))
def onC (l : List Pr) (n s : Nat) : List Pr := l.filter fun q => decide (q.2 = (n : Int)) && decide (q.1 < (s : Int))
theorem doneC_mem {l : List Pr} {n s : Nat} {q : Pr} : q ∈ doneC l n s ↔ q ∈ l ∧ (q.2 < (n : Int) ∨ (q.2 = (n : Int) ∧ q.1 < (s : Int))) := by
  unfold doneC; rw [List.mem_filter]; simp
theorem onC_mem {l : List Pr} {n s : Nat} {q : Pr} : q ∈ onC l n s ↔ q ∈ l ∧ q.2 = (n : Int) ∧ q.1 < (s : Int) := by
  unfold onC; rw [List.mem_filter]; simp
section
variable {l : List Pr} {n s : Nat}
theorem done_yes (hl : l.Nodup) (h : (((s : Nat) : Int), ((n : Nat) : Int)) ∈ l) : (doneC l n (s + 1)).Perm ((((s : Nat) : Int), ((n : Nat) : Int)) :: doneC l n s) :=
  (List.perm_ext_iff_of_nodup (show (doneC l n (s + 1)).Nodup from hl.filter _) (List.nodup_cons.2 ⟨fun k => by have := (doneC_mem.1 k).2; (try dsimp only at this); omega, show (doneC l n s).Nodup from hl.filter _⟩)).2 fun q => by
    rw [List.mem_cons, doneC_mem, doneC_mem]
    constructor
    · rintro ⟨a, b⟩
      by_cases e : q.2 = (n : Int) ∧ q.1 = (s : Int)
      · exact .inl (Prod.ext e.2 e.1)
      · exact .inr ⟨a, by omega⟩
    · rintro (rfl | ⟨a, b⟩)
      · exact ⟨h, .inr ⟨rfl, by (try dsimp only); omega⟩⟩
      · exact ⟨a, by omega⟩
theorem on_yes (hl : l.Nodup) (h : (((s : Nat) : Int), ((n : Nat) : Int)) ∈ l) : (onC l n (s + 1)).Perm ((((s : Nat) : Int), ((n : Nat) : Int)) :: onC l n s) :=
  (List.perm_ext_iff_of_nodup (show (onC l n (s + 1)).Nodup from hl.filter _) (List.nodup_cons.2 ⟨fun k => by have := (onC_mem.1 k).2; (try dsimp only at this); omega, show (onC l n s).Nodup from hl.filter _⟩)).2 fun q => by
    rw [List.mem_cons, onC_mem, onC_mem]
    constructor
    · rintro ⟨a, b⟩
      by_cases e : q.1 = (s : Int)
      · exact .inl (Prod.ext e b.1)
      · exact .inr ⟨a, by omega⟩
    · rintro (rfl | ⟨a, b⟩)
      · exact ⟨h, rfl, by (try dsimp only); omega⟩
      · exact ⟨a, by omega⟩
theorem done_no (h : (((s : Nat) : Int), ((n : Nat) : Int)) ∉ l) : doneC l n s = doneC l n (s + 1) := List.filter_congr fun q hq => by
  have : ¬ (q.1 = (s : Int) ∧ q.2 = (n : Int)) := fun e => h (by rw [show (((s : Nat) : Int), ((n : Nat) : Int)) = q from Prod.ext e.1.symm e.2.symm]; exact hq)
  rw [Bool.eq_iff_iff]
  simp only [Bool.or_eq_true, Bool.and_eq_true, decide_eq_true_eq]
  omega
theorem on_no (h : (((s : Nat) : Int), ((n : Nat) : Int)) ∉ l) : onC l n s = onC l n (s + 1) := List.filter_congr fun q hq => by
  have : ¬ (q.1 = (s : Int) ∧ q.2 = (n : Int)) := fun e => h (by rw [show (((s : Nat) : Int), ((n : Nat) : Int)) = q from Prod.ext e.1.symm e.2.symm]; exact hq)
  rw [Bool.eq_iff_iff]
  simp only [Bool.and_eq_true, decide_eq_true_eq]
  omega
theorem done_row (h : ∀ p ∈ l, pOk p) : doneC l n 32 = doneC l (n + 1) 0 := List.filter_congr fun q hq => by
  have := h q hq
  unfold pOk at this
  rw [Bool.eq_iff_iff]
  simp only [Bool.or_eq_true, Bool.and_eq_true, decide_eq_true_eq]
  omega
theorem done_0 (h : ∀ p ∈ l, pOk p) : doneC l 0 0 = [] := by
  rw [List.eq_nil_iff_forall_not_mem]
  intro q hq
  obtain ⟨a, b⟩ := doneC_mem.1 hq
  have := h q a
  unfold pOk at this
  omega
theorem on_0 (h : ∀ p ∈ l, pOk p) : onC l n 0 = [] := by
  rw [List.eq_nil_iff_forall_not_mem]
  intro q hq
  obtain ⟨a, b⟩ := onC_mem.1 hq
  have := h q a
  unfold pOk at this
  omega
theorem done_end (h : ∀ p ∈ l, pOk p) : doneC l 255 0 = l := List.filter_eq_self.2 fun q hq => by
  have := h q hq
  unfold pOk at this
  simp only [Bool.or_eq_true, Bool.and_eq_true, decide_eq_true_eq]
  omega
theorem on_end (h : ∀ p ∈ l, pOk p) : (onC l n 32).length = cD l ((n : Nat) : Int) := by
  unfold cD onC
  rw [List.count_eq_countP, List.countP_map, List.countP_eq_length_filter]
  congr 1
  refine List.filter_congr fun q hq => ?_
  have := h q hq
  unfold pOk at this
  rw [Bool.eq_iff_iff]
  simp only [Bool.and_eq_true, decide_eq_true_eq, Function.comp, beq_iff_eq]
  omega
theorem cS_cons (p : Pr) (l : List Pr) (x : Int) : cS (p :: l) x = cS l x + (if x = p.1 then 1 else 0) := by
  unfold cS
  rw [List.map_cons, List.count_cons]
  congr 1
  by_cases e : x = p.1
  · rw [if_pos e, if_pos (by simp [e])]
  · rw [if_neg e, if_neg (by simpa using fun k => e k.symm)]
theorem cS_perm {l l' : List Pr} (h : l.Perm l') (x : Int) : cS l x = cS l' x := (h.map _).count_eq x
theorem done_len (hl : l.Nodup) (h : (((s : Nat) : Int), ((n : Nat) : Int)) ∈ l) : (doneC l n s).length + 1 = (doneC l n (s + 1)).length := (done_yes hl h).length_eq.symm
theorem on_len (hl : l.Nodup) (h : (((s : Nat) : Int), ((n : Nat) : Int)) ∈ l) : (onC l n s).length + 1 = (onC l n (s + 1)).length := (on_yes hl h).length_eq.symm
end
theorem done_lt {l : List Pr} {n s : Nat} {k : Int} (hl : l.Nodup) (h : (((s : Nat) : Int), ((n : Nat) : Int)) ∈ l) (h0 : ∀ q ∈ doneC l n s, q.1 < k) (hs : ((s : Nat) : Int) < k) : ∀ q ∈ doneC l n (s + 1), q.1 < k := fun q hq => by
  rcases List.mem_cons.1 ((done_yes hl h).mem_iff.1 hq) with rfl | hq
  · exact hs
  · exact h0 q hq
theorem done_le (l : List Pr) (n s : Nat) : (doneC l n s).length ≤ l.length := List.length_filter_le _ _
theorem on_le (l : List Pr) (n s : Nat) : (onC l n s).length ≤ l.length := List.length_filter_le _ _
theorem tab_in {t : List Bool} {ps : List Pr} {s n : Nat} (h : isTab t ps) (ho : ∀ p ∈ ps, pOk p) (hs : s < 32) (hn : n < 255) (k : tAt t s n = true) : (((s : Nat) : Int), ((n : Nat) : Int)) ∈ lookP ps := by
  rw [h.2 s n hs hn, decide_eq_true_eq] at k
  exact (lookP_mem ho _).2 k
theorem tab_out {t : List Bool} {ps : List Pr} {s n : Nat} (h : isTab t ps) (ho : ∀ p ∈ ps, pOk p) (hs : s < 32) (hn : n < 255) (k : tAt t s n = false) : (((s : Nat) : Int), ((n : Nat) : Int)) ∉ lookP ps := by
  rw [h.2 s n hs hn, decide_eq_false_iff_not] at k
  exact fun q => k ((lookP_mem ho _).1 q)
def cntL (l : List Pr) : List Value := (List.range 32).map fun i : Nat => .int .i64 ((cS l ((i : Nat) : Int) : Nat) : Int)
theorem cntL_len (l : List Pr) : (cntL l).length = 32 := by unfold cntL; rw [List.length_map, List.length_range]
theorem cntL_get {l : List Pr} {i : Nat} (h : i < 32) : (cntL l)[i]? = some (.int .i64 ((cS l ((i : Nat) : Int) : Nat) : Int)) := by
  unfold cntL; rw [List.getElem?_map, List.getElem?_range h]; rfl
theorem cntL_set {l : List Pr} {n s : Nat} (hl : l.Nodup) (hs : s < 32) (h : (((s : Nat) : Int), ((n : Nat) : Int)) ∈ l) : (cntL (doneC l n s)).set s (.int .i64 ((cS (doneC l n s) ((s : Nat) : Int) + 1 : Nat) : Int)) = cntL (doneC l n (s + 1)) := by
  apply List.ext_getElem?
  intro i
  rw [List.getElem?_set]
  rcases Nat.lt_or_ge i 32 with q | q
  · rw [cntL_get q, cntL_get q, cS_perm (done_yes hl h), cS_cons]
    by_cases e : s = i
    · subst e
      rw [if_pos rfl, if_pos (by rw [cntL_len]; exact hs), if_pos rfl]
    · rw [if_neg e, if_neg (by (try dsimp only); omega)]; rfl
  · rw [if_neg (by omega), List.getElem?_eq_none (by rw [cntL_len]; exact q), List.getElem?_eq_none (by rw [cntL_len]; exact q)]
theorem lasT_no1 {l : List Pr} {p fl : List Nat} {s : Nat} (k : cS l ((s : Nat) : Int) = 0) : lasT l p (fl.take s) = lasT l p (fl.take (s + 1)) := by
  rcases Nat.lt_or_ge s fl.length with q | q
  · exact lasT_no (x := fl[s]) (List.getElem?_eq_getElem q) (by omega)
  · rw [List.take_of_length_le q, List.take_of_length_le (by omega)]
theorem lasT_32 {l : List Pr} {p fl : List Nat} (h : ∀ p ∈ l, pOk p) : lasT l p (fl.take 32) = lasT l p fl := by
  have : ∀ m, lasT l p (fl.take (32 + m)) = lasT l p (fl.take 32) := fun m => by
    induction m with
    | zero => rfl
    | succ m ih =>
      rw [← ih, ← Nat.add_assoc]
      refine (lasT_no1 ?_).symm
      unfold cS
      rw [List.count_eq_zero]
      intro k
      obtain ⟨q, hq, e⟩ := List.mem_map.1 k
      have := h q hq
      unfold pOk at this
      omega
  have e := this fl.length
  rw [List.take_of_length_le (by omega)] at e
  exact e.symm
theorem cS_pos {l : List Pr} {x : Int} (h : cS l x ≠ 0) : ∃ q ∈ l, q.1 = x := by
  unfold cS at h
  obtain ⟨q, hq, e⟩ := List.mem_map.1 (List.count_pos_iff.1 (Nat.pos_of_ne_zero h))
  exact ⟨q, hq, e⟩
theorem good_tab {l : List Pr} {n : Nat} (h : ∀ p ∈ l, pOk p) (h1 : ∀ x : Nat, x < 255 → cD l ((x : Nat) : Int) ≤ 1) (h2 : ∀ q ∈ l, q.1 < (n : Int)) : goodL l n := ⟨fun x => by
  by_cases e : 0 ≤ x ∧ x < 255
  · have := h1 x.toNat (by omega)
    rwa [show ((x.toNat : Nat) : Int) = x by omega] at this
  · have : cD l x = 0 := by
      unfold cD
      rw [List.count_eq_zero]
      intro k
      obtain ⟨q, hq, e2⟩ := List.mem_map.1 k
      have := h q hq
      unfold pOk at this
      omega
    omega, h2⟩
end Go.HyM
namespace Go.Proofs.Ytilmiikfjcdllaa
open Go.RowKit Go.SL Go.ShM Go.HyM Go.Fl Go.SvM
set_option maxHeartbeats 1000000
set_option maxRecDepth 20000
set_option linter.all false
theorem ud67 : Try.prog.underlying 67 = some (.array 32 65) := by kernel_rfl
theorem zrT : zr Try.prog 67 = some ((List.replicate 8160 false).map Value.bool) := by kernel_rfl
theorem szT : sz Try.prog 67 = some 8160 := by kernel_rfl
theorem szR : sz Try.prog 65 = some 255 := by kernel_rfl
theorem tkT : tk Try.prog 67 = some (some 8160) := by kernel_rfl
theorem tb_one {t : List Bool} : ∀ u ∈ (Value.agg (t.map Value.bool).toArray).cells.toList, u.oneCell' = true := fun u hu => by
  simp only [Value.cells, List.mem_map] at hu
  obtain ⟨b, _, rfl⟩ := hu
  rfl
theorem tb_sz {t : List Bool} (h : t.length = 8160) : (Value.agg (t.map Value.bool).toArray).cells.size = 8160 := by
  show (t.map Value.bool).toArray.size = 8160
  rw [List.size_toArray, List.length_map]; exact h
theorem tb_le : 0 + 8160 ≤ ((List.replicate 8160 false).map Value.bool).length := by
  rw [List.length_map, List.length_replicate]; exact Nat.le_refl _
theorem tb_put {t : List Bool} : ((List.replicate 8160 false).map Value.bool).take 0 ++ (Value.agg (t.map Value.bool).toArray).cells.toList ++ ((List.replicate 8160 false).map Value.bool).drop (0 + 8160) = t.map Value.bool := by
  rw [List.take_zero, List.nil_append, List.drop_of_length_le (by rw [List.length_map, List.length_replicate]; exact Nat.le_refl _), List.append_nil]
  rfl
theorem tb_get {t : List Bool} (h : t.length = 8160) : ((t.map Value.bool).drop 0).take 8160 = t.map Value.bool := by
  rw [List.drop_zero, List.take_of_length_le (by rw [List.length_map, h]; exact Nat.le_refl _)]
theorem tb_lt {t : List Bool} (h : t.length = 8160) : 0 + 8160 ≤ (t.map Value.bool).length := by rw [List.length_map, h]; exact Nat.le_refl _

theorem table_ct {X : Asn} {v : Value} {ps : List Pr} {ao : Option Addr} {cap : Nat} (hS : Sv [X] v 2 ePr ps ao cap) (hn : ps.length ≤ 100000000) (hok : ∀ p ∈ ps, pOk p) : Ct Try.prog 40 [v] [X] (fun g : {t : List Bool // isTab t ps} => .agg (g.1.map Value.bool).toArray) (fun g => [X]) := by
 refine Ct_body (n := 24) Try.func40 rfl rfl rfl fun F w0 Q hret hnorm hp => ?_
 change WC _ _ _ _ _ _ _ (_ :: F)
 refine WC_sr fun K1 hK1 => ?_
 refine WL_ac (Ac_alloc zrT) rfl rfl rfl ?_
 rintro _ _ ⟨b2, rfl, rfl⟩
 refine WL_end hK1 ?_
 refine WC_sr fun K2 hK2 => ?_
 refine WL_ac (Ac_alloc zrT) rfl rfl rfl ?_
 rintro _ _ ⟨b3, rfl, rfl⟩
 refine WL_end hK2 ?_
 refine WC_seq fun K3 hK3 => ?_
 refine WC_sr fun K4 hK4 => ?_
 refine WL_r (Rd_assign rfl) rfl ?_
 refine WL_end hK4 ?_
 refine WC_block ?_
 refine WC_loopK (σ := Nat × (List Bool)) (fun ⟨i, t⟩ => [(4, .int .i64 ((i : Nat) : Int))]) (fun ⟨i, t⟩ => [cl b3 67 (t.map Value.bool)]) (fun ⟨i, t⟩ => i ≤ ps.length ∧ isTab t (ps.take i)) (fun ⟨i, t⟩ => ps.length - i) ⟨0, (List.replicate 8160 false)⟩ [0, 2, 3, 23] kpA (by (try dsimp only); repeat (first | with_reducible exact Gv.nil | (with_reducible apply Gv.cons; · (repeat (first | with_reducible exact Ext.here | with_reducible apply Ext.there))))) ?_ ?_ Sub.refl ?_
 ·exact ⟨Nat.zero_le _, isTab_nil⟩
 ·(try dsimp only); exact (Wk.cons lkA Wk.nil)
 ·rintro ⟨i, t⟩ ⟨hi, ht⟩ K5 hK5
  simp only [List.cons_append, List.nil_append]
  refine WC_seq fun K6 hK6 => ?_
  refine WC_sr fun K7 hK7 => ?_
  refine WL_r (Rd_move rfl) rfl ?_
  refine WL_r (Rd_move rfl) rfl ?_
  refine WL_r (Rd_len_sv rfl rfl ud22) rfl ?_
  refine WL_r (Rd_lssN rfl rfl) rfl ?_
  refine WL_end hK7 ?_
  refine WC_cond rfl (fun hc0 => ?_) (fun hc0 => ?_)
  ·try simp only [dz, ne_eq] at hc0
   obtain ⟨p, hp0⟩ : ∃ p, ps[i]? = some p := ⟨_, List.getElem?_eq_getElem (by omega)⟩
   have hpo := hok p (List.mem_of_getElem? hp0)
   have hpo2 := hpo
   unfold pOk at hpo
   refine WC_skip ?_
   refine Ps_next hK6 ?_
   refine WC_seq fun K8 hK8 => ?_
   refine WC_block ?_
   refine WC_draw mix [X] (fun i => ([2, 2, 2, 2, 2, 2, 2, 2, 2, 2, 2, 2, 1] : List Nat).getD i 0) ?_
   refine WJ_tp 0 rfl (Rd_move rfl) rfl (hp _ _) ?_
   refine WJ_tp 1 rfl (Rd_move rfl) rfl (hp _ _) ?_
   refine WJ_tp 2 rfl (Rd_index_sv i rfl rfl ud22 sz24 (hA := hS) (hi := by omega)) rfl (hp _ _) ?_
   refine WJ_tp 3 rfl (Rd_fieldAddr rfl fo24_0) rfl (hp _ _) ?_
   refine WJ_tk 4 (Rd_load_sv (i := i) (j := 0) (y := p) rfl tk3 (hA := hS) (hl := hp0) (hv := rfl)) hp ?_ rfl (by kernel_rfl) rfl rfl rfl
   refine WJ_tp 5 rfl (Rd_move rfl) rfl (hp _ _) ?_
   refine WJ_tp 6 rfl (Rd_move rfl) rfl (hp _ _) ?_
   refine WJ_tp 7 rfl (Rd_index_sv i rfl rfl ud22 sz24 (hA := hS) (hi := by omega)) rfl (hp _ _) ?_
   refine WJ_tp 8 rfl (Rd_fieldAddr rfl fo24_1) rfl (hp _ _) ?_
   refine WJ_tk 9 (Rd_load_sv (i := i) (j := 1) (y := p) rfl tk3 (hA := hS) (hl := hp0) (hv := rfl)) hp ?_ rfl (by kernel_rfl) rfl rfl rfl
   refine WJ_tp 10 rfl (Rd_indexT1 p.1.toNat rfl rfl ud67 szR (by omega) (by omega)) rfl (hp _ _) ?_
   refine WJ_tp 11 rfl (Rd_indexT2 p.2.toNat rfl rfl ud65 sz4 (by omega) (by omega)) rfl (hp _ _) ?_
   refine WJ_all (rs := [12]) (by kernel_rfl) rfl ?_
   refine WI_one ?_
   refine WI_ac0 rfl (Ac_store1 (ys := (tSet t p.1.toNat p.2.toNat).map Value.bool) rfl rfl sz4 (hl := by rw [Nat.blt_eq, List.length_map, ht.1]; omega) (hr := tset_map)) rfl rfl rfl ?_
   rintro _ _ rfl
   refine ⟨(fun _ => subF), ?_⟩
   refine WJ_done (by kernel_rfl) ?_
   refine Ps_next hK8 ?_
   refine WC_region ?_
   refine WL_r (Rd_move rfl) rfl ?_
   refine WL_r (Rd_addN (j := 1) rfl rfl) rfl ?_
   refine WL_r (Rd_assign rfl) rfl ?_
   refine WL_nil ?_
   refine Ps_wkB (hK5 ⟨i + 1, tSet t p.1.toNat p.2.toNat⟩ (⟨by (try dsimp only); omega, isTab_snoc ht hp0 hpo2⟩) (by (try dsimp only); omega))
  ·try simp only [dz, ne_eq] at hc0
   obtain rfl : i = ps.length := by omega
   rw [List.take_length] at ht
   refine WC_exit ?_
   refine Ps_next hK3 ?_
   refine WC_sr fun K9 hK9 => ?_
   refine WL_r (Rd_loadg (vs := t.map Value.bool) rfl tkT (hl := tb_lt ht.1) (hi := tb_get ht.1)) rfl ?_
   refine WL_ac0 (Ac_store (ys := t.map Value.bool) rfl rfl szT (hv := tb_sz ht.1) (hl := tb_le) (h1 := tb_one) (hr := tb_put)) rfl rfl ?_
   rintro _ _ rfl
   refine WL_end hK9 ?_
   refine WC_ret ?_
   exact hret.gf ⟨t, ht⟩ (Rs1c rfl rfl tkT (xs := t.map Value.bool) (vs := t.map Value.bool) (hl := tb_lt ht.1) (hv := tb_get ht.1))
end Go.Proofs.Ytilmiikfjcdllaa
namespace Go.Proofs.Ytilmiikfjcdllaa
open Go.RowKit Go.SL Go.ShM Go.HyM Go.Fl Go.SvM
set_option maxHeartbeats 1000000
set_option maxRecDepth 20000
set_option linter.all false
theorem cf54 : cfn Try.prog 54 = true := by kernel_rfl
theorem ud87 : Try.prog.underlying 87 = some (.array 255 3) := by kernel_rfl
theorem skip3 {rec : Int → Gs → Bool × Gs} {s : Int} {t : List Bool} {sn n : Nat} {T W : List (Int × Int)} (h : n < 255) (k : tAt t sn n = false ∨ 0 < at0 ((n : Nat) : Int) T) : growL rec s (adjFrom t sn n) ⟨T, W⟩ = growL rec s (adjFrom t sn (n + 1)) ⟨T, W⟩ := by
  cases e : tAt t sn n with
  | false => rw [adjFrom_no h e]
  | true => rw [adjFrom_yes h e, growL_skip (show 0 < at0 ((n : Nat) : Int) T from k.resolve_left (by rw [e]; decide))]
theorem adjT_ok {t : List Bool} (s : Int) : ∀ x ∈ adjFrom t s.toNat 0, 0 ≤ x ∧ x < 255 := fun x hx => by
  rw [adjFrom_0] at hx
  obtain ⟨n, hn, rfl⟩ := List.mem_map.1 hx
  have := List.mem_range.1 (List.mem_filter.1 hn).1
  omega

theorem grow3_ct {t : List Bool} {pT pO pS g : Nat} {s : Int} {T0 W0 : List (Int × Int)} (ht : t.length = 8160) (hs : 0 ≤ s ∧ s < 32) (hun : untried T0 < g + 1) (hW : okW W0) (ih : ∀ (s : Int) (T W : List (Int × Int)), (0 ≤ s ∧ s < 32) → untried T < g → okW W → Ct Try.prog 54 [.pointer (some ⟨pT, 0, none⟩), .pointer (some ⟨pO, 0, none⟩), .pointer (some ⟨pS, 0, none⟩), .int .i64 (s)] [cl pT 67 (t.map Value.bool), cl pO 87 (ofL W), cl pS 65 ((seL T).map Value.bool)] (fun _ : Unit => .bool (growM (fun z : Int => adjFrom t z.toNat 0) g s ⟨T, W⟩).1) (fun _ => [cl pT 67 (t.map Value.bool), cl pO 87 (ofL (growM (fun z : Int => adjFrom t z.toNat 0) g s ⟨T, W⟩).2.W), cl pS 65 ((seL (growM (fun z : Int => adjFrom t z.toNat 0) g s ⟨T, W⟩).2.T).map Value.bool)])) : Ct Try.prog 54 [.pointer (some ⟨pT, 0, none⟩), .pointer (some ⟨pO, 0, none⟩), .pointer (some ⟨pS, 0, none⟩), .int .i64 s] [cl pT 67 (t.map Value.bool), cl pO 87 (ofL W0), cl pS 65 ((seL T0).map Value.bool)] (fun _ : Unit => .bool (growM (fun z : Int => adjFrom t z.toNat 0) (g + 1) s ⟨T0, W0⟩).1) (fun _ => [cl pT 67 (t.map Value.bool), cl pO 87 (ofL (growM (fun z : Int => adjFrom t z.toNat 0) (g + 1) s ⟨T0, W0⟩).2.W), cl pS 65 ((seL (growM (fun z : Int => adjFrom t z.toNat 0) (g + 1) s ⟨T0, W0⟩).2.T).map Value.bool)]) := by
 refine Ct_body (n := 55) Try.func54 rfl rfl rfl fun F w0 Q hret hnorm hp => ?_
 change WC _ _ _ _ _ _ _ (_ :: _ :: _ :: F)
 have hres : (growM (fun z : Int => adjFrom t z.toNat 0) (g + 1) s ⟨T0, W0⟩) = growL (growM (fun z : Int => adjFrom t z.toNat 0) g) s (adjFrom t s.toNat 0) ⟨T0, W0⟩ := rfl
 refine WC_sr fun K1 hK1 => ?_
 refine WL_r (Rd_assign rfl) rfl ?_
 refine WL_end hK1 ?_
 refine WC_seq fun K2 hK2 => ?_
 refine WC_sr fun K3 hK3 => ?_
 refine WL_r (Rd_assign rfl) rfl ?_
 refine WL_end hK3 ?_
 refine WC_block ?_
 refine WC_loopK (σ := Nat × (List (Int × Int)) × (List (Int × Int))) (fun ⟨n, T, W⟩ => [(9, .int .i64 ((n : Nat) : Int))]) (fun ⟨n, T, W⟩ => [cl pO 87 (ofL W), cl pS 65 ((seL T).map Value.bool)]) (fun ⟨n, T, W⟩ => n ≤ 255 ∧ untried T < g + 1 ∧ okW W ∧ (growM (fun z : Int => adjFrom t z.toNat 0) (g + 1) s ⟨T0, W0⟩) = growL (growM (fun z : Int => adjFrom t z.toNat 0) g) s (adjFrom t s.toNat n) ⟨T, W⟩) (fun ⟨n, T, W⟩ => 255 - n) ⟨0, T0, W0⟩ [0, 1, 2, 3] kpA (by (try dsimp only); repeat (first | with_reducible exact Gv.nil | (with_reducible apply Gv.cons; · (repeat (first | with_reducible exact Ext.here | with_reducible apply Ext.there))))) ?_ ?_ Sub.refl ?_
 ·exact ⟨Nat.zero_le _, hun, hW, hres⟩
 ·(try dsimp only); exact (Wk.cons lkA Wk.nil)
 ·rintro ⟨n, T, W⟩ ⟨hn, hunT, hok, hres⟩ K4 hK4
  simp only [List.cons_append, List.nil_append]
  refine WC_seq fun K5 hK5 => ?_
  refine WC_sr fun K6 hK6 => ?_
  refine WL_r (Rd_move rfl) rfl ?_
  refine WL_r (Rd_lssN (j := 255) rfl rfl) rfl ?_
  refine WL_end hK6 ?_
  refine WC_cond rfl (fun hc0 => ?_) (fun hc0 => ?_)
  ·try simp only [dz, ne_eq] at hc0
   have hxW := hok ((n : Nat) : Int)
   refine WC_skip ?_
   refine Ps_next hK5 ?_
   refine WC_seq fun K7 hK7 => ?_
   refine WC_block ?_
   refine WC_seq fun K8 hK8 => ?_
   refine WC_sr fun K9 hK9 => ?_
   refine WL_r (Rd_move rfl) rfl ?_
   refine WL_r (Rd_move rfl) rfl ?_
   refine WL_r (Rd_move rfl) rfl ?_
   refine WL_r (Rd_nilCheck rfl) rfl ?_
   refine WL_r (Rd_indexT1 s.toNat rfl rfl ud67 szR (by omega) (by omega)) rfl ?_
   refine WL_r (Rd_indexT2 n rfl rfl ud65 sz4 (by omega) (by omega)) rfl ?_
   refine WL_r (Rd_load rfl tk4 (v := .bool (tAt t s.toNat n)) (hi := tAt_get ht (by omega) (by omega))) rfl ?_
   refine WL_r (Rd_not rfl) rfl ?_
   refine WL_r (Rd_move rfl) rfl ?_
   refine WL_bool 22 rfl (fun hg10 => ?_) (fun hg10 => ?_)
   ·try simp only [dz, ne_eq] at hg10
    refine WL_skip rfl rfl rfl ?_
    refine WL_skip rfl rfl rfl ?_
    refine WL_skip rfl rfl rfl ?_
    refine WL_skip rfl rfl rfl ?_
    refine WL_skip rfl rfl rfl ?_
    refine WL_r (Rd_pickT rfl rfl) rfl ?_
    refine WL_end hK9 ?_
    refine WC_condT rfl ?_
    have hsk : growL (growM (fun z : Int => adjFrom t z.toNat 0) g) s (adjFrom t s.toNat n) ⟨T, W⟩ = growL (growM (fun z : Int => adjFrom t z.toNat 0) g) s (adjFrom t s.toNat (n + 1)) ⟨T, W⟩ := skip3 (by omega) (by first | (left; assumption) | (right; assumption) | (right; simp_all; done) | (left; simp_all; done))
    rw [hsk] at hres
    refine WC_exit ?_
    refine Ps_next hK7 ?_
    refine WC_region ?_
    refine WL_r (Rd_move rfl) rfl ?_
    refine WL_r (Rd_addN (j := 1) rfl rfl) rfl ?_
    refine WL_r (Rd_assign rfl) rfl ?_
    refine WL_nil ?_
    refine Ps_wkB (hK4 ⟨n + 1, T, W⟩ (⟨by (try dsimp only); omega, hunT, hok, hres⟩) (by (try dsimp only); omega))
   ·try simp only [dz, ne_eq] at hg10
    refine WL_r (Rd_move rfl) rfl ?_
    refine WL_r (Rd_move rfl) rfl ?_
    refine WL_r (Rd_nilCheck rfl) rfl ?_
    refine WL_r (Rd_indexB n rfl rfl ud65 sz4 (by omega) (by omega)) rfl ?_
    refine WL_r (Rd_load rfl tk4 (v := .bool (decide (0 < at0 ((n : Nat) : Int) T))) (hi := seL_get (by omega))) rfl ?_
    refine WL_r (Rd_pickF rfl rfl) rfl ?_
    refine WL_end hK9 ?_
    refine WC_cond rfl (fun hc1 => ?_) (fun hc1 => ?_)
    ·try simp only [dz, ne_eq] at hc1
     have hsk : growL (growM (fun z : Int => adjFrom t z.toNat 0) g) s (adjFrom t s.toNat n) ⟨T, W⟩ = growL (growM (fun z : Int => adjFrom t z.toNat 0) g) s (adjFrom t s.toNat (n + 1)) ⟨T, W⟩ := skip3 (by omega) (by first | (left; assumption) | (right; assumption) | (right; simp_all; done) | (left; simp_all; done))
     rw [hsk] at hres
     refine WC_exit ?_
     refine Ps_next hK7 ?_
     refine WC_region ?_
     refine WL_r (Rd_move rfl) rfl ?_
     refine WL_r (Rd_addN (j := 1) rfl rfl) rfl ?_
     refine WL_r (Rd_assign rfl) rfl ?_
     refine WL_nil ?_
     refine Ps_wkB (hK4 ⟨n + 1, T, W⟩ (⟨by (try dsimp only); omega, hunT, hok, hres⟩) (by (try dsimp only); omega))
    ·try simp only [dz, ne_eq] at hc1
     have htt : tAt t s.toNat n = true := by first | assumption | simp_all
     have hnt : ¬ 0 < at0 ((n : Nat) : Int) (⟨T, W⟩ : Gs).T := by first | assumption | (show ¬ 0 < at0 ((n : Nat) : Int) T; first | omega | simp_all)
     rw [adjFrom_yes (by omega) htt] at hres
     have hup := untried_put (x := ((n : Nat) : Int)) (T := T) (by omega) (by have := hnt; dsimp only at this; omega)
     refine WC_skip ?_
     refine Ps_next hK8 ?_
     refine WC_sr fun K11 hK11 => ?_
     refine WL_r (Rd_move rfl) rfl ?_
     refine WL_r (Rd_move rfl) rfl ?_
     refine WL_r (Rd_nilCheck rfl) rfl ?_
     refine WL_r (Rd_indexB n rfl rfl ud65 sz4 (by omega) (by omega)) rfl ?_
     refine WL_ac0 (Ac_store1 (ys := (seL (putL ((n : Nat) : Int) 1 T)).map Value.bool) rfl rfl sz4 (hl := by rw [Nat.blt_eq, List.length_map, seL_len]; omega) (hr := seL_set (by omega))) rfl rfl ?_
     rintro _ _ rfl
     refine WL_end hK11 ?_
     refine WC_sr fun K12 hK12 => ?_
     refine WL_r (Rd_move rfl) rfl ?_
     refine WL_r (Rd_move rfl) rfl ?_
     refine WL_r (Rd_nilCheck rfl) rfl ?_
     refine WL_r (Rd_indexB n rfl rfl ud87 sz3 (by omega) (by omega)) rfl ?_
     refine WL_r (Rd_load rfl tk3 (v := .int .i64 (at0 ((n : Nat) : Int) W - 1)) (hi := ofL_get (by omega))) rfl ?_
     refine WL_r (Rd_lss rfl rfl) rfl ?_
     refine WL_r (Rd_move rfl) rfl ?_
     refine WL_bool 39 rfl (fun hg13 => ?_) (fun hg13 => ?_)
     ·try simp only [dz, ne_eq] at hg13
      refine WL_skip rfl rfl rfl ?_
      refine WL_skip rfl rfl rfl ?_
      refine WL_skip rfl rfl rfl ?_
      refine WL_skip rfl rfl rfl ?_
      refine WL_skip rfl rfl rfl ?_
      refine WL_skip rfl rfl rfl ?_
      refine WL_skip rfl rfl rfl ?_
      refine WL_skip rfl rfl rfl ?_
      refine WL_skip rfl rfl rfl ?_
      refine WL_r (Rd_pickT rfl rfl) rfl ?_
      refine WL_end hK12 ?_
      refine WC_condT rfl ?_
      refine WC_sr fun K14 hK14 => ?_
      refine WL_r (Rd_move rfl) rfl ?_
      refine WL_r (Rd_move rfl) rfl ?_
      refine WL_r (Rd_move rfl) rfl ?_
      refine WL_r (Rd_nilCheck rfl) rfl ?_
      refine WL_r (Rd_indexB n rfl rfl ud87 sz3 (by omega) (by omega)) rfl ?_
      refine WL_ac0 (Ac_store1 rfl rfl sz3 (hl := by rw [Nat.blt_eq, ofL_len]; omega) (hr := ofL_set (by omega))) rfl rfl ?_
      rintro _ _ rfl
      refine WL_end hK14 ?_
      refine WC_sr fun K15 hK15 => ?_
      refine WL_r (Rd_assign rfl) rfl ?_
      refine WL_end hK15 ?_
      refine WC_ret ?_
      first | (rw [growL_free hnt (show at0 ((n : Nat) : Int) W = 0 by omega)] at hres; rw [hres] at hret; exact hret.go () (Rs1 rfl rfl)) | (rw [growL_yes hnt (show ¬ at0 ((n : Nat) : Int) W = 0 by omega) (by first | assumption | simp_all)] at hres; rw [hres] at hret; exact hret.go () (Rs1 rfl rfl))
     ·try simp only [dz, ne_eq] at hg13
      refine WL_r (Rd_move rfl) rfl ?_
      refine WL_r (Rd_move rfl) rfl ?_
      refine WL_r (Rd_move rfl) rfl ?_
      refine WL_r (Rd_move rfl) rfl ?_
      refine WL_r (Rd_move rfl) rfl ?_
      refine WL_r (Rd_nilCheck rfl) rfl ?_
      refine WL_r (Rd_indexB n rfl rfl ud87 sz3 (by omega) (by omega)) rfl ?_
      refine WL_r (Rd_load rfl tk3 (v := .int .i64 (at0 ((n : Nat) : Int) W - 1)) (hi := ofL_get (by omega))) rfl ?_
      refine WL_ac (Ac_call cf54 rfl (hs := ih (at0 ((n : Nat) : Int) W - 1) (putL ((n : Nat) : Int) 1 T) W (by omega) (by omega) hok)) rfl rfl rfl ?_
      rintro _ _ ⟨⟨⟩, rfl, hA⟩
      simp only [List.cons_append, List.nil_append] at hA
      replace hA := hA.symm
      subst hA
      refine WL_r (Rd_pickF rfl rfl) rfl ?_
      refine WL_end hK12 ?_
      refine WC_cond rfl (fun hc2 => ?_) (fun hc2 => ?_)
      ·try simp only [dz, ne_eq] at hc2
       refine WC_sr fun K16 hK16 => ?_
       refine WL_r (Rd_move rfl) rfl ?_
       refine WL_r (Rd_move rfl) rfl ?_
       refine WL_r (Rd_move rfl) rfl ?_
       refine WL_r (Rd_nilCheck rfl) rfl ?_
       refine WL_r (Rd_indexB n rfl rfl ud87 sz3 (by omega) (by omega)) rfl ?_
       refine WL_ac0 (Ac_store1 rfl rfl sz3 (hl := by rw [Nat.blt_eq, ofL_len]; omega) (hr := ofL_set (by omega))) rfl rfl ?_
       rintro _ _ rfl
       refine WL_end hK16 ?_
       refine WC_sr fun K17 hK17 => ?_
       refine WL_r (Rd_assign rfl) rfl ?_
       refine WL_end hK17 ?_
       refine WC_ret ?_
       first | (rw [growL_free hnt (show at0 ((n : Nat) : Int) W = 0 by omega)] at hres; rw [hres] at hret; exact hret.go () (Rs1 rfl rfl)) | (rw [growL_yes hnt (show ¬ at0 ((n : Nat) : Int) W = 0 by omega) (by first | assumption | simp_all)] at hres; rw [hres] at hret; exact hret.go () (Rs1 rfl rfl))
      ·try simp only [dz, ne_eq] at hc2
       have hwn : ¬ at0 ((n : Nat) : Int) (⟨T, W⟩ : Gs).W = 0 := by show ¬ at0 ((n : Nat) : Int) W = 0; omega
       have hgk := growM_K (adj := (fun z : Int => adjFrom t z.toNat 0)) (adjT_ok (t := t)) g (at0 ((n : Nat) : Int) W - 1) ⟨putL ((n : Nat) : Int) 1 T, W⟩ (by omega) hok
       rw [growL_no hnt hwn (by first | assumption | simp_all)] at hres
       refine WC_skip ?_
       refine Ps_next hK7 ?_
       refine WC_region ?_
       refine WL_r (Rd_move rfl) rfl ?_
       refine WL_r (Rd_addN (j := 1) rfl rfl) rfl ?_
       refine WL_r (Rd_assign rfl) rfl ?_
       refine WL_nil ?_
       refine Ps_wkB (hK4 ⟨n + 1, (growM (fun z : Int => adjFrom t z.toNat 0) g (at0 ((n : Nat) : Int) W - 1) ⟨putL ((n : Nat) : Int) 1 T, W⟩).2.T, (growM (fun z : Int => adjFrom t z.toNat 0) g (at0 ((n : Nat) : Int) W - 1) ⟨putL ((n : Nat) : Int) 1 T, W⟩).2.W⟩ (⟨by (try dsimp only); omega, by have := hgk.un; dsimp only at this ⊢; omega, hgk.w, hres⟩) (by (try dsimp only); omega))
  ·try simp only [dz, ne_eq] at hc0
   obtain rfl : n = 255 := by omega
   rw [adjFrom_end] at hres
   replace hres : (growM (fun z : Int => adjFrom t z.toNat 0) (g + 1) s ⟨T0, W0⟩) = (false, ⟨T, W⟩) := hres
   refine WC_exit ?_
   refine Ps_next hK2 ?_
   refine WC_sr fun K18 hK18 => ?_
   refine WL_r (Rd_assign rfl) rfl ?_
   refine WL_end hK18 ?_
   refine WC_ret ?_
   rw [hres] at hret
   exact hret.gf () (Rs1 rfl rfl)

theorem grow3 {t : List Bool} {pT pO pS : Nat} (ht : t.length = 8160) : ∀ (f : Nat) (s : Int) (T W : List (Int × Int)), (0 ≤ s ∧ s < 32) → untried T < f → okW W → Ct Try.prog 54 [.pointer (some ⟨pT, 0, none⟩), .pointer (some ⟨pO, 0, none⟩), .pointer (some ⟨pS, 0, none⟩), .int .i64 (s)] [cl pT 67 (t.map Value.bool), cl pO 87 (ofL W), cl pS 65 ((seL T).map Value.bool)] (fun _ : Unit => .bool (growM (fun z : Int => adjFrom t z.toNat 0) f s ⟨T, W⟩).1) (fun _ => [cl pT 67 (t.map Value.bool), cl pO 87 (ofL (growM (fun z : Int => adjFrom t z.toNat 0) f s ⟨T, W⟩).2.W), cl pS 65 ((seL (growM (fun z : Int => adjFrom t z.toNat 0) f s ⟨T, W⟩).2.T).map Value.bool)])
  | 0, s, T, W, _, hu, _ => by omega
  | g + 1, s, T, W, hs, hu, hw => grow3_ct ht hs hu hw (grow3 ht g)
end Go.Proofs.Ytilmiikfjcdllaa
namespace Go.Proofs.Ytilmiikfjcdllaa
open Go.RowKit Go.SL Go.ShM Go.HyM Go.Fl Go.SvM
set_option maxHeartbeats 1000000
set_option maxRecDepth 20000
set_option linter.all false

theorem zrO : zr Try.prog 87 = some (List.replicate 255 (.int .i64 0)) := by kernel_rfl
def ofZ (i : Nat) : List Value := List.replicate i (.int .i64 (-1)) ++ List.replicate (255 - i) (.int .i64 0)
theorem ofZ_len {i : Nat} (h : i ≤ 255) : (ofZ i).length = 255 := by unfold ofZ; rw [List.length_append, List.length_replicate, List.length_replicate]; omega
theorem ofZ_set {i : Nat} (h : i < 255) : (ofZ i).set i (.int .i64 (-1)) = ofZ (i + 1) := by
  unfold ofZ
  rw [List.set_append_right _ _ (by rw [List.length_replicate]; exact Nat.le_refl _), List.length_replicate, Nat.sub_self, show 255 - i = (255 - (i + 1)) + 1 by omega, List.replicate_succ, List.set_cons_zero, List.replicate_succ', List.append_assoc]
  rfl
theorem ofZ_end : ofZ 255 = ofL [] := by kernel_rfl
theorem seZ : (List.replicate 255 false).map Value.bool = (seL []).map Value.bool := by kernel_rfl
end Go.Proofs.Ytilmiikfjcdllaa
namespace Go.Proofs.Ytilmiikfjcdllaa
open Go.RowKit Go.SL Go.ShM Go.HyM Go.Fl Go.SvM
set_option maxHeartbeats 1000000
set_option maxRecDepth 20000
set_option linter.all false

theorem great_ct {t : List Bool} {pT : Nat} (ht : t.length = 8160) : Ct Try.prog 41 [.pointer (some ⟨pT, 0, none⟩)] [cl pT 67 (t.map Value.bool)] (fun _ : Unit => .int .i64 (((sizeTo (fun z : Int => adjFrom t z.toNat 0) 32).1 : Nat) : Int)) (fun _ => [cl pT 67 (t.map Value.bool)]) := by
 refine Ct_body (n := 24) Try.func41 rfl rfl rfl fun F w0 Q hret hnorm hp => ?_
 change WC _ _ _ _ _ _ _ (_ :: F)
 refine WC_sr fun K1 hK1 => ?_
 refine WL_r (Rd_assign rfl) rfl ?_
 refine WL_end hK1 ?_
 refine WC_sr fun K2 hK2 => ?_
 refine WL_ac (Ac_alloc zrO) rfl rfl rfl ?_
 rintro _ _ ⟨b3, rfl, rfl⟩
 refine WL_end hK2 ?_
 refine WC_seq fun K3 hK3 => ?_
 refine WC_sr fun K4 hK4 => ?_
 refine WL_r (Rd_assign rfl) rfl ?_
 refine WL_end hK4 ?_
 refine WC_block ?_
 rw [show cl b3 87 (List.replicate 255 (.int .i64 0)) = cl b3 87 (ofZ 0) from rfl]
 refine WC_loopK (σ := Nat) (fun i => [(4, .int .i64 ((i : Nat) : Int))]) (fun i => [cl b3 87 (ofZ i)]) (fun i => i ≤ 255) (fun i => 255 - i) (0) [0, 2, 3, 5, 6, 7, 14, 15, 16, 17, 18, 19, 20, 21, 22, 23] kpA (by (try dsimp only); repeat (first | with_reducible exact Gv.nil | (with_reducible apply Gv.cons; · (repeat (first | with_reducible exact Ext.here | with_reducible apply Ext.there))))) ?_ ?_ Sub.refl ?_
 ·exact Nat.zero_le _
 ·(try dsimp only); exact (Wk.cons lkA Wk.nil)
 ·rintro i hi K5 hK5
  simp only [List.cons_append, List.nil_append]
  refine WC_seq fun K6 hK6 => ?_
  refine WC_sr fun K7 hK7 => ?_
  refine WL_r (Rd_move rfl) rfl ?_
  refine WL_r (Rd_lssN (j := 255) rfl rfl) rfl ?_
  refine WL_end hK7 ?_
  refine WC_cond rfl (fun hc0 => ?_) (fun hc0 => ?_)
  ·try simp only [dz, ne_eq] at hc0
   refine WC_skip ?_
   refine Ps_next hK6 ?_
   refine WC_seq fun K8 hK8 => ?_
   refine WC_block ?_
   refine WC_region ?_
   refine WL_r (Rd_move rfl) rfl ?_
   refine WL_r (Rd_indexB i rfl rfl ud87 sz3 (by omega) (by omega)) rfl ?_
   refine WL_ac0 (Ac_store1 (ys := ofZ (i + 1)) rfl rfl sz3 (hl := by rw [Nat.blt_eq, ofZ_len (by omega)]; omega) (hr := ofZ_set (by omega))) rfl rfl ?_
   rintro _ _ rfl
   refine WL_nil ?_
   refine Ps_next hK8 ?_
   refine WC_region ?_
   refine WL_r (Rd_move rfl) rfl ?_
   refine WL_r (Rd_addN (j := 1) rfl rfl) rfl ?_
   refine WL_r (Rd_assign rfl) rfl ?_
   refine WL_nil ?_
   refine Ps_wkB (hK5 (i + 1) (by omega) (by omega))
  ·try simp only [dz, ne_eq] at hc0
   obtain rfl : i = 255 := by omega
   rw [ofZ_end]
   refine WC_exit ?_
   refine Ps_next hK3 ?_
   refine WC_sr fun K9 hK9 => ?_
   refine WL_r (Rd_assign rfl) rfl ?_
   refine WL_end hK9 ?_
   refine WC_seq fun K10 hK10 => ?_
   refine WC_sr fun K11 hK11 => ?_
   refine WL_r (Rd_assign rfl) rfl ?_
   refine WL_end hK11 ?_
   refine WC_block ?_
   refine WC_loopK (σ := Nat × Nat × (List (Int × Int))) (fun ⟨s, c, W⟩ => [(5, .int .i64 ((c : Nat) : Int)), (6, .int .i64 ((s : Nat) : Int))]) (fun ⟨s, c, W⟩ => [cl b3 87 (ofL W)]) (fun ⟨s, c, W⟩ => (s ≤ 32 ∧ c ≤ s) ∧ (c, W) = sizeTo (fun z : Int => adjFrom t z.toNat 0) s ∧ okW W) (fun ⟨s, c, W⟩ => 32 - s) ⟨0, 0, []⟩ [0, 2, 3, 23] kpA (by (try dsimp only); repeat (first | with_reducible exact Gv.nil | (with_reducible apply Gv.cons; · (repeat (first | with_reducible exact Ext.here | with_reducible apply Ext.there))))) ?_ ?_ Sub.refl ?_
   ·exact ⟨by omega, rfl, okW_nil⟩
   ·(try dsimp only); exact (Wk.cons lkA (Wk.cons lkA Wk.nil))
   ·rintro ⟨s, c, W⟩ ⟨hs, hst, hok⟩ K12 hK12
    simp only [List.cons_append, List.nil_append]
    refine WC_seq fun K13 hK13 => ?_
    refine WC_sr fun K14 hK14 => ?_
    refine WL_r (Rd_move rfl) rfl ?_
    refine WL_r (Rd_lssN (j := 32) rfl rfl) rfl ?_
    refine WL_end hK14 ?_
    refine WC_cond rfl (fun hc1 => ?_) (fun hc1 => ?_)
    ·try simp only [dz, ne_eq] at hc1
     have hgk := growM_K (adj := (fun z : Int => adjFrom t z.toNat 0)) (adjT_ok (t := t)) 256 ((s : Nat) : Int) ⟨[], W⟩ (by omega) hok
     refine WC_skip ?_
     refine Ps_next hK13 ?_
     refine WC_seq fun K15 hK15 => ?_
     refine WC_block ?_
     refine WC_sr fun K16 hK16 => ?_
     refine WL_ac (Ac_alloc zrN) rfl rfl rfl ?_
     rintro _ _ ⟨b7, rfl, rfl⟩
     rw [seZ]
     refine WL_end hK16 ?_
     refine WC_sr fun K17 hK17 => ?_
     refine WL_r (Rd_move rfl) rfl ?_
     refine WL_r (Rd_move rfl) rfl ?_
     refine WL_ac (Ac_call cf54 rfl (hs := grow3 (pT := pT) (pO := b3) (pS := b7) ht 256 ((s : Nat) : Int) [] W (by omega) untried_nil hok)) rfl rfl rfl ?_
     rintro _ _ ⟨⟨⟩, rfl, hA⟩
     simp only [List.cons_append, List.nil_append] at hA
     replace hA := hA.symm
     subst hA
     refine WL_end hK17 ?_
     refine WC_cond rfl (fun hc2 => ?_) (fun hc2 => ?_)
     ·try simp only [dz, ne_eq] at hc2
      have hst2 := size_yes hst (by first | assumption | simpa using hc2)
      refine WC_region ?_
      refine WL_r (Rd_move rfl) rfl ?_
      refine WL_r (Rd_addN (j := 1) rfl rfl) rfl ?_
      refine WL_r (Rd_assign rfl) rfl ?_
      refine WL_nil ?_
      refine Ps_next hK15 ?_
      refine WC_region ?_
      refine WL_r (Rd_move rfl) rfl ?_
      refine WL_r (Rd_addN (j := 1) rfl rfl) rfl ?_
      refine WL_r (Rd_assign rfl) rfl ?_
      refine WL_nil ?_
      refine Ps_wkB (hK12 ⟨s + 1, c + 1, (growM (fun z : Int => adjFrom t z.toNat 0) 256 ((s : Nat) : Int) ⟨[], W⟩).2.W⟩ (⟨by (try dsimp only); omega, hst2, hgk.w⟩) (by (try dsimp only); omega))
     ·try simp only [dz, ne_eq] at hc2
      have hst2 := size_no hst (by first | assumption | simpa using hc2)
      refine WC_skip ?_
      refine Ps_next hK15 ?_
      refine WC_region ?_
      refine WL_r (Rd_move rfl) rfl ?_
      refine WL_r (Rd_addN (j := 1) rfl rfl) rfl ?_
      refine WL_r (Rd_assign rfl) rfl ?_
      refine WL_nil ?_
      refine Ps_wkB (hK12 ⟨s + 1, c, (growM (fun z : Int => adjFrom t z.toNat 0) 256 ((s : Nat) : Int) ⟨[], W⟩).2.W⟩ (⟨by (try dsimp only); omega, hst2, hgk.w⟩) (by (try dsimp only); omega))
    ·try simp only [dz, ne_eq] at hc1
     obtain rfl : s = 32 := by omega
     refine WC_exit ?_
     refine Ps_next hK10 ?_
     refine WC_sr fun K18 hK18 => ?_
     refine WL_r (Rd_move rfl) rfl ?_
     refine WL_r (Rd_assign rfl) rfl ?_
     refine WL_end hK18 ?_
     refine WC_ret ?_
     exact hret.gfE () (Rs1 rfl rfl) (by rw [← hst])

theorem tb_le2 {t : List Bool} (h : t.length = 8160) : 0 + 8160 ≤ (t.map Value.bool).length := by
  rw [List.length_map, h]; exact Nat.le_refl _
theorem tb_put2 {x t : List Bool} (h : x.length = 8160) : (x.map Value.bool).take 0 ++ (Value.agg (t.map Value.bool).toArray).cells.toList ++ (x.map Value.bool).drop (0 + 8160) = t.map Value.bool := by
  rw [List.take_zero, List.nil_append, List.drop_of_length_le (by rw [List.length_map, h]; exact Nat.le_refl _), List.append_nil]
  rfl

theorem wo_ct {t : List Bool} {pT s : Nat} {z : Int} (ht : t.length = 8160) (hs : s < 32) (hz : z < 255) : Ct Try.prog 42 [.pointer (some ⟨pT, 0, none⟩), .int .i64 ((s : Nat) : Int), .int .i64 z] [cl pT 67 (t.map Value.bool)] (fun _ : Unit => .agg ((tWo t s z).map Value.bool).toArray) (fun _ => [cl pT 67 (t.map Value.bool)]) := by
 refine Ct_body (n := 34) Try.func42 rfl rfl rfl fun F w0 Q hret hnorm hp => ?_
 change WC _ _ _ _ _ _ _ (_ :: F)
 have hr := fun i => (tRow_len t s i).trans ht
 have hcl := fun j => (tCol_len (tRow t s 255) z.toNat j).trans (hr 255)
 refine WC_sr fun K1 hK1 => ?_
 refine WL_ac (Ac_alloc zrT) rfl rfl rfl ?_
 rintro _ _ ⟨b6, rfl, rfl⟩
 refine WL_end hK1 ?_
 refine WC_sr fun K2 hK2 => ?_
 refine WL_r (Rd_move rfl) rfl ?_
 refine WL_r (Rd_nilCheck rfl) rfl ?_
 refine WL_r (Rd_loadg (vs := t.map Value.bool) rfl tkT (hl := tb_lt ht) (hi := tb_get ht)) rfl ?_
 refine WL_ac (Ac_alloc zrT) rfl rfl rfl ?_
 rintro _ _ ⟨b7, rfl, rfl⟩
 refine WL_ac0 (Ac_store (ys := t.map Value.bool) rfl rfl szT (hv := tb_sz ht) (hl := tb_le) (h1 := tb_one) (hr := tb_put)) rfl rfl ?_
 rintro _ _ rfl
 refine WL_end hK2 ?_
 refine WC_seq fun K3 hK3 => ?_
 refine WC_sr fun K4 hK4 => ?_
 refine WL_r (Rd_assign rfl) rfl ?_
 refine WL_end hK4 ?_
 refine WC_block ?_
 rw [show cl b7 67 (t.map Value.bool) = cl b7 67 ((tRow t s 0).map Value.bool) from rfl]
 refine WC_loopK (σ := Nat) (fun i => [(8, .int .i64 ((i : Nat) : Int))]) (fun i => [cl b7 67 ((tRow t s i).map Value.bool)]) (fun i => i ≤ 255) (fun i => 255 - i) (0) [1, 2, 6, 7, 9, 21, 22, 23, 24, 25, 26, 27, 28, 29, 30, 31, 32, 33] kpA (by (try dsimp only); repeat (first | with_reducible exact Gv.nil | (with_reducible apply Gv.cons; · (repeat (first | with_reducible exact Ext.here | with_reducible apply Ext.there))))) ?_ ?_ Sub.refl ?_
 ·exact Nat.zero_le _
 ·(try dsimp only); exact (Wk.cons lkA Wk.nil)
 ·rintro i hi K5 hK5
  simp only [List.cons_append, List.nil_append]
  refine WC_seq fun K6 hK6 => ?_
  refine WC_sr fun K7 hK7 => ?_
  refine WL_r (Rd_move rfl) rfl ?_
  refine WL_r (Rd_lssN (j := 255) rfl rfl) rfl ?_
  refine WL_end hK7 ?_
  refine WC_cond rfl (fun hc0 => ?_) (fun hc0 => ?_)
  ·try simp only [dz, ne_eq] at hc0
   refine WC_skip ?_
   refine Ps_next hK6 ?_
   refine WC_seq fun K8 hK8 => ?_
   refine WC_block ?_
   refine WC_region ?_
   refine WL_r (Rd_move rfl) rfl ?_
   refine WL_r (Rd_move rfl) rfl ?_
   refine WL_r (Rd_indexT1 s rfl rfl ud67 szR (by omega) (by omega)) rfl ?_
   refine WL_r (Rd_indexT2 i rfl rfl ud65 sz4 (by omega) (by omega)) rfl ?_
   refine WL_ac0 (Ac_store1 (ys := (tRow t s (i + 1)).map Value.bool) rfl rfl sz4 (hl := by rw [Nat.blt_eq, List.length_map, hr]; omega) (hr := trow_map)) rfl rfl ?_
   rintro _ _ rfl
   refine WL_nil ?_
   refine Ps_next hK8 ?_
   refine WC_region ?_
   refine WL_r (Rd_move rfl) rfl ?_
   refine WL_r (Rd_addN (j := 1) rfl rfl) rfl ?_
   refine WL_r (Rd_assign rfl) rfl ?_
   refine WL_nil ?_
   refine Ps_wkB (hK5 (i + 1) (by omega) (by omega))
  ·try simp only [dz, ne_eq] at hc0
   obtain rfl : i = 255 := by omega
   refine WC_exit ?_
   refine Ps_next hK3 ?_
   refine WC_seq fun K9 hK9 => ?_
   refine WC_sr fun K10 hK10 => ?_
   refine WL_r (Rd_assign rfl) rfl ?_
   refine WL_end hK10 ?_
   refine WC_block ?_
   rw [show cl b7 67 ((tRow t s 255).map Value.bool) = cl b7 67 ((tCol (tRow t s 255) z.toNat 0).map Value.bool) from rfl]
   refine WC_loopK (σ := Nat) (fun j => [(9, .int .i64 ((j : Nat) : Int))]) (fun j => [cl b7 67 ((tCol (tRow t s 255) z.toNat j).map Value.bool)]) (fun j => j ≤ 32 ∧ (z < 0 → j = 0)) (fun j => 32 - j) (0) [2, 6, 7, 33] kpA (by (try dsimp only); repeat (first | with_reducible exact Gv.nil | (with_reducible apply Gv.cons; · (repeat (first | with_reducible exact Ext.here | with_reducible apply Ext.there))))) ?_ ?_ Sub.refl ?_
   ·exact ⟨Nat.zero_le _, fun _ => rfl⟩
   ·(try dsimp only); exact (Wk.cons lkA Wk.nil)
   ·rintro j ⟨hj, hjz⟩ K11 hK11
    simp only [List.cons_append, List.nil_append]
    refine WC_seq fun K12 hK12 => ?_
    refine WC_sr fun K13 hK13 => ?_
    refine WL_r (Rd_move rfl) rfl ?_
    refine WL_r (Rd_lssN (j := 32) rfl rfl) rfl ?_
    refine WL_r (Rd_move rfl) rfl ?_
    refine WL_bool 23 rfl (fun hg14 => ?_) (fun hg14 => ?_)
    ·try simp only [dz, ne_eq] at hg14
     refine WL_r (Rd_move rfl) rfl ?_
     refine WL_r (Rd_geq rfl rfl) rfl ?_
     refine WL_r (Rd_pickT rfl rfl) rfl ?_
     refine WL_end hK13 ?_
     refine WC_cond rfl (fun hc1 => ?_) (fun hc1 => ?_)
     ·try simp only [dz, ne_eq] at hc1
      refine WC_skip ?_
      refine Ps_next hK12 ?_
      refine WC_seq fun K15 hK15 => ?_
      refine WC_block ?_
      refine WC_region ?_
      refine WL_r (Rd_move rfl) rfl ?_
      refine WL_r (Rd_move rfl) rfl ?_
      refine WL_r (Rd_indexT1 j rfl rfl ud67 szR (by omega) (by omega)) rfl ?_
      refine WL_r (Rd_indexT2 z.toNat rfl rfl ud65 sz4 (by omega) (by omega)) rfl ?_
      refine WL_ac0 (Ac_store1 (ys := (tCol (tRow t s 255) z.toNat (j + 1)).map Value.bool) rfl rfl sz4 (hl := by rw [Nat.blt_eq, List.length_map, hcl]; omega) (hr := tcol_map)) rfl rfl ?_
      rintro _ _ rfl
      refine WL_nil ?_
      refine Ps_next hK15 ?_
      refine WC_region ?_
      refine WL_r (Rd_move rfl) rfl ?_
      refine WL_r (Rd_addN (j := 1) rfl rfl) rfl ?_
      refine WL_r (Rd_assign rfl) rfl ?_
      refine WL_nil ?_
      refine Ps_wkB (hK11 (j + 1) (⟨by omega, fun _ => by omega⟩) (by omega))
     ·try simp only [dz, ne_eq] at hc1
      rw [wo_end (t := t) (s := s) hjz hj (by omega)]
      refine WC_exit ?_
      refine Ps_next hK9 ?_
      refine WC_sr fun K16 hK16 => ?_
      refine WL_r (Rd_loadg (vs := (tWo t s z).map Value.bool) rfl tkT (hl := tb_lt ((tWo_len t s z).trans ht)) (hi := tb_get ((tWo_len t s z).trans ht))) rfl ?_
      refine WL_ac0 (Ac_store (ys := (tWo t s z).map Value.bool) rfl rfl szT (hv := tb_sz ((tWo_len t s z).trans ht)) (hl := tb_le) (h1 := tb_one) (hr := tb_put)) rfl rfl ?_
      rintro _ _ rfl
      refine WL_end hK16 ?_
      refine WC_ret ?_
      exact hret.gf () (Rs1c rfl rfl tkT (xs := (tWo t s z).map Value.bool) (vs := (tWo t s z).map Value.bool) (hl := tb_lt ((tWo_len t s z).trans ht)) (hv := tb_get ((tWo_len t s z).trans ht)))
    ·try simp only [dz, ne_eq] at hg14
     refine WL_skip rfl rfl rfl ?_
     refine WL_skip rfl rfl rfl ?_
     refine WL_r (Rd_pickF rfl rfl) rfl ?_
     refine WL_end hK13 ?_
     refine WC_condF rfl ?_
     rw [wo_end (t := t) (s := s) hjz hj (by omega)]
     refine WC_exit ?_
     refine Ps_next hK9 ?_
     refine WC_sr fun K17 hK17 => ?_
     refine WL_r (Rd_loadg (vs := (tWo t s z).map Value.bool) rfl tkT (hl := tb_lt ((tWo_len t s z).trans ht)) (hi := tb_get ((tWo_len t s z).trans ht))) rfl ?_
     refine WL_ac0 (Ac_store (ys := (tWo t s z).map Value.bool) rfl rfl szT (hv := tb_sz ((tWo_len t s z).trans ht)) (hl := tb_le) (h1 := tb_one) (hr := tb_put)) rfl rfl ?_
     rintro _ _ rfl
     refine WL_end hK17 ?_
     refine WC_ret ?_
     exact hret.gf () (Rs1c rfl rfl tkT (xs := (tWo t s z).map Value.bool) (vs := (tWo t s z).map Value.bool) (hl := tb_lt ((tWo_len t s z).trans ht)) (hv := tb_get ((tWo_len t s z).trans ht)))
end Go.Proofs.Ytilmiikfjcdllaa
namespace Go.Proofs.Ytilmiikfjcdllaa
open Go.RowKit Go.SL Go.ShM Go.HyM Go.Fl Go.SvM
set_option maxHeartbeats 1000000
set_option maxRecDepth 20000
set_option linter.all false
theorem cf40 : cfn Try.prog 40 = true := by kernel_rfl
theorem cf41 : cfn Try.prog 41 = true := by kernel_rfl
theorem cf42 : cfn Try.prog 42 = true := by kernel_rfl
theorem Look3_ct {X : Asn} {v : Value} {ps : List Pr} {ao : Option Addr} {cap : Nat} (hS : Sv [X] v 2 ePr ps ao cap) (hn : ps.length ≤ 100000000) (hm : mayP ps) : Ct Try.prog 19 [v] [X] (fun _ : Unit => .agg ([.int .i64 (((cntM (lookP ps) Prod.fst) : Nat) : Int), .int .i64 (((cntM (lookP ps) Prod.snd) : Nat) : Int), .int .i64 (((sizeM (lookP ps)) : Nat) : Int)] : List Value).toArray) (fun _ => [X]) := by
 refine Ct_body (n := 46) Try.func19 rfl rfl rfl fun F w0 Q hret hnorm hp => ?_
 change WC _ _ _ _ _ _ _ (_ :: F)
 refine WC_sr fun K1 hK1 => ?_
 refine WL_ac (Ac_alloc zr27) rfl rfl rfl ?_
 rintro _ _ ⟨b2, rfl, rfl⟩
 refine WL_end hK1 ?_
 refine WC_sr fun K2 hK2 => ?_
 refine WL_r (Rd_move rfl) rfl ?_
 refine WL_ac (Ac_call cf40 rfl (hs := table_ct (X := X) (ps := ps) hS hn hm.2)) rfl rfl rfl ?_
 rintro _ _ ⟨⟨t, ht⟩, rfl, hA⟩
 simp only [List.cons_append, List.nil_append] at hA
 replace hA := hA.symm
 subst hA
 refine WL_ac (Ac_alloc zrT) rfl rfl rfl ?_
 rintro _ _ ⟨b3, rfl, rfl⟩
 refine WL_ac0 (Ac_store (ys := t.map Value.bool) rfl rfl szT (hv := tb_sz ht.1) (hl := tb_le) (h1 := tb_one) (hr := tb_put)) rfl rfl ?_
 rintro _ _ rfl
 refine WL_end hK2 ?_
 refine WC_sr fun K3 hK3 => ?_
 refine WL_ac (Ac_alloc zr27) rfl rfl rfl ?_
 rintro _ _ ⟨b4, rfl, rfl⟩
 refine WL_end hK3 ?_
 refine WC_sr fun K4 hK4 => ?_
 refine WL_ac (Ac_alloc zrN) rfl rfl rfl ?_
 rintro _ _ ⟨b5, rfl, rfl⟩
 rw [nbL_0 t]
 refine WL_end hK4 ?_
 refine WC_seq fun K5 hK5 => ?_
 refine WC_sr fun K6 hK6 => ?_
 refine WL_r (Rd_assign rfl) rfl ?_
 refine WL_end hK6 ?_
 refine WC_block ?_
 rw [show cl b4 27 [.int .i64 0, .int .i64 0, .int .i64 0] = cl b4 27 [.int .i64 (((cN (fun s => hasL t s 255) 0) : Nat) : Int), .int .i64 0, .int .i64 0] from rfl]
 refine WC_loopK (σ := Nat) (fun s => [(6, .int .i64 ((s : Nat) : Int))]) (fun s => [cl b5 65 ((nbL t s 0).map Value.bool), cl b4 27 [.int .i64 (((cN (fun s => hasL t s 255) s) : Nat) : Int), .int .i64 0, .int .i64 0]]) (fun s => s ≤ 32) (fun s => 32 - s) (0) [2, 3, 4, 5, 9, 32, 33, 34, 35, 36, 37, 38, 39, 40, 41, 42, 43, 44, 45] kpA (by (try dsimp only); repeat (first | with_reducible exact Gv.nil | (with_reducible apply Gv.cons; · (repeat (first | with_reducible exact Ext.here | with_reducible apply Ext.there))))) ?_ ?_ Sub.refl ?_
 ·exact Nat.zero_le _
 ·(try dsimp only); exact (Wk.cons lkA Wk.nil)
 ·rintro s hs K7 hK7
  simp only [List.cons_append, List.nil_append]
  have hcb := cN_le (fun s => hasL t s 255) s
  refine WC_seq fun K8 hK8 => ?_
  refine WC_sr fun K9 hK9 => ?_
  refine WL_r (Rd_move rfl) rfl ?_
  refine WL_r (Rd_lssN (j := 32) rfl rfl) rfl ?_
  refine WL_end hK9 ?_
  refine WC_cond rfl (fun hc0 => ?_) (fun hc0 => ?_)
  ·try simp only [dz, ne_eq] at hc0
   refine WC_skip ?_
   refine Ps_next hK8 ?_
   refine WC_seq fun K10 hK10 => ?_
   refine WC_block ?_
   refine WC_sr fun K11 hK11 => ?_
   refine WL_r (Rd_assign rfl) rfl ?_
   refine WL_end hK11 ?_
   refine WC_seq fun K12 hK12 => ?_
   refine WC_sr fun K13 hK13 => ?_
   refine WL_r (Rd_assign rfl) rfl ?_
   refine WL_end hK13 ?_
   refine WC_block ?_
   refine WC_loopK (σ := Nat) (fun n => [(7, .bool (hasL t s n)), (8, .int .i64 ((n : Nat) : Int))]) (fun n => [cl b5 65 ((nbL t s n).map Value.bool)]) (fun n => n ≤ 255) (fun n => 255 - n) (0) [2, 3, 4, 5, 6, 9, 12, 13, 14, 15, 27, 28, 29, 30, 31, 32, 33, 34, 35, 36, 37, 38, 39, 40, 41, 42, 43, 44, 45] kpA (by (try dsimp only); repeat (first | with_reducible exact Gv.nil | (with_reducible apply Gv.cons; · (repeat (first | with_reducible exact Ext.here | with_reducible apply Ext.there))))) ?_ ?_ Sub.refl ?_
   ·exact Nat.zero_le _
   ·(try dsimp only); exact (Wk.cons lkA (Wk.cons lkA Wk.nil))
   ·rintro n hn1 K14 hK14
    simp only [List.cons_append, List.nil_append]
    refine WC_seq fun K15 hK15 => ?_
    refine WC_sr fun K16 hK16 => ?_
    refine WL_r (Rd_move rfl) rfl ?_
    refine WL_r (Rd_lssN (j := 255) rfl rfl) rfl ?_
    refine WL_end hK16 ?_
    refine WC_cond rfl (fun hc1 => ?_) (fun hc1 => ?_)
    ·try simp only [dz, ne_eq] at hc1
     refine WC_skip ?_
     refine Ps_next hK15 ?_
     refine WC_seq fun K17 hK17 => ?_
     refine WC_block ?_
     refine WC_sr fun K18 hK18 => ?_
     refine WL_r (Rd_move rfl) rfl ?_
     refine WL_r (Rd_move rfl) rfl ?_
     refine WL_r (Rd_indexT1 s rfl rfl ud67 szR (by omega) (by omega)) rfl ?_
     refine WL_r (Rd_indexT2 n rfl rfl ud65 sz4 (by omega) (by omega)) rfl ?_
     refine WL_r (Rd_load rfl tk4 (v := .bool (tAt t s n)) (hi := tAt_get ht.1 (by omega) (by omega))) rfl ?_
     refine WL_end hK18 ?_
     refine WC_cond rfl (fun hc2 => ?_) (fun hc2 => ?_)
     ·try simp only [dz, ne_eq] at hc2
      have htn : tAt t s n = true := by first | assumption | simp_all
      have hhs : true = hasL t s (n + 1) := by rw [hasL_succ, htn, Bool.or_true]
      refine WC_sr fun K19 hK19 => ?_
      refine WL_r (Rd_valE (v := .bool (hasL t s (n + 1))) (Rd_assign rfl) (congrArg Value.bool (by rw [hasL_succ, htn, Bool.or_true]))) rfl ?_
      refine WL_end hK19 ?_
      refine WC_region ?_
      refine WL_r (Rd_move rfl) rfl ?_
      refine WL_r (Rd_indexB n rfl rfl ud65 sz4 (by omega) (by omega)) rfl ?_
      refine WL_ac0 (Ac_store1 (ys := (nbL t s (n + 1)).map Value.bool) rfl rfl sz4 (hl := by rw [Nat.blt_eq, List.length_map, nbL_len]; omega) (hr := nbL_set (by omega) htn)) rfl rfl ?_
      rintro _ _ rfl
      refine WL_nil ?_
      refine Ps_next hK17 ?_
      refine WC_region ?_
      refine WL_r (Rd_move rfl) rfl ?_
      refine WL_r (Rd_addN (j := 1) rfl rfl) rfl ?_
      refine WL_r (Rd_assign rfl) rfl ?_
      refine WL_nil ?_
      refine Ps_wkB (hK14 (n + 1) (by omega) (by omega))
     ·try simp only [dz, ne_eq] at hc2
      have htn : tAt t s n = false := by first | assumption | simp_all
      have hhs : hasL t s n = hasL t s (n + 1) := by rw [hasL_succ, htn, Bool.or_false]
      refine WC_skip ?_
      refine Ps_next hK17 ?_
      refine WC_region ?_
      rw [nbL_no htn, hhs]
      refine WL_r (Rd_move rfl) rfl ?_
      refine WL_r (Rd_addN (j := 1) rfl rfl) rfl ?_
      refine WL_r (Rd_assign rfl) rfl ?_
      refine WL_nil ?_
      refine Ps_wkB (hK14 (n + 1) (by omega) (by omega))
    ·try simp only [dz, ne_eq] at hc1
     obtain rfl : n = 255 := by omega
     rw [nbL_end]
     refine WC_exit ?_
     refine Ps_next hK12 ?_
     refine WC_sr fun K20 hK20 => ?_
     refine WL_r (Rd_move rfl) rfl ?_
     refine WL_end hK20 ?_
     refine WC_cond rfl (fun hc3 => ?_) (fun hc3 => ?_)
     ·try simp only [dz, ne_eq] at hc3
      have hst : hasL t s 255 = true := by first | assumption | simp_all
      have hcs : (cN (fun s => hasL t s 255) s) + 1 = (cN (fun s => hasL t s 255) (s + 1)) := by rw [cN_succ, if_pos hst]
      refine WC_region ?_
      refine WL_r (Rd_fieldAddr rfl fo27_0) rfl ?_
      refine WL_r (Rd_load rfl tk3 (v := .int .i64 (((cN (fun s => hasL t s 255) s) : Nat) : Int))) rfl ?_
      refine WL_r (Rd_addN (j := 1) rfl rfl) rfl ?_
      refine WL_r (Rd_fieldAddr rfl fo27_0) rfl ?_
      refine WL_ac0 (Ac_store1 rfl rfl sz3) rfl rfl ?_
      rintro _ _ rfl
      refine WL_nil ?_
      refine Ps_next hK10 ?_
      refine WC_region ?_
      rw [hcs]
      refine WL_r (Rd_move rfl) rfl ?_
      refine WL_r (Rd_addN (j := 1) rfl rfl) rfl ?_
      refine WL_r (Rd_assign rfl) rfl ?_
      refine WL_nil ?_
      refine Ps_wkB (hK7 (s + 1) (by omega) (by omega))
     ·try simp only [dz, ne_eq] at hc3
      have hst : ¬ hasL t s 255 = true := by first | assumption | simp_all
      have hcs : (cN (fun s => hasL t s 255) s) = (cN (fun s => hasL t s 255) (s + 1)) := by rw [cN_succ, if_neg hst]; rfl
      refine WC_skip ?_
      refine Ps_next hK10 ?_
      refine WC_region ?_
      rw [hcs]
      refine WL_r (Rd_move rfl) rfl ?_
      refine WL_r (Rd_addN (j := 1) rfl rfl) rfl ?_
      refine WL_r (Rd_assign rfl) rfl ?_
      refine WL_nil ?_
      refine Ps_wkB (hK7 (s + 1) (by omega) (by omega))
  ·try simp only [dz, ne_eq] at hc0
   obtain rfl : s = 32 := by omega
   refine WC_exit ?_
   refine Ps_next hK5 ?_
   refine WC_seq fun K21 hK21 => ?_
   refine WC_sr fun K22 hK22 => ?_
   refine WL_r (Rd_assign rfl) rfl ?_
   refine WL_end hK22 ?_
   refine WC_block ?_
   rw [show cl b4 27 [.int .i64 (((cN (fun s => hasL t s 255) 32) : Nat) : Int), .int .i64 0, .int .i64 0] = cl b4 27 [.int .i64 (((cN (fun s => hasL t s 255) 32) : Nat) : Int), .int .i64 (((cN (fun n => anyN t n) 0) : Nat) : Int), .int .i64 0] from rfl]
   refine WC_loopK (σ := Nat) (fun n2 => [(9, .int .i64 ((n2 : Nat) : Int))]) (fun n2 => [cl b4 27 [.int .i64 (((cN (fun s => hasL t s 255) 32) : Nat) : Int), .int .i64 (((cN (fun n => anyN t n) n2) : Nat) : Int), .int .i64 0]]) (fun n2 => n2 ≤ 255) (fun n2 => 255 - n2) (0) [2, 3, 4, 5, 43, 44, 45] kpA (by (try dsimp only); repeat (first | with_reducible exact Gv.nil | (with_reducible apply Gv.cons; · (repeat (first | with_reducible exact Ext.here | with_reducible apply Ext.there))))) ?_ ?_ Sub.refl ?_
   ·exact Nat.zero_le _
   ·(try dsimp only); exact (Wk.cons lkA Wk.nil)
   ·rintro n2 hn2 K23 hK23
    simp only [List.cons_append, List.nil_append]
    have hcb := cN_le (fun n => anyN t n) n2
    refine WC_seq fun K24 hK24 => ?_
    refine WC_sr fun K25 hK25 => ?_
    refine WL_r (Rd_move rfl) rfl ?_
    refine WL_r (Rd_lssN (j := 255) rfl rfl) rfl ?_
    refine WL_end hK25 ?_
    refine WC_cond rfl (fun hc4 => ?_) (fun hc4 => ?_)
    ·try simp only [dz, ne_eq] at hc4
     refine WC_skip ?_
     refine Ps_next hK24 ?_
     refine WC_seq fun K26 hK26 => ?_
     refine WC_block ?_
     refine WC_sr fun K27 hK27 => ?_
     refine WL_r (Rd_move rfl) rfl ?_
     refine WL_r (Rd_indexB n2 rfl rfl ud65 sz4 (by omega) (by omega)) rfl ?_
     refine WL_r (Rd_load rfl tk4 (v := .bool (anyN t n2)) (hi := nbL_get (by omega))) rfl ?_
     refine WL_end hK27 ?_
     refine WC_cond rfl (fun hc5 => ?_) (fun hc5 => ?_)
     ·try simp only [dz, ne_eq] at hc5
      have hst : anyN t n2 = true := by first | assumption | simp_all
      have hcs : (cN (fun n => anyN t n) n2) + 1 = (cN (fun n => anyN t n) (n2 + 1)) := by rw [cN_succ, if_pos hst]
      refine WC_region ?_
      refine WL_r (Rd_fieldAddr rfl fo27_1) rfl ?_
      refine WL_r (Rd_load rfl tk3 (v := .int .i64 (((cN (fun n => anyN t n) n2) : Nat) : Int))) rfl ?_
      refine WL_r (Rd_addN (j := 1) rfl rfl) rfl ?_
      refine WL_r (Rd_fieldAddr rfl fo27_1) rfl ?_
      refine WL_ac0 (Ac_store1 rfl rfl sz3) rfl rfl ?_
      rintro _ _ rfl
      refine WL_nil ?_
      refine Ps_next hK26 ?_
      refine WC_region ?_
      rw [hcs]
      refine WL_r (Rd_move rfl) rfl ?_
      refine WL_r (Rd_addN (j := 1) rfl rfl) rfl ?_
      refine WL_r (Rd_assign rfl) rfl ?_
      refine WL_nil ?_
      refine Ps_wkB (hK23 (n2 + 1) (by omega) (by omega))
     ·try simp only [dz, ne_eq] at hc5
      have hst : ¬ anyN t n2 = true := by first | assumption | simp_all
      have hcs : (cN (fun n => anyN t n) n2) = (cN (fun n => anyN t n) (n2 + 1)) := by rw [cN_succ, if_neg hst]; rfl
      refine WC_skip ?_
      refine Ps_next hK26 ?_
      refine WC_region ?_
      rw [hcs]
      refine WL_r (Rd_move rfl) rfl ?_
      refine WL_r (Rd_addN (j := 1) rfl rfl) rfl ?_
      refine WL_r (Rd_assign rfl) rfl ?_
      refine WL_nil ?_
      refine Ps_wkB (hK23 (n2 + 1) (by omega) (by omega))
    ·try simp only [dz, ne_eq] at hc4
     obtain rfl : n2 = 255 := by omega
     rw [cnt_fst ht, cnt_snd ht]
     refine WC_exit ?_
     refine Ps_next hK21 ?_
     refine WC_sr fun K28 hK28 => ?_
     refine WL_ac (Ac_call cf41 rfl (hs := great_ct (t := t) (pT := b3) ht.1)) rfl rfl rfl ?_
     rintro _ _ ⟨⟨⟩, rfl, hA⟩
     simp only [List.cons_append, List.nil_append] at hA
     replace hA := hA.symm
     subst hA
     rw [size_tab ht]
     refine WL_r (Rd_fieldAddr rfl fo27_2) rfl ?_
     refine WL_ac0 (Ac_store1 rfl rfl sz3) rfl rfl ?_
     rintro _ _ rfl
     refine WL_end hK28 ?_
     refine WC_sr fun K29 hK29 => ?_
     refine WL_r (Rd_loadg (vs := [.int .i64 (((cntM (lookP ps) Prod.fst) : Nat) : Int), .int .i64 (((cntM (lookP ps) Prod.snd) : Nat) : Int), .int .i64 (((sizeM (lookP ps)) : Nat) : Int)]) rfl tk27) rfl ?_
     refine WL_ac0 (Ac_store (ys := [.int .i64 (((cntM (lookP ps) Prod.fst) : Nat) : Int), .int .i64 (((cntM (lookP ps) Prod.snd) : Nat) : Int), .int .i64 (((sizeM (lookP ps)) : Nat) : Int)]) rfl rfl sz27 (h1 := by simp [setAt, Value.cells, Value.oneCell']) (hr := rfl)) rfl rfl ?_
     rintro _ _ rfl
     refine WL_end hK29 ?_
     refine WC_ret ?_
     exact hret.gf () (Rs1c rfl rfl tk27)

theorem Match3_ct {X : Asn} {v : Value} {ps : List Pr} {ao : Option Addr} {cap : Nat} (hS : Sv [X] v 2 ePr ps ao cap) (hn : ps.length ≤ 100000000) (hm : mayP ps) : Ct Try.prog 20 [v] [X] (fun g : Option Nat × Nat => sl g.1 (matM (sizeM (lookP ps)) (lookP ps)).length g.2) (fun g => [X, arr g.1 g.2 2 24 ePr (matM (sizeM (lookP ps)) (lookP ps))]) := by
 refine Ct_body (n := 49) Try.func20 rfl rfl rfl fun F w0 Q hret hnorm hp => ?_
 change WC _ _ _ _ _ _ _ (_ :: F)
 refine WC_sr fun K1 hK1 => ?_
 refine WL_r (Rd_assign (v := sl none 0 0) rfl) rfl ?_
 refine WL_end hK1 ?_
 refine WC_sr fun K2 hK2 => ?_
 refine WL_r (Rd_move rfl) rfl ?_
 refine WL_ac (Ac_call cf40 rfl (hs := table_ct (X := X) (ps := ps) hS hn hm.2)) rfl rfl rfl ?_
 rintro _ _ ⟨⟨t, ht⟩, rfl, hA⟩
 simp only [List.cons_append, List.nil_append] at hA
 replace hA := hA.symm
 subst hA
 refine WL_ac (Ac_alloc zrT) rfl rfl rfl ?_
 rintro _ _ ⟨b3, rfl, rfl⟩
 refine WL_ac0 (Ac_store (ys := t.map Value.bool) rfl rfl szT (hv := tb_sz ht.1) (hl := tb_le) (h1 := tb_one) (hr := tb_put)) rfl rfl ?_
 rintro _ _ rfl
 refine WL_end hK2 ?_
 refine WC_sr fun K3 hK3 => ?_
 refine WL_ac (Ac_call cf41 rfl (hs := great_ct (t := t) (pT := b3) ht.1)) rfl rfl rfl ?_
 rintro _ _ ⟨⟨⟩, rfl, hA⟩
 simp only [List.cons_append, List.nil_append] at hA
 replace hA := hA.symm
 subst hA
 rw [size_tab ht]
 refine WL_r (Rd_assign rfl) rfl ?_
 refine WL_end hK3 ?_
 refine WC_sr fun K4 hK4 => ?_
 refine WL_r (Rd_assign (v := sl none 0 0) rfl) rfl ?_
 refine WL_nilarr ePr 2 24 ?_
 refine WL_end hK4 ?_
 refine WC_seq fun K5 hK5 => ?_
 refine WC_sr fun K6 hK6 => ?_
 refine WL_r (Rd_assign rfl) rfl ?_
 refine WL_end hK6 ?_
 refine WC_block ?_
 refine WC_loopK (σ := Nat × (List Bool) × Nat × (List Pr) × (List Pr) × (Option Nat) × Nat) (fun ⟨s, t, w, l, out, a, c⟩ => [(4, .int .i64 ((w : Nat) : Int)), (5, sl a out.length c), (6, .int .i64 ((s : Nat) : Int))]) (fun ⟨s, t, w, l, out, a, c⟩ => [cl b3 67 (t.map Value.bool), arr a c 2 24 ePr out]) (fun ⟨s, t, w, l, out, a, c⟩ => (s ≤ 32 ∧ out.length ≤ s) ∧ MaI (matM (sizeM (lookP ps)) (lookP ps)) s t out w l) (fun ⟨s, t, w, l, out, a, c⟩ => 32 - s) ⟨0, t, (sizeM (lookP ps)), (lookP ps), [], none, 0⟩ [2, 3, 48] kpA (by (try dsimp only); repeat (first | with_reducible exact Gv.nil | (with_reducible apply Gv.cons; · (repeat (first | with_reducible exact Ext.here | with_reducible apply Ext.there))))) ?_ ?_ Sub.refl ?_
 ·exact ⟨⟨Nat.zero_le _, Nat.le_refl _⟩, ma_beg ht hm.2⟩
 ·(try dsimp only); exact (Wk.cons lkA (Wk.cons lkA (Wk.cons lkA Wk.nil)))
 ·rintro ⟨s, t, w, l, out, a, c⟩ ⟨hs, hma⟩ K7 hK7
  simp only [List.cons_append, List.nil_append]
  have hw32 : w ≤ 32 := hma.sz ▸ sizeM_le l
  refine WC_seq fun K8 hK8 => ?_
  refine WC_sr fun K9 hK9 => ?_
  refine WL_r (Rd_move rfl) rfl ?_
  refine WL_r (Rd_lssN (j := 32) rfl rfl) rfl ?_
  refine WL_r (Rd_move rfl) rfl ?_
  refine WL_bool 14 rfl (fun hg10 => ?_) (fun hg10 => ?_)
  ·try simp only [dz, ne_eq] at hg10
   refine WL_r (Rd_move rfl) rfl ?_
   refine WL_r (Rd_gtrN (j := 0) rfl rfl) rfl ?_
   refine WL_r (Rd_pickT rfl rfl) rfl ?_
   refine WL_end hK9 ?_
   refine WC_cond rfl (fun hc0 => ?_) (fun hc0 => ?_)
   ·try simp only [dz, ne_eq] at hc0
    refine WC_skip ?_
    refine Ps_next hK8 ?_
    refine WC_seq fun K11 hK11 => ?_
    refine WC_block ?_
    refine WC_seq fun K12 hK12 => ?_
    refine WC_sr fun K13 hK13 => ?_
    refine WL_r (Rd_assign rfl) rfl ?_
    refine WL_end hK13 ?_
    refine WC_block ?_
    refine WC_loopK (σ := Nat) (fun n => [(4, .int .i64 ((w : Nat) : Int)), (5, sl a out.length c), (7, .int .i64 ((n : Nat) : Int))]) (fun n => []) (fun n => n ≤ 255 ∧ MbI (matM (sizeM (lookP ps)) (lookP ps)) s n t out w l) (fun n => 255 - n) (0) [2, 3, 6, 12, 13, 14, 15, 16, 17, 18, 19, 46, 47, 48] kpA (by (try dsimp only); repeat (first | with_reducible exact Gv.nil | (with_reducible apply Gv.cons; · (repeat (first | with_reducible exact Ext.here | with_reducible apply Ext.there))))) ?_ ?_ Sub.refl ?_
    ·exact ⟨Nat.zero_le _, mb_beg hma⟩
    ·(try dsimp only); exact (Wk.cons lkA (Wk.cons lkA (Wk.cons lkA Wk.nil)))
    ·rintro n ⟨hn1, hmb⟩ K14 hK14
     simp only [List.cons_append, List.nil_append]
     refine WC_seq fun K15 hK15 => ?_
     refine WC_sr fun K16 hK16 => ?_
     refine WL_r (Rd_move rfl) rfl ?_
     refine WL_r (Rd_lssN (j := 255) rfl rfl) rfl ?_
     refine WL_end hK16 ?_
     refine WC_cond rfl (fun hc1 => ?_) (fun hc1 => ?_)
     ·try simp only [dz, ne_eq] at hc1
      refine WC_skip ?_
      refine Ps_next hK15 ?_
      refine WC_seq fun K17 hK17 => ?_
      refine WC_block ?_
      refine WC_seq fun K18 hK18 => ?_
      refine WC_sr fun K19 hK19 => ?_
      refine WL_r (Rd_move rfl) rfl ?_
      refine WL_r (Rd_move rfl) rfl ?_
      refine WL_r (Rd_indexT1 s rfl rfl ud67 szR (by omega) (by omega)) rfl ?_
      refine WL_r (Rd_indexT2 n rfl rfl ud65 sz4 (by omega) (by omega)) rfl ?_
      refine WL_r (Rd_load rfl tk4 (v := .bool (tAt t s n)) (hi := tAt_get hma.tb.1 (by omega) (by omega))) rfl ?_
      refine WL_r (Rd_not rfl) rfl ?_
      refine WL_end hK19 ?_
      refine WC_cond rfl (fun hc2 => ?_) (fun hc2 => ?_)
      ·try simp only [dz, ne_eq] at hc2
       have htn : tAt t s n = false := by first | assumption | simp_all
       refine WC_exit ?_
       refine Ps_next hK17 ?_
       refine WC_region ?_
       refine WL_r (Rd_move rfl) rfl ?_
       refine WL_r (Rd_addN (j := 1) rfl rfl) rfl ?_
       refine WL_r (Rd_assign rfl) rfl ?_
       refine WL_nil ?_
       refine Ps_wkB (hK14 (n + 1) (⟨by omega, mb_skip hmb (by omega) (by omega) htn⟩) (by omega))
      ·try simp only [dz, ne_eq] at hc2
       have htn : tAt t s n = true := by first | assumption | simp_all
       refine WC_skip ?_
       refine Ps_next hK18 ?_
       refine WC_sr fun K20 hK20 => ?_
       refine WL_r (Rd_move rfl) rfl ?_
       refine WL_r (Rd_move rfl) rfl ?_
       refine WL_ac (Ac_call cf42 rfl (hs := wo_ct (t := t) (pT := b3) (s := s) (z := ((n : Nat) : Int)) hma.tb.1 (by omega) (by omega))) rfl rfl rfl ?_
       rintro _ _ ⟨⟨⟩, rfl, hA⟩
       simp only [List.cons_append, List.nil_append] at hA
       replace hA := hA.symm
       subst hA
       refine WL_ac (Ac_alloc zrT) rfl rfl rfl ?_
       rintro _ _ ⟨b8, rfl, rfl⟩
       refine WL_ac0 (Ac_store (ys := (tWo t s ((n : Nat) : Int)).map Value.bool) rfl rfl szT (hv := tb_sz ((tWo_len _ _ _).trans hma.tb.1)) (hl := tb_le) (h1 := tb_one) (hr := tb_put)) rfl rfl ?_
       rintro _ _ rfl
       refine WL_end hK20 ?_
       refine WC_sr fun K21 hK21 => ?_
       refine WL_ac (Ac_call cf41 rfl (hs := great_ct (t := (tWo t s ((n : Nat) : Int))) (pT := b8) ((tWo_len _ _ _).trans hma.tb.1))) rfl rfl rfl ?_
       rintro _ _ ⟨⟨⟩, rfl, hA⟩
       simp only [List.cons_append, List.nil_append] at hA
       replace hA := hA.symm
       subst hA
       refine WL_r (Rd_move rfl) rfl ?_
       refine WL_r (Rd_subN (j := 1) rfl rfl) rfl ?_
       refine WL_r (Rd_eqlN rfl rfl) rfl ?_
       refine WL_end hK21 ?_
       refine WC_cond rfl (fun hc3 => ?_) (fun hc3 => ?_)
       ·try simp only [dz, ne_eq] at hc3
        have hmy := mb_yes hmb (by omega) (by omega) htn (by first | omega | (simp_all; omega))
        refine WC_sr fun K22 hK22 => ?_
        refine WL_r (Rd_move rfl) rfl ?_
        refine WL_r (Rd_move rfl) rfl ?_
        refine WL_r (Rd_move rfl) rfl ?_
        refine WL_r (Rd_valE (v := .agg (ePr (((s : Nat) : Int), ((n : Nat) : Int))).toArray) (Rd_build pls24 rfl) rfl) rfl ?_
        refine WL_ac (Ac_bs1 (xs := ePr (((s : Nat) : Int), ((n : Nat) : Int))) rfl ud22 zr24 sz24 (hl := encPr.len _)) rfl rfl rfl ?_
        rintro _ _ ⟨b41, rfl, rfl⟩
        refine WL_ac (Ac_append1 (f := ePr) encPr (((s : Nat) : Int), ((n : Nat) : Int)) rfl rfl ud22 ud22 el24) rfl rfl rfl ?_
        rintro _ _ ⟨a42, cap42, rfl, rfl⟩
        rw [show out.length + 1 = (out ++ [(((s : Nat) : Int), ((n : Nat) : Int))]).length from by rw [List.length_append]; rfl]
        refine WL_r (Rd_assign rfl) rfl ?_
        refine WL_end hK22 ?_
        refine WC_sr fun K23 hK23 => ?_
        refine WL_r (Rd_move rfl) rfl ?_
        refine WL_r (Rd_subN (j := 1) rfl rfl) rfl ?_
        refine WL_r (Rd_assign rfl) rfl ?_
        refine WL_end hK23 ?_
        refine WC_sr fun K24 hK24 => ?_
        refine WL_r (Rd_loadg (vs := (tWo t s ((n : Nat) : Int)).map Value.bool) rfl tkT (hl := tb_lt ((tWo_len _ _ _).trans hma.tb.1)) (hi := tb_get ((tWo_len _ _ _).trans hma.tb.1))) rfl ?_
        refine WL_ac0 (Ac_store (ys := (tWo t s ((n : Nat) : Int)).map Value.bool) rfl rfl szT (hv := tb_sz ((tWo_len _ _ _).trans hma.tb.1)) (hl := tb_le2 hma.tb.1) (h1 := tb_one) (hr := tb_put2 hma.tb.1)) rfl rfl ?_
        rintro _ _ rfl
        refine WL_end hK24 ?_
        refine WC_exit ?_
        refine Ps_next hK12 ?_
        refine WC_region ?_
        refine WL_r (Rd_move rfl) rfl ?_
        refine WL_ac (Ac_call cf42 rfl (hs := wo_ct (t := (tWo t s ((n : Nat) : Int))) (pT := b3) (s := s) (z := -1) ((tWo_len _ _ _).trans hma.tb.1) (by omega) (by omega))) rfl rfl rfl ?_
        rintro _ _ ⟨⟨⟩, rfl, hA⟩
        simp only [List.cons_append, List.nil_append] at hA
        replace hA := hA.symm
        subst hA
        refine WL_ac0 (Ac_store (ys := (tWo (tWo t s ((n : Nat) : Int)) s (-1)).map Value.bool) rfl rfl szT (hv := tb_sz ((tWo_len _ _ _).trans ((tWo_len _ _ _).trans hma.tb.1))) (hl := tb_le2 ((tWo_len _ _ _).trans hma.tb.1)) (h1 := tb_one) (hr := tb_put2 ((tWo_len _ _ _).trans hma.tb.1))) rfl rfl ?_
        rintro _ _ rfl
        refine WL_nil ?_
        refine Ps_next hK11 ?_
        refine WC_region ?_
        refine WL_r (Rd_move rfl) rfl ?_
        refine WL_r (Rd_addN (j := 1) rfl rfl) rfl ?_
        refine WL_r (Rd_assign rfl) rfl ?_
        refine WL_nil ?_
        refine Ps_wkB (hK7 ⟨s + 1, (tWo (tWo t s ((n : Nat) : Int)) s (-1)), w - 1, leftP l (((s : Nat) : Int), ((n : Nat) : Int)), out ++ [(((s : Nat) : Int), ((n : Nat) : Int))], a42, cap42⟩ (⟨by (try dsimp only); rw [List.length_append]; dsimp only [List.length_cons, List.length_nil]; omega, hmy⟩) (by (try dsimp only); omega))
       ·try simp only [dz, ne_eq] at hc3
        have hmn := mb_no hmb (by omega) (by omega) (by first | omega | (simp_all; omega))
        refine WC_skip ?_
        refine Ps_next hK17 ?_
        refine WC_region ?_
        refine WL_r (Rd_move rfl) rfl ?_
        refine WL_r (Rd_addN (j := 1) rfl rfl) rfl ?_
        refine WL_r (Rd_assign rfl) rfl ?_
        refine WL_nil ?_
        refine Ps_wkB (hK14 (n + 1) (⟨by omega, hmn⟩) (by omega))
     ·try simp only [dz, ne_eq] at hc1
      obtain rfl : n = 255 := by omega
      have hme := mb_end hmb (by omega)
      refine WC_exit ?_
      refine Ps_next hK12 ?_
      refine WC_region ?_
      refine WL_r (Rd_move rfl) rfl ?_
      refine WL_ac (Ac_call cf42 rfl (hs := wo_ct (t := t) (pT := b3) (s := s) (z := -1) hma.tb.1 (by omega) (by omega))) rfl rfl rfl ?_
      rintro _ _ ⟨⟨⟩, rfl, hA⟩
      simp only [List.cons_append, List.nil_append] at hA
      replace hA := hA.symm
      subst hA
      refine WL_ac0 (Ac_store (ys := (tWo t s (-1)).map Value.bool) rfl rfl szT (hv := tb_sz ((tWo_len _ _ _).trans hma.tb.1)) (hl := tb_le2 hma.tb.1) (h1 := tb_one) (hr := tb_put2 hma.tb.1)) rfl rfl ?_
      rintro _ _ rfl
      refine WL_nil ?_
      refine Ps_next hK11 ?_
      refine WC_region ?_
      refine WL_r (Rd_move rfl) rfl ?_
      refine WL_r (Rd_addN (j := 1) rfl rfl) rfl ?_
      refine WL_r (Rd_assign rfl) rfl ?_
      refine WL_nil ?_
      refine Ps_wkB (hK7 ⟨s + 1, (tWo t s (-1)), w, l, out, a, c⟩ (⟨by (try dsimp only); omega, hme⟩) (by (try dsimp only); omega))
   ·try simp only [dz, ne_eq] at hc0
    obtain rfl := ma_end hma (by omega)
    refine WC_exit ?_
    refine Ps_next hK5 ?_
    refine WC_sr fun K25 hK25 => ?_
    refine WL_r (Rd_move rfl) rfl ?_
    refine WL_r (Rd_assign rfl) rfl ?_
    refine WL_end hK25 ?_
    refine WC_ret ?_
    exact hret.gf (a, c) (Rs1 rfl rfl)
  ·try simp only [dz, ne_eq] at hg10
   refine WL_skip rfl rfl rfl ?_
   refine WL_skip rfl rfl rfl ?_
   refine WL_r (Rd_pickF rfl rfl) rfl ?_
   refine WL_end hK9 ?_
   refine WC_condF rfl ?_
   obtain rfl := ma_end hma (by omega)
   refine WC_exit ?_
   refine Ps_next hK5 ?_
   refine WC_sr fun K26 hK26 => ?_
   refine WL_r (Rd_move rfl) rfl ?_
   refine WL_r (Rd_assign rfl) rfl ?_
   refine WL_end hK26 ?_
   refine WC_ret ?_
   exact hret.gf (a, c) (Rs1 rfl rfl)
end Go.Proofs.Ytilmiikfjcdllaa
namespace Go.Proofs.Ytilmiikfjcdllaa
open Go.RowKit Go.SL Go.ShM Go.HyM Go.Fl Go.SvM
set_option maxHeartbeats 1000000
set_option maxRecDepth 20000
set_option linter.all false
theorem cf43 : cfn Try.prog 43 = true := by kernel_rfl
theorem cf44 : cfn Try.prog 44 = true := by kernel_rfl
theorem chance_ct {x : Nat}  : Ct Try.prog 43 [.float .f64 x] [] (fun _ : Unit => .bool (chB x)) (fun _ => []) := by
 refine Ct_body (n := 9) Try.func43 rfl rfl rfl fun F w0 Q hret hnorm hp => ?_
 change WC _ _ _ _ _ _ _ (F)
 refine WC_sr fun K1 hK1 => ?_
 refine WL_r (Rd_assign rfl) rfl ?_
 refine WL_end hK1 ?_
 refine WC_sr fun K2 hK2 => ?_
 refine WL_r (Rd_move rfl) rfl ?_
 refine WL_r (Rd_fgeq (b := 0) rfl rfl) rfl ?_
 refine WL_r (Rd_move rfl) rfl ?_
 refine WL_bool 5 rfl (fun hg3 => ?_) (fun hg3 => ?_)
 ·try simp only [dz, ne_eq] at hg3
  refine WL_r (Rd_move rfl) rfl ?_
  refine WL_r (Rd_fleq (b := ONE) rfl rfl) rfl ?_
  refine WL_r (Rd_pickT rfl rfl) rfl ?_
  refine WL_r (Rd_assign rfl) rfl ?_
  refine WL_end hK2 ?_
  refine WC_ret ?_
  exact hret.gfE () (Rs1 rfl rfl) (by unfold chB; first | (simp_all; done) | grind)
 ·try simp only [dz, ne_eq] at hg3
  refine WL_skip rfl rfl rfl ?_
  refine WL_skip rfl rfl rfl ?_
  refine WL_r (Rd_pickF rfl rfl) rfl ?_
  refine WL_r (Rd_assign rfl) rfl ?_
  refine WL_end hK2 ?_
  refine WC_ret ?_
  exact hret.gfE () (Rs1 rfl rfl) (by unfold chB; first | (simp_all; done) | grind)

theorem sum_ct {ga cap n : Nat} {p : List Nat} {k0 : Int} (hpl : p.length = n) (hpU : Un p) (h0 : 1 ≤ n) (hn : n ≤ 900000000000) : Ct Try.prog 44 [sl (some ga) n cap, .int .i64 k0] [arr (some ga) cap 1 35 eF p] (fun _ : Unit => .float .f64 (tailM p k0)) (fun _ => [arr (some ga) cap 1 35 eF p]) := by
 refine Ct_body (n := 26) Try.func44 rfl rfl rfl fun F w0 Q hret hnorm hp => ?_
 change WC _ _ _ _ _ _ _ (_ :: F)
 refine WC_sr fun K1 hK1 => ?_
 refine WL_r (Rd_assign rfl) rfl ?_
 refine WL_end hK1 ?_
 refine WC_sr fun K2 hK2 => ?_
 refine WL_r (Rd_valE (v := .float .f64 (tailF p n)) (Rd_assign rfl) (by rw [tailF_end (by omega)])) rfl ?_
 refine WL_end hK2 ?_
 refine WC_seq fun K3 hK3 => ?_
 refine WC_sr fun K4 hK4 => ?_
 refine WL_r (Rd_move rfl) rfl ?_
 refine WL_r (Rd_len rfl rfl ud34) rfl ?_
 refine WL_r (Rd_subN (j := 1) rfl rfl) rfl ?_
 refine WL_r (Rd_valE (v := .int .i64 (((n : Nat) : Int) - 1)) (Rd_assign rfl) (by congr 1; omega)) rfl ?_
 refine WL_end hK4 ?_
 refine WC_block ?_
 refine WC_loopK (σ := Nat) (fun m => [(5, .float .f64 (tailF p m)), (6, .int .i64 (((m : Nat) : Int) - 1))]) (fun m => []) (fun m => m ≤ n ∧ ((max k0 0).toNat ≤ m ∨ m = n)) (fun m => m) (n) [0, 1, 4, 25] kpA (by (try dsimp only); repeat (first | with_reducible exact Gv.nil | (with_reducible apply Gv.cons; · (repeat (first | with_reducible exact Ext.here | with_reducible apply Ext.there))))) ?_ ?_ Sub.refl ?_
 ·exact (by omega)
 ·(try dsimp only); exact (Wk.cons lkA (Wk.cons lkA Wk.nil))
 ·rintro m hm K5 hK5
  simp only [List.cons_append, List.nil_append]
  refine WC_seq fun K6 hK6 => ?_
  refine WC_sr fun K7 hK7 => ?_
  refine WL_r (Rd_move rfl) rfl ?_
  refine WL_r (Rd_geq rfl rfl) rfl ?_
  refine WL_r (Rd_move rfl) rfl ?_
  refine WL_bool 12 rfl (fun hg8 => ?_) (fun hg8 => ?_)
  ·try simp only [dz, ne_eq] at hg8
   refine WL_r (Rd_move rfl) rfl ?_
   refine WL_r (Rd_move rfl) rfl ?_
   refine WL_r (Rd_geq rfl rfl) rfl ?_
   refine WL_r (Rd_pickT rfl rfl) rfl ?_
   refine WL_end hK7 ?_
   refine WC_cond rfl (fun hc0 => ?_) (fun hc0 => ?_)
   ·try simp only [dz, ne_eq] at hc0
    obtain ⟨k, rfl⟩ : ∃ k, m = k + 1 := ⟨m - 1, by omega⟩
    refine WC_skip ?_
    refine Ps_next hK6 ?_
    refine WC_seq fun K9 hK9 => ?_
    refine WC_block ?_
    refine WC_region ?_
    refine WL_r (Rd_move rfl) rfl ?_
    refine WL_r (Rd_move rfl) rfl ?_
    refine WL_r (Rd_valE (v := .int .i64 ((k : Nat) : Int)) (Rd_move rfl) (by congr 1; omega)) rfl ?_
    refine WL_r (Rd_index k rfl rfl ud34 sz35 (hj := by omega)) rfl ?_
    refine WL_r (Rd_load_arr (i := k) (j := 0) (y := p.getD k 0) rfl tk35 (hl := by rw [List.getD_eq_getElem?_getD, List.getElem?_eq_getElem (by omega)]; rfl)) rfl ?_
    refine WL_r (Rd_valE (v := .float .f64 (tailF p k)) (Rd_fop rfl rfl (fadd_nn (tailF_nn hpU n (k + 1) (by omega)) (NN.of_one (hpU.at k))).1) (by rw [tailF_step (p := p) (n := k) (by omega)])) rfl ?_
    refine WL_r (Rd_assign rfl) rfl ?_
    refine WL_nil ?_
    refine Ps_next hK9 ?_
    refine WC_region ?_
    refine WL_r (Rd_move rfl) rfl ?_
    refine WL_r (Rd_sub' (r := ((k : Nat) : Int) - 1) rfl rfl (wr64 (by omega) (by omega) (by omega))) rfl ?_
    refine WL_r (Rd_assign rfl) rfl ?_
    refine WL_nil ?_
    refine Ps_wkB (hK5 (k) (by omega) (by omega))
   ·try simp only [dz, ne_eq] at hc0
    refine WC_exit ?_
    refine Ps_next hK3 ?_
    refine WC_sr fun K10 hK10 => ?_
    refine WL_r (Rd_move rfl) rfl ?_
    refine WL_r (Rd_assign rfl) rfl ?_
    refine WL_end hK10 ?_
    refine WC_ret ?_
    exact hret.gfE () (Rs1 rfl rfl) (tail_fin hpl (by omega))
  ·try simp only [dz, ne_eq] at hg8
   refine WL_skip rfl rfl rfl ?_
   refine WL_skip rfl rfl rfl ?_
   refine WL_skip rfl rfl rfl ?_
   refine WL_r (Rd_pickF rfl rfl) rfl ?_
   refine WL_end hK7 ?_
   refine WC_condF rfl ?_
   refine WC_exit ?_
   refine Ps_next hK3 ?_
   refine WC_sr fun K11 hK11 => ?_
   refine WL_r (Rd_move rfl) rfl ?_
   refine WL_r (Rd_assign rfl) rfl ?_
   refine WL_end hK11 ?_
   refine WC_ret ?_
   exact hret.gfE () (Rs1 rfl rfl) (tail_fin hpl (by omega))

theorem odds3_no {X : Asn} {v : Value} {l : List Nat} {ao : Option Addr} {cap : Nat} {k0 : Int} (hS : Sv [X] v 1 eF l ao cap) (hn : l.length ≤ 2000000) (ho : oddsOk l = false) : Ct Try.prog 21 [v, .int .i64 k0] [X] (fun _ : Unit => .tuple #[.float .f64 0, .int .i64 231]) (fun _ => [X]) := by
 refine Ct_body (n := 75) Try.func21 rfl rfl rfl fun F w0 Q hret hnorm hp => ?_
 change WC _ _ _ _ _ _ _ (_ :: F)
 refine WC_sr fun K1 hK1 => ?_
 refine WL_r (Rd_assign rfl) rfl ?_
 refine WL_r (Rd_assign rfl) rfl ?_
 refine WL_end hK1 ?_
 refine WC_seq fun K2 hK2 => ?_
 refine WC_sr fun K3 hK3 => ?_
 refine WL_r (Rd_assign rfl) rfl ?_
 refine WL_end hK3 ?_
 refine WC_block ?_
 refine WC_loopK (σ := Nat) (fun i => [(6, .int .i64 ((i : Nat) : Int))]) (fun i => []) (fun i => i ≤ l.length ∧ (l.take i).all chB = true) (fun i => l.length - i) (0) [0, 1, 7, 8, 9, 10, 11, 24, 25, 26, 27, 28, 29, 30, 31, 32, 33, 34, 35, 36, 37, 38, 39, 40, 41, 42, 43, 44, 45, 46, 47, 48, 49, 50, 51, 52, 53, 54, 55, 56, 57, 58, 59, 60, 61, 62, 63, 64, 65, 66, 67, 68, 69, 70, 71, 72, 73, 74] kpA (by (try dsimp only); repeat (first | with_reducible exact Gv.nil | (with_reducible apply Gv.cons; · (repeat (first | with_reducible exact Ext.here | with_reducible apply Ext.there))))) ?_ ?_ Sub.refl ?_
 ·exact ⟨Nat.zero_le _, rfl⟩
 ·(try dsimp only); exact (Wk.cons lkA Wk.nil)
 ·rintro i ⟨hi, hal⟩ K4 hK4
  simp only [List.cons_append, List.nil_append]
  refine WC_seq fun K5 hK5 => ?_
  refine WC_sr fun K6 hK6 => ?_
  refine WL_r (Rd_move rfl) rfl ?_
  refine WL_r (Rd_move rfl) rfl ?_
  refine WL_r (Rd_len_sv rfl rfl ud34) rfl ?_
  refine WL_r (Rd_lssN rfl rfl) rfl ?_
  refine WL_end hK6 ?_
  refine WC_cond rfl (fun hc0 => ?_) (fun hc0 => ?_)
  ·try simp only [dz, ne_eq] at hc0
   obtain ⟨x, hx⟩ : ∃ x, l[i]? = some x := ⟨_, List.getElem?_eq_getElem (by omega)⟩
   refine WC_skip ?_
   refine Ps_next hK5 ?_
   refine WC_seq fun K7 hK7 => ?_
   refine WC_block ?_
   refine WC_sr fun K8 hK8 => ?_
   refine WL_r (Rd_move rfl) rfl ?_
   refine WL_r (Rd_move rfl) rfl ?_
   refine WL_r (Rd_index_sv i rfl rfl ud34 sz35 (hA := hS) (hi := by omega)) rfl ?_
   refine WL_r (Rd_load_sv (i := i) (j := 0) (y := x) rfl tk35 (hA := hS) (hl := hx) (hv := rfl)) rfl ?_
   refine WL_ac (Ac_call cf43 rfl (hs := chance_ct (x := x))) rfl rfl rfl ?_
   rintro _ _ ⟨⟨⟩, rfl, hA⟩
   simp only [List.cons_append, List.nil_append] at hA
   replace hA := hA.symm
   subst hA
   refine WL_r (Rd_not rfl) rfl ?_
   refine WL_end hK8 ?_
   refine WC_cond rfl (fun hc1 => ?_) (fun hc1 => ?_)
   ·try simp only [dz, ne_eq] at hc1
    refine WC_sr fun K9 hK9 => ?_
    refine WL_r (Rd_assign rfl) rfl ?_
    refine WL_r (Rd_assign rfl) rfl ?_
    refine WL_end hK9 ?_
    refine WC_ret ?_
    exact hret.gf () (Rs2 rfl rfl rfl)
   ·try simp only [dz, ne_eq] at hc1
    have hch : chB x = true := by first | assumption | simp_all
    refine WC_skip ?_
    refine Ps_next hK7 ?_
    refine WC_region ?_
    refine WL_r (Rd_move rfl) rfl ?_
    refine WL_r (Rd_addN (j := 1) rfl rfl) rfl ?_
    refine WL_r (Rd_assign rfl) rfl ?_
    refine WL_nil ?_
    refine Ps_wkB (hK4 (i + 1) (⟨by omega, all_snoc hx hal hch⟩) (by omega))
  ·try simp only [dz, ne_eq] at hc0
   obtain rfl : i = l.length := by omega
   rw [List.take_length] at hal
   unfold oddsOk at ho
   rw [ho] at hal
   cases hal

theorem odds3_ok {X : Asn} {v : Value} {l : List Nat} {ao : Option Addr} {cap : Nat} {k0 : Int} (hS : Sv [X] v 1 eF l ao cap) (hn : l.length ≤ 2000000) (hw : ∀ x ∈ l, x < 2 ^ 64) (ho : oddsOk l = true) : Ct Try.prog 21 [v, .int .i64 k0] [X] (fun _ : Unit => .tuple #[.float .f64 (oddsP l k0), .int .i64 0]) (fun _ => [X]) := by
 refine Ct_body (n := 75) Try.func21 rfl rfl rfl fun F w0 Q hret hnorm hp => ?_
 change WC _ _ _ _ _ _ _ (_ :: F)
 have hU := oddsOk_U hw ho
 refine WC_sr fun K1 hK1 => ?_
 refine WL_r (Rd_assign rfl) rfl ?_
 refine WL_r (Rd_assign rfl) rfl ?_
 refine WL_end hK1 ?_
 refine WC_seq fun K2 hK2 => ?_
 refine WC_sr fun K3 hK3 => ?_
 refine WL_r (Rd_assign rfl) rfl ?_
 refine WL_end hK3 ?_
 refine WC_block ?_
 refine WC_loopK (σ := Nat) (fun i => [(6, .int .i64 ((i : Nat) : Int))]) (fun i => []) (fun i => i ≤ l.length ∧ (l.take i).all chB = true) (fun i => l.length - i) (0) [0, 1, 7, 8, 9, 10, 11, 24, 25, 26, 27, 28, 29, 30, 31, 32, 33, 34, 35, 36, 37, 38, 39, 40, 41, 42, 43, 44, 45, 46, 47, 48, 49, 50, 51, 52, 53, 54, 55, 56, 57, 58, 59, 60, 61, 62, 63, 64, 65, 66, 67, 68, 69, 70, 71, 72, 73, 74] kpA (by (try dsimp only); repeat (first | with_reducible exact Gv.nil | (with_reducible apply Gv.cons; · (repeat (first | with_reducible exact Ext.here | with_reducible apply Ext.there))))) ?_ ?_ Sub.refl ?_
 ·exact ⟨Nat.zero_le _, rfl⟩
 ·(try dsimp only); exact (Wk.cons lkA Wk.nil)
 ·rintro i ⟨hi, hal⟩ K4 hK4
  simp only [List.cons_append, List.nil_append]
  refine WC_seq fun K5 hK5 => ?_
  refine WC_sr fun K6 hK6 => ?_
  refine WL_r (Rd_move rfl) rfl ?_
  refine WL_r (Rd_move rfl) rfl ?_
  refine WL_r (Rd_len_sv rfl rfl ud34) rfl ?_
  refine WL_r (Rd_lssN rfl rfl) rfl ?_
  refine WL_end hK6 ?_
  refine WC_cond rfl (fun hc0 => ?_) (fun hc0 => ?_)
  ·try simp only [dz, ne_eq] at hc0
   obtain ⟨x, hx⟩ : ∃ x, l[i]? = some x := ⟨_, List.getElem?_eq_getElem (by omega)⟩
   refine WC_skip ?_
   refine Ps_next hK5 ?_
   refine WC_seq fun K7 hK7 => ?_
   refine WC_block ?_
   refine WC_sr fun K8 hK8 => ?_
   refine WL_r (Rd_move rfl) rfl ?_
   refine WL_r (Rd_move rfl) rfl ?_
   refine WL_r (Rd_index_sv i rfl rfl ud34 sz35 (hA := hS) (hi := by omega)) rfl ?_
   refine WL_r (Rd_load_sv (i := i) (j := 0) (y := x) rfl tk35 (hA := hS) (hl := hx) (hv := rfl)) rfl ?_
   refine WL_ac (Ac_call cf43 rfl (hs := chance_ct (x := x))) rfl rfl rfl ?_
   rintro _ _ ⟨⟨⟩, rfl, hA⟩
   simp only [List.cons_append, List.nil_append] at hA
   replace hA := hA.symm
   subst hA
   refine WL_r (Rd_not rfl) rfl ?_
   refine WL_end hK8 ?_
   refine WC_cond rfl (fun hc1 => ?_) (fun hc1 => ?_)
   ·try simp only [dz, ne_eq] at hc1
    exact absurd (all_no hx (by first | assumption | simp_all)) (by rw [ho]; decide)
   ·try simp only [dz, ne_eq] at hc1
    have hch : chB x = true := by first | assumption | simp_all
    refine WC_skip ?_
    refine Ps_next hK7 ?_
    refine WC_region ?_
    refine WL_r (Rd_move rfl) rfl ?_
    refine WL_r (Rd_addN (j := 1) rfl rfl) rfl ?_
    refine WL_r (Rd_assign rfl) rfl ?_
    refine WL_nil ?_
    refine Ps_wkB (hK4 (i + 1) (⟨by omega, all_snoc hx hal hch⟩) (by omega))
  ·try simp only [dz, ne_eq] at hc0
   obtain rfl : i = l.length := by omega
   rw [List.take_length] at hal
   refine WC_exit ?_
   refine Ps_next hK2 ?_
   refine WC_sr fun K9 hK9 => ?_
   refine WL_r (Rd_move rfl) rfl ?_
   refine WL_r (Rd_len_sv rfl rfl ud34) rfl ?_
   refine WL_r (Rd_addN (j := 1) rfl rfl) rfl ?_
   refine WL_ac (Ac_make (f := eF) encF 0 rfl rfl ud34 el35 zr35) rfl rfl rfl ?_
   rintro _ _ ⟨b27, rfl, rfl⟩
   refine WL_r (Rd_assign rfl) rfl ?_
   refine WL_end hK9 ?_
   refine WC_sr fun K10 hK10 => ?_
   refine WL_r (Rd_move rfl) rfl ?_
   refine WL_r (Rd_index 0 rfl rfl ud34 sz35 (hj := by omega)) rfl ?_
   refine WL_ac0 (Ac_store_arr ONE rfl rfl sz35 (i := 0) (j := 0) (hl := by rw [List.replicate_succ]; rfl)) rfl rfl ?_
   rintro _ _ rfl
   rw [show (List.replicate (l.length + 1) 0).set 0 ONE = begP l.length from rfl]
   refine WL_end hK10 ?_
   refine WC_seq fun K11 hK11 => ?_
   refine WC_sr fun K12 hK12 => ?_
   refine WL_r (Rd_assign rfl) rfl ?_
   refine WL_end hK12 ?_
   refine WC_block ?_
   rw [show arr (some b27) (l.length + 1) 1 35 eF (begP l.length) = arr (some b27) (l.length + 1) 1 35 eF (allT (begP l.length) (l.take 0)) from rfl]
   refine WC_loopK (σ := Nat) (fun i => [(8, .int .i64 ((i : Nat) : Int))]) (fun i => [arr (some b27) (l.length + 1) 1 35 eF (allT (begP l.length) (l.take i))]) (fun i => i ≤ l.length) (fun i => l.length - i) (0) [0, 1, 4, 5, 7, 72, 73, 74] kpA (by (try dsimp only); repeat (first | with_reducible exact Gv.nil | (with_reducible apply Gv.cons; · (repeat (first | with_reducible exact Ext.here | with_reducible apply Ext.there))))) ?_ ?_ Sub.refl ?_
   ·exact Nat.zero_le _
   ·(try dsimp only); exact (Wk.cons lkA Wk.nil)
   ·rintro i hi K13 hK13
    simp only [List.cons_append, List.nil_append]
    refine WC_seq fun K14 hK14 => ?_
    refine WC_sr fun K15 hK15 => ?_
    refine WL_r (Rd_move rfl) rfl ?_
    refine WL_r (Rd_move rfl) rfl ?_
    refine WL_r (Rd_len_sv rfl rfl ud34) rfl ?_
    refine WL_r (Rd_lssN rfl rfl) rfl ?_
    refine WL_end hK15 ?_
    refine WC_cond rfl (fun hc2 => ?_) (fun hc2 => ?_)
    ·try simp only [dz, ne_eq] at hc2
     obtain ⟨x, hx⟩ : ∃ x, l[i]? = some x := ⟨_, List.getElem?_eq_getElem (by omega)⟩
     have hUx := hU x (List.mem_of_getElem? hx)
     have hy := fsub_ok hUx
     have hpU : Un (allT (begP l.length) (l.take i)) := allT_un _ (begP_un _) fun y hy => hU y (List.mem_of_mem_take hy)
     have hpl : (allT (begP l.length) (l.take i)).length = l.length + 1 := by rw [allT_len]; unfold begP; simp
     have htl := takenM_len (allT (begP l.length) (l.take i)) 1 x
     refine WC_skip ?_
     refine Ps_next hK14 ?_
     refine WC_seq fun K16 hK16 => ?_
     refine WC_block ?_
     refine WC_sr fun K17 hK17 => ?_
     refine WL_r (Rd_move rfl) rfl ?_
     refine WL_r (Rd_move rfl) rfl ?_
     refine WL_r (Rd_index_sv i rfl rfl ud34 sz35 (hA := hS) (hi := by omega)) rfl ?_
     refine WL_r (Rd_load_sv (i := i) (j := 0) (y := x) rfl tk35 (hA := hS) (hl := hx) (hv := rfl)) rfl ?_
     refine WL_r (Rd_assign rfl) rfl ?_
     refine WL_end hK17 ?_
     refine WC_sr fun K18 hK18 => ?_
     refine WL_r (Rd_move rfl) rfl ?_
     refine WL_r (Rd_valE (v := .float .f64 (fsub ONE x)) (Rd_fop (a := ONE) rfl rfl hy.1) (rfl)) rfl ?_
     refine WL_r (Rd_assign rfl) rfl ?_
     refine WL_end hK18 ?_
     refine WC_seq fun K19 hK19 => ?_
     refine WC_sr fun K20 hK20 => ?_
     refine WL_r (Rd_move rfl) rfl ?_
     refine WL_r (Rd_len_sv rfl rfl ud34) rfl ?_
     refine WL_r (Rd_assign rfl) rfl ?_
     refine WL_end hK20 ?_
     refine WC_block ?_
     rw [show arr (some b27) (l.length + 1) 1 35 eF (allT (begP l.length) (l.take i)) = arr (some b27) (l.length + 1) 1 35 eF (mixL (allT (begP l.length) (l.take i)) (takenM (allT (begP l.length) (l.take i)) 1 x) (l.length + 1)) from by rw [← hpl, mixL_all htl]]
     refine WC_loopK (σ := Nat) (fun m => [(11, .int .i64 ((m : Nat) : Int))]) (fun m => [arr (some b27) (l.length + 1) 1 35 eF (mixL (allT (begP l.length) (l.take i)) (takenM (allT (begP l.length) (l.take i)) 1 x) (m + 1))]) (fun m => m ≤ l.length) (fun m => m) (l.length) [0, 1, 4, 5, 7, 8, 9, 10, 30, 31, 32, 33, 34, 35, 36, 37, 38, 39, 40, 41, 42, 43, 65, 66, 67, 68, 69, 70, 71, 72, 73, 74] kpA (by (try dsimp only); repeat (first | with_reducible exact Gv.nil | (with_reducible apply Gv.cons; · (repeat (first | with_reducible exact Ext.here | with_reducible apply Ext.there))))) ?_ ?_ Sub.refl ?_
     ·exact Nat.le_refl _
     ·(try dsimp only); exact (Wk.cons lkA Wk.nil)
     ·rintro m hm K21 hK21
      simp only [List.cons_append, List.nil_append]
      refine WC_seq fun K22 hK22 => ?_
      refine WC_sr fun K23 hK23 => ?_
      refine WL_r (Rd_move rfl) rfl ?_
      refine WL_r (Rd_geqN (j := 1) rfl rfl) rfl ?_
      refine WL_end hK23 ?_
      refine WC_cond rfl (fun hc3 => ?_) (fun hc3 => ?_)
      ·try simp only [dz, ne_eq] at hc3
       obtain ⟨k, rfl⟩ : ∃ k, m = k + 1 := ⟨m - 1, by omega⟩
       refine WC_skip ?_
       refine Ps_next hK22 ?_
       refine WC_seq fun K24 hK24 => ?_
       refine WC_block ?_
       refine WC_drawA mix (fun i => ([2, 2, 2, 2, 2, 2, 2, 2, 2, 2, 2, 2, 2, 2, 2, 2, 2, 0] : List Nat).getD i 0) ?_
       refine WJ_tp 0 rfl (Rd_move rfl) rfl (hp _ _) ?_
       refine WJ_tp 1 rfl (Rd_move rfl) rfl (hp _ _) ?_
       refine WJ_tp 2 rfl (Rd_move rfl) rfl (hp _ _) ?_
       refine WJ_tp 3 rfl (Rd_move rfl) rfl (hp _ _) ?_
       refine WJ_tp 4 rfl (Rd_index (k + 1) rfl rfl ud34 sz35 (hj := by omega)) rfl (hp _ _) ?_
       refine WJ_tk 5 (Rd_load_arr (i := k + 1) (j := 0) rfl tk35 (hl := mixL_lo (by omega) (by omega))) hp ?_ rfl (by kernel_rfl) rfl rfl rfl
       refine WJ_tp 6 rfl (Rd_move rfl) rfl (hp _ _) ?_
       refine WJ_tp 7 rfl (Rd_fop rfl rfl (fmul_y (hpU.at (k + 1)) hUx).1) rfl (hp _ _) ?_
       refine WJ_tp 8 rfl (Rd_move rfl) rfl (hp _ _) ?_
       refine WJ_tp 9 rfl (Rd_move rfl) rfl (hp _ _) ?_
       refine WJ_tp 10 rfl (Rd_subN (j := 1) rfl rfl) rfl (hp _ _) ?_
       refine WJ_tp 11 rfl (Rd_index (k + 1 - 1) rfl rfl ud34 sz35 (hj := by omega)) rfl (hp _ _) ?_
       refine WJ_tk 12 (Rd_load_arr (i := k + 1 - 1) (j := 0) rfl tk35 (hl := mixL_lo (by omega) (by omega))) hp ?_ rfl (by kernel_rfl) rfl rfl rfl
       refine WJ_tp 13 rfl (Rd_move rfl) rfl (hp _ _) ?_
       refine WJ_tp 14 rfl (Rd_fop rfl rfl (fmul_x (hpU.at (k + 1 - 1)) hUx)) rfl (hp _ _) ?_
       refine WJ_tp 15 rfl (Rd_fop rfl rfl (fadd_xy (hpU.at (k + 1)) (hpU.at (k + 1 - 1)) hUx).1) rfl (hp _ _) ?_
       refine WJ_tp 16 rfl (Rd_index (k + 1) rfl rfl ud34 sz35 (hj := by omega)) rfl (hp _ _) ?_
       refine WJ_all (rs := [17]) (by kernel_rfl) rfl ?_
       refine WI_one ?_
       refine WI_ac0 rfl (Ac_store_arr (fadd (fmul ((allT (begP l.length) (l.take i)).getD (k + 1) 0) (fsub ONE x)) (fmul ((allT (begP l.length) (l.take i)).getD (k + 1 - 1) 0) x)) rfl rfl sz35 (i := k + 1) (j := 0) (hl := mixL_lo (by omega) (by omega))) rfl rfl rfl ?_
       rintro _ _ rfl
       refine ⟨(fun h => by cases h), ?_⟩
       refine WJ_done (by kernel_rfl) ?_
       refine Ps_next hK24 ?_
       refine WC_region ?_
       rw [mixL_set htl (by omega) (by rw [takenM_at (by omega)]; unfold takeAt; rw [if_pos (by omega)])]
       refine WL_r (Rd_move rfl) rfl ?_
       refine WL_r (Rd_subN (j := 1) rfl rfl) rfl ?_
       refine WL_r (Rd_assign rfl) rfl ?_
       refine WL_nil ?_
       refine Ps_wkB (hK21 (k) (by omega) (by omega))
      ·try simp only [dz, ne_eq] at hc3
       obtain rfl : m = 0 := by omega
       refine WC_exit ?_
       refine Ps_next hK19 ?_
       refine WC_region ?_
       refine WL_r (Rd_move rfl) rfl ?_
       refine WL_r (Rd_move rfl) rfl ?_
       refine WL_r (Rd_index 0 rfl rfl ud34 sz35 (hj := by omega)) rfl ?_
       refine WL_r (Rd_load_arr (i := 0) (j := 0) rfl tk35 (hl := mixL_lo (by omega) (by omega))) rfl ?_
       refine WL_r (Rd_move rfl) rfl ?_
       refine WL_r (Rd_fop rfl rfl (fmul_y (hpU.at 0) hUx).1) rfl ?_
       refine WL_r (Rd_index 0 rfl rfl ud34 sz35 (hj := by omega)) rfl ?_
       refine WL_ac0 (Ac_store_arr (fmul ((allT (begP l.length) (l.take i)).getD 0 0) (fsub ONE x)) rfl rfl sz35 (i := 0) (j := 0) (hl := mixL_lo (by omega) (by omega))) rfl rfl ?_
       rintro _ _ rfl
       rw [mixL_set htl (by omega) (by rw [takenM_at (by omega)]; unfold takeAt; rw [if_neg (by omega)]), mixL_0, ← allT_snoc hx]
       refine WL_nil ?_
       refine Ps_next hK16 ?_
       refine WC_region ?_
       refine WL_r (Rd_move rfl) rfl ?_
       refine WL_r (Rd_addN (j := 1) rfl rfl) rfl ?_
       refine WL_r (Rd_assign rfl) rfl ?_
       refine WL_nil ?_
       refine Ps_wkB (hK13 (i + 1) (by omega) (by omega))
    ·try simp only [dz, ne_eq] at hc2
     obtain rfl : i = l.length := by omega
     rw [List.take_length]
     refine WC_exit ?_
     refine Ps_next hK11 ?_
     refine WC_sr fun K25 hK25 => ?_
     refine WL_r (Rd_move rfl) rfl ?_
     refine WL_r (Rd_move rfl) rfl ?_
     refine WL_ac (Ac_call cf44 rfl (hs := sum_ct (ga := b27) (cap := l.length + 1) (n := l.length + 1) (k0 := k0) (p := (allT (begP l.length) l)) (by rw [allT_len]; unfold begP; simp) (allT_un _ (begP_un _) hU) (by omega) (by omega))) rfl rfl rfl ?_
     rintro _ _ ⟨⟨⟩, rfl, hA⟩
     simp only [List.cons_append, List.nil_append] at hA
     replace hA := hA.symm
     subst hA
     refine WL_r (Rd_assign rfl) rfl ?_
     refine WL_r (Rd_assign rfl) rfl ?_
     refine WL_end hK25 ?_
     refine WC_ret ?_
     exact hret.gf () (Rs2 rfl rfl rfl)
end Go.Proofs.Ytilmiikfjcdllaa
