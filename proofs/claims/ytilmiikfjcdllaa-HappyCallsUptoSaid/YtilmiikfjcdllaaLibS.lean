/-
  Contracts of functions that the claim reaches, or the logic and the plain laws that they rest on, or the row over them. (Conditions: none beyond the statement.)
-/
import Derived.Test.YtilmiikfjcdllaaLibA
import Derived.Shelf.SlSortCmp.NoneTotal
import Derived.Test.YtilmiikfjcdllaaLibD
set_option linter.all false
/-
  slices.SortFunc in the logic: the slice's cells are sorted, what the order reads is kept. (Conditions: a comparison that is a function of the two values, and parts whatever two are not one.)
-/
namespace Go.SL
open Go.RowKit Go.Sort Go.Shelf Go.Proofs

def pts (X : List (Nat × Obj)) : List Asn := X.map fun x => pt x.1 x.2
theorem sep_pts : ∀ {X : List (Nat × Obj)} {h : Hp}, sep (pts X) h → ∀ b, (∃ o, h b = some o) ↔ ∃ o, (b, o) ∈ X
  | [], h, e, b => by simp [show h b = none from e b]
  | x :: X, h, ⟨h1, h2, d, e, a, r⟩, b => by
    have ih := sep_pts (X := X) r b
    rw [e b]
    by_cases hb : b = x.1
    · subst hb
      have : h1 x.1 = some x.2 := by rw [a x.1, if_pos rfl]
      rw [un_some this]
      exact ⟨fun _ => ⟨x.2, List.mem_cons_self⟩, fun _ => ⟨_, rfl⟩⟩
    · have : h1 b = none := by rw [a b, if_neg hb]
      rw [un_none this, ih]
      constructor
      · rintro ⟨o, ho⟩; exact ⟨o, List.mem_cons_of_mem _ ho⟩
      · rintro ⟨o, ho⟩
        rcases List.mem_cons.1 ho with rfl | ho
        · exact absurd rfl hb
        · exact ⟨o, ho⟩
theorem sat_pts_mem {X : List (Nat × Obj)} {R : List Asn} {w : World} (h : sat w (pts X ++ R)) {b : Nat} {o : Obj} (hm : (b, o) ∈ X) : w.heap[b]? = some o := by
  obtain ⟨Y, Z, rfl⟩ := List.append_of_mem hm
  refine sat_pt (b := b) (o := o) (R := pts Y ++ pts Z ++ R) (sat_perm ?_ h)
  unfold pts
  simp only [List.map_append, List.map_cons, List.append_assoc, List.cons_append]
  exact List.perm_middle
def oldBut (W : World) (X : List (Nat × Obj)) : Asn := fun h => ∀ b, ((∃ o, (b, o) ∈ X) → h b = none) ∧ ((¬ ∃ o, (b, o) ∈ X) → h b = W.heap[b]?)
theorem sat_oldBut {W : World} {X : List (Nat × Obj)} (h : sat W (pts X)) : sat W (pts X ++ [oldBut W X]) := by
  classical
  obtain ⟨h, hw, r⟩ := h
  have k := sep_pts r
  obtain ⟨h2, e2⟩ : ∃ h2 : Hp, h2 = fun b => if ∃ o, (b, o) ∈ X then none else W.heap[b]? := ⟨_, rfl⟩
  have d : dj h h2 := fun b => by
    by_cases hb : ∃ o, (b, o) ∈ X
    · exact .inr (by rw [e2]; simp only [if_pos hb])
    · cases hc : h b with
      | none => exact .inl rfl
      | some o => exact absurd ((k b).1 ⟨o, hc⟩) hb
  refine ⟨un h h2, fun b o hb => ?_, sep_app.1 ⟨h, h2, d, fun _ => rfl, r, h2, fun _ => none, fun _ => .inr rfl, fun b => ?_, fun b => ⟨fun hb => ?_, fun hb => ?_⟩, fun _ => rfl⟩⟩
  · cases hc : h b with
    | some x => rw [un_some hc] at hb; cases hb; exact hw _ _ hc
    | none =>
      rw [un_none hc, e2] at hb
      by_cases hq : ∃ o, (b, o) ∈ X
      · simp only [if_pos hq] at hb; cases hb
      · simp only [if_neg hq] at hb; exact hb
  · unfold un; cases h2 b <;> rfl
  · rw [e2]; simp only [if_pos hb]
  · rw [e2]; simp only [if_neg hb]
theorem oldBut_block {W w : World} {X : List (Nat × Obj)} {R : List Asn} (hX : sat W (pts X)) (h : sat w (pts X ++ oldBut W X :: R)) {b : Nat} (hb : b < W.heap.size) : w.heap[b]? = W.heap[b]? := by
  classical
  by_cases hq : ∃ o, (b, o) ∈ X
  · obtain ⟨o, ho⟩ := hq
    rw [sat_pts_mem h ho, sat_pts_mem (R := []) (by simpa using hX) ho]
  · obtain ⟨hh, a, h1, h2, d, e, o, _⟩ := sat_perm List.perm_middle h
    obtain ⟨x, hx⟩ : ∃ x, W.heap[b]? = some x := ⟨_, Array.getElem?_eq_getElem hb⟩
    rw [hx]
    refine a b x ?_
    rw [e]; unfold un; rw [(o b).2 hq, hx]
theorem grown_of {W w : World} (hk : Kept W w) (hb : ∀ b, b < W.heap.size → w.heap[b]? = W.heap[b]?) : ∃ q os, w = Sort.grow (W.drewN q) os := by
  refine ⟨w.drawn - W.drawn, w.heap.extract W.heap.size w.heap.size, ?_⟩
  obtain ⟨hp, tp, dr, os, out⟩ := w
  obtain ⟨h1, h2, h3, h4, h5⟩ := hk
  simp only at h1 h2 h3 h4 h5 hb ⊢
  subst h1 h2 h3
  have e1 : W.drawn + (dr - W.drawn) = dr := by omega
  have e2 : W.heap ++ hp.extract W.heap.size hp.size = hp := by
    apply Array.ext_getElem?
    intro i
    rw [Array.getElem?_append]
    by_cases hi : i < W.heap.size
    · rw [if_pos hi, hb i hi]
    · rw [if_neg hi, Array.getElem?_extract]
      by_cases hj : i < hp.size
      · rw [if_pos (by omega)]; congr 1; omega
      · rw [if_neg (by omega)]; simp; omega
  simp [Sort.grow, World.drewN, e1, e2]
variable {P : Program} {α : Type} [Inhabited α]
theorem Ct.conv {f : FuncId} {args : List Value} {pre pre' : List Asn} {ρ : Type} {val : ρ → Value} {post post' : ρ → List Asn} (h : Ct P f args pre val post) (h1 : ∀ F w, sat w (pre' ++ F) → sat w (pre ++ F)) (h2 : ∀ r F w, sat w (post r ++ F) → sat w (post' r ++ F)) : Ct P f args pre' val post' := by
  refine ⟨fun F w hs => (h.out F w (h1 F w hs)).mono ?_⟩
  rintro e w' ⟨r, he, hs', hk⟩
  exact ⟨r, he, h2 r F w' hs', hk⟩
end Go.SL
/-
  Servers in the order of their digests, in plain words: the comparison, the sorted list, places counted, a server more. (Conditions: none; no program in sight.)
-/
set_option maxRecDepth 20000
namespace Go.ShM
open Go.SL Go.RowKit Go.Sort Go.Shelf Go.Proofs Go.Lib
def Vb : List B8 → Nat
  | [] => 0
  | x :: l => x.toNat * 256 ^ l.length + Vb l
def ltR (d : Nat → Dg) (a b : Nat) : Prop := Vb (d a).1 < Vb (d b).1 ∨ (Vb (d a).1 = Vb (d b).1 ∧ a < b)
instance (d : Nat → Dg) (a b : Nat) : Decidable (ltR d a b) := inferInstanceAs (Decidable (_ ∨ _))
end Go.ShM
