/-
  Contracts of functions that the claim reaches, or the logic and the plain laws that they rest on, or the row over them. (Conditions: none beyond the statement.)
-/
import Derived.Test.YtcemkpiopijbmaaLibR
set_option linter.all false
/-
  An iterator lends four things that it reads to the loop's rounds. (Conditions: none; generic over the program.)
-/
namespace Go.SL
open Go.RowKit
theorem exA_lend4 {σ : Type} {φ : σ → Prop} {f : σ → List Asn} {l a b c d : Asn} {R : List Asn} {w : World} : sat w (exA φ (fun s => l :: a :: b :: c :: d :: f s) :: R) ↔ sat w (a :: b :: c :: d :: exA φ (fun s => l :: f s) :: R) := by
  have e1 : ∀ X : Asn, List.Perm (a :: b :: c :: d :: X :: R) (X :: a :: b :: c :: d :: R) := fun X => by
    have : a :: b :: c :: d :: X :: R = [a, b, c, d] ++ X :: R := rfl
    rw [this]
    exact List.perm_middle
  have e2 : ∀ s, List.Perm ((l :: a :: b :: c :: d :: f s) ++ R) ((l :: f s) ++ (a :: b :: c :: d :: R)) := fun s => by
    simp only [List.cons_append]
    refine List.Perm.cons _ ?_
    have : a :: b :: c :: d :: (f s ++ R) = [a, b, c, d] ++ (f s ++ R) := rfl
    rw [this]
    refine (List.perm_append_comm_assoc _ _ _).trans ?_
    exact List.Perm.refl _
  constructor
  · intro h
    obtain ⟨s, h1, h2⟩ := sat_exA.1 h
    exact sat_perm (e1 _).symm (sat_exA.2 ⟨s, h1, sat_perm (e2 s) h2⟩)
  · intro h
    obtain ⟨s, h1, h2⟩ := sat_exA.1 (sat_perm (e1 _) h)
    exact sat_exA.2 ⟨s, h1, sat_perm (e2 s).symm h2⟩
theorem sat_lend4 {A R1 R2 R3 R4 R : List Asn} {X Y a b c d : Asn} (hX : ∀ R w, sat w (a :: b :: c :: d :: Y :: R) → sat w (X :: R)) (hE1 : Ext A a R1) (hE2 : Ext R1 b R2) (hE3 : Ext R2 c R3) (hE4 : Ext R3 d R4) (hE : Ext R4 Y R) {w : World} (h : sat w A) : sat w (X :: R) :=
  hX _ _ (sat_perm (List.Perm.trans hE1 (List.Perm.cons _ (List.Perm.trans hE2 (List.Perm.cons _ (List.Perm.trans hE3 (List.Perm.cons _ (List.Perm.trans hE4 (List.Perm.cons _ hE)))))))) h)
end Go.SL
