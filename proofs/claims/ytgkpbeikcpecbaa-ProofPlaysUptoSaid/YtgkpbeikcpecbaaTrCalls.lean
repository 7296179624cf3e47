/-
  Contracts of functions that the claim reaches, or the logic and the plain laws that they rest on, or the row over them. (Conditions: none beyond the statement.)
-/
import Derived.Test.YtgkpbeikcpecbaaTrLeaves
import Derived.Test.YtgkpbeikcpecbaaTrClimb
import Derived.Test.YtgkpbeikcpecbaaLibR
set_option linter.all false
/-
  The document's trees in plain words: the way up as a list, what stands beside it, the nodes laid from the last one on, where two lists differ. (Conditions: none; no program in sight.)
-/
set_option maxRecDepth 20000
namespace Go.ShM
open Go.SL Go.RowKit
def dnI (B : List Dg) (i : Nat) : List Dg := List.replicate i zD ++ B.drop i
theorem dnI_len {B : List Dg} {i : Nat} (h : i ≤ B.length) : (dnI B i).length = B.length := by simp [dnI]; omega
theorem dnI_all (B : List Dg) : dnI B B.length = List.replicate B.length zD := by simp [dnI]
theorem dnI_0 (B : List Dg) : dnI B 0 = B := by simp [dnI]
theorem dnI_get {B : List Dg} {i j : Nat} (h : i ≤ j) (hi : i ≤ B.length) : (dnI B i).getD j zD = B.getD j zD := by
  unfold dnI
  rw [List.getD_eq_getElem?_getD, List.getD_eq_getElem?_getD, List.getElem?_append_right (by simpa using h), List.length_replicate, List.getElem?_drop, show i + (j - i) = j by omega]
theorem dnI_set {B : List Dg} {i : Nat} (h : i < B.length) : (dnI B (i + 1)).set i (B.getD i zD) = dnI B i := by
  unfold dnI
  have e : List.replicate (i + 1) zD = List.replicate i zD ++ [zD] := by rw [List.replicate_succ']
  have e2 : B.drop i = B.getD i zD :: B.drop (i + 1) := drop_getD zD h
  rw [e, List.append_assoc, List.set_append_right _ _ (by simp), List.length_replicate, Nat.sub_self, e2]
  rfl
def ndV (ls : List Dg) (x : Nat) : Dg := (bldM ls).getD (x - 1) zD
theorem ndV_leaf {ls : List Dg} (h : wdE ls.length = 0) {x : Nat} (h1 : wdM ls.length ≤ x) (h2 : x - wdM ls.length < ls.length) : ndV ls x = ls.getD (x - wdM ls.length) zD := by
  have hw := wd_ok (wdE_iff.1 h).1 (wdE_iff.1 h).2
  have := bld_leaf h (i := x - wdM ls.length) h2
  unfold ndV
  rw [← this]; congr 1; omega
theorem ndV_pad {ls : List Dg} (h : wdE ls.length = 0) {x : Nat} (h1 : wdM ls.length ≤ x) (h2 : ls.length ≤ x - wdM ls.length) (h3 : x < 2 * wdM ls.length) : ndV ls x = padD (x - wdM ls.length) :=
  bld_pad h (by omega) (by rw [bld_len h]; omega)
theorem ndV_node {ls : List Dg} (h : wdE ls.length = 0) {x : Nat} (h1 : 1 ≤ x) (h2 : x < wdM ls.length) : ndV ls x = nodeD (ndV ls (2 * x)) (ndV ls (2 * x + 1)) := by
  unfold ndV
  rw [bld_node h h1 h2, Nat.add_sub_cancel]
theorem eN_map (l : List Nat) : (l.map fun n : Nat => (n : Int)).flatMap (eInt .i64) = l.flatMap eN := by
  induction l with
  | nil => rfl
  | cons x r ih => rw [List.map_cons, List.flatMap_cons, List.flatMap_cons, ih]; rfl
def zL (l : List Nat) : List Int := l.map fun n : Nat => (n : Int)
theorem zL_len (l : List Nat) : (zL l).length = l.length := List.length_map _
theorem arr_zL {a : Option Nat} {cap : Nat} {T : TypeId} {l : List Nat} : ∀ h, arr a cap 1 T eN l h → arr a cap 1 T (eInt .i64) (zL l) h := by
  intro h hh
  unfold arr at hh ⊢
  cases a with
  | none =>
    obtain ⟨⟨h1, h2⟩, h3⟩ := hh
    exact ⟨⟨h1, by rw [h2]; rfl⟩, h3⟩
  | some g =>
    obtain ⟨cur, ⟨h1, h2, h3, h4, h5⟩, h6⟩ := hh
    exact ⟨cur, ⟨fun _ => rfl, h2, by rw [zL_len]; exact h3, h4, by rw [zL_len, h5]; exact (eN_map l).symm⟩, h6⟩
end Go.ShM
