/-
  Contracts of functions that the claim reaches, or the logic and the plain laws that they rest on, or the row over them. (Conditions: none beyond the statement.)
-/
import Derived.Test.YthkchjcodibaeaaTrLeaves
import Derived.Test.YthkchjcodibaeaaTrClimb
import Derived.Test.YthkchjcodibaeaaLibR
set_option linter.all false
/-
  The document's trees in plain words: the way up as a list, what stands beside it, the nodes laid from the last one on, where two lists differ. (Conditions: none; no program in sight.)
-/
set_option maxRecDepth 20000
namespace Go.ShM
open Go.SL Go.RowKit
/-! ### the way up -/
def upL (i : Nat) : List Nat := if h : i < 1 then [] else i :: upL (i / 2)
termination_by i
decreasing_by omega
theorem upL_0 : upL 0 = [] := by rw [upL, dif_pos (by omega)]
theorem upL_gt {i : Nat} (h : 1 ≤ i) : upL i = i :: upL (i / 2) := by rw [upL, dif_neg (by omega)]
theorem upL_lenle : ∀ y, (upL y).length ≤ y := by
  intro y
  induction y using Nat.strongRecOn with
  | _ y ih =>
    rcases Nat.eq_zero_or_pos y with q | q
    · subst q; rw [upL_0]; exact Nat.le_refl _
    · rw [upL_gt q, List.length_cons]
      have := ih (y / 2) (by omega)
      omega
theorem upL_le {w : Nat} : ∀ y, y ≤ w → ∀ x ∈ upL y, 1 ≤ x ∧ x ≤ w := by
  intro y
  induction y using Nat.strongRecOn with
  | _ y ih =>
    intro h2 x hx
    rcases Nat.eq_zero_or_pos y with q | q
    · subst q; rw [upL_0] at hx; cases hx
    · rw [upL_gt q] at hx
      rcases List.mem_cons.1 hx with e | e
      · omega
      · exact ih (y / 2) (by omega) (by omega) x e
/-- what stands beside numbers -/
def chR : List Nat → List Nat
  | [] => []
  | x :: r => (if x % 2 = 0 then [x + 1] else if 1 < x then [x - 1] else []) ++ chR r
theorem chR_even {x : Nat} {r : List Nat} (h : x % 2 = 0) : chR (x :: r) = (x + 1) :: chR r := by rw [chR, if_pos h]; rfl
theorem chR_odd {x : Nat} {r : List Nat} (h : ¬ x % 2 = 0) (h2 : 1 < x) : chR (x :: r) = (x - 1) :: chR r := by rw [chR, if_neg h, if_pos h2]; rfl
theorem chR_one {x : Nat} {r : List Nat} (h : ¬ x % 2 = 0) (h2 : ¬ 1 < x) : chR (x :: r) = chR r := by rw [chR, if_neg h, if_neg h2]; rfl
theorem chR_up : ∀ y, chR (upL y) = chL y := by
  intro y
  induction y using Nat.strongRecOn with
  | _ y ih =>
    rcases Nat.eq_zero_or_pos y with q | q
    · subst q; rw [upL_0, chL_le (by omega)]; rfl
    · rw [upL_gt q]
      rcases Nat.lt_or_ge 1 y with q2 | q2
      · rw [chL_gt q2, xor1, ← ih (y / 2) (by omega)]
        by_cases h : y % 2 = 0
        · rw [chR_even h, if_pos h]
        · rw [chR_odd h q2, if_neg h]
      · rw [chL_le q2, chR_one (by omega) (by omega), ih (y / 2) (by omega), chL_le (by omega)]
theorem drop_at {l : List Nat} {i : Nat} (h : i < l.length) : l.drop i = l.getD i 0 :: l.drop (i + 1) := drop_getD 0 h
/-! ### the nodes, laid from the last one on -/
def dnI (B : List Dg) (i : Nat) : List Dg := List.replicate i zD ++ B.drop i
theorem dnI_len {B : List Dg} {i : Nat} (h : i ≤ B.length) : (dnI B i).length = B.length := by simp [dnI]; omega
theorem dnI_all (B : List Dg) : dnI B B.length = List.replicate B.length zD := by simp [dnI]
theorem dnI_0 (B : List Dg) : dnI B 0 = B := by simp [dnI]
theorem dnI_get {B : List Dg} {i j : Nat} (h : i ≤ j) (hi : i ≤ B.length) : (dnI B i).getD j zD = B.getD j zD := by
  unfold dnI
  rw [List.getD_eq_getElem?_getD, List.getD_eq_getElem?_getD, List.getElem?_append_right (by simpa using h), List.length_replicate, List.getElem?_drop, show i + (j - i) = j by omega]
theorem dnI_set {B : List Dg} {i : Nat} (h : i < B.length) : (dnI B (i + 1)).set i (B.getD i zD) = dnI B i := by
  unfold dnI
  have e : List.replicate (i + 1) zD = List.replicate i zD ++ [zD] := by rw [List.replicate_succ']
  have e2 : B.drop i = B.getD i zD :: B.drop (i + 1) := drop_getD zD h
  rw [e, List.append_assoc, List.set_append_right _ _ (by simp), List.length_replicate, Nat.sub_self, e2]
  rfl
/-! ### a node of the tree -/
def ndV (ls : List Dg) (x : Nat) : Dg := (bldM ls).getD (x - 1) zD
theorem ndV_leaf {ls : List Dg} (h : wdE ls.length = 0) {x : Nat} (h1 : wdM ls.length ≤ x) (h2 : x - wdM ls.length < ls.length) : ndV ls x = ls.getD (x - wdM ls.length) zD := by
  have hw := wd_ok (wdE_iff.1 h).1 (wdE_iff.1 h).2
  have := bld_leaf h (i := x - wdM ls.length) h2
  unfold ndV
  rw [← this]; congr 1; omega
theorem ndV_pad {ls : List Dg} (h : wdE ls.length = 0) {x : Nat} (h1 : wdM ls.length ≤ x) (h2 : ls.length ≤ x - wdM ls.length) (h3 : x < 2 * wdM ls.length) : ndV ls x = padD (x - wdM ls.length) :=
  bld_pad h (by omega) (by rw [bld_len h]; omega)
theorem ndV_node {ls : List Dg} (h : wdE ls.length = 0) {x : Nat} (h1 : 1 ≤ x) (h2 : x < wdM ls.length) : ndV ls x = nodeD (ndV ls (2 * x)) (ndV ls (2 * x + 1)) := by
  unfold ndV
  rw [bld_node h h1 h2, Nat.add_sub_cancel]
/-! ### where two lists differ -/
theorem wd_pow {k : Nat} (h : k ≤ 9) : wdE (2 ^ k) = 0 ∧ wdM (2 ^ k) = 2 ^ k := by
  rcases (show k = 0 ∨ k = 1 ∨ k = 2 ∨ k = 3 ∨ k = 4 ∨ k = 5 ∨ k = 6 ∨ k = 7 ∨ k = 8 ∨ k = 9 from by omega) with e | e | e | e | e | e | e | e | e | e <;> subst e <;> exact ⟨rfl, rfl⟩
theorem pow_of_wd {n : Nat} (h : wdE n = 0) (h2 : wdM n = n) : ∃ k, k ≤ 9 ∧ n = 2 ^ k := by
  obtain ⟨h3, h4⟩ := wdE_iff.1 h
  unfold wdM at h2
  have e : ∀ k m, k ≤ 9 → 2 ^ k = m → n = m → ∃ k, k ≤ 9 ∧ n = 2 ^ k := fun k m h h1 h2 => ⟨k, h, by omega⟩
  repeat' split at h2
  all_goals first
    | omega
    | exact e 0 1 (by omega) rfl h2.symm
    | exact e 1 2 (by omega) rfl h2.symm
    | exact e 2 4 (by omega) rfl h2.symm
    | exact e 3 8 (by omega) rfl h2.symm
    | exact e 4 16 (by omega) rfl h2.symm
    | exact e 5 32 (by omega) rfl h2.symm
    | exact e 6 64 (by omega) rfl h2.symm
    | exact e 7 128 (by omega) rfl h2.symm
    | exact e 8 256 (by omega) rfl h2.symm
    | exact e 9 512 (by omega) rfl h2.symm
/-- none found among the widths so far -/
def dR (a b : List Dg) (k : Nat) : Prop := ∀ j, j < k → a.length = 2 * 2 ^ j - 1 → ∀ y, 1 ≤ y → y < 2 ^ j → dP a b y = false
theorem dR_0 {a b : List Dg} : dR a b 0 := fun j h => by omega
theorem dR_succ {a b : List Dg} {k : Nat} (h : dR a b k) (h2 : a.length = 2 * 2 ^ k - 1 → ∀ y, 1 ≤ y → y < 2 ^ k → dP a b y = false) : dR a b (k + 1) := fun j hj => by
  rcases Nat.lt_or_ge j k with q | q
  · exact h j q
  · have e : j = k := by omega
    subst e; exact h2
theorem dR_end {a b : List Dg} {k : Nat} (h : dR a b k) (hk : 9 < k) : difF a b = none := by
  by_cases hd : difOk a b
  · obtain ⟨h1, h2, h3, h4⟩ := hd
    obtain ⟨j, hj, e⟩ := pow_of_wd h1 h2
    refine dif_none fun y h5 h6 => h j (by omega) (by omega) y h5 (by omega)
  · exact dif_no hd
theorem dR_some {a b : List Dg} {k x : Nat} (hk : k ≤ 9) (hl : b.length = a.length) (ha : a.length = 2 * 2 ^ k - 1) (h1 : 1 ≤ x) (h2 : x < 2 ^ k) (hx : dP a b x = true) (hy : ∀ y, 1 ≤ y → y < x → dP a b y = false) : difF a b = some x := by
  have hw := wd_pow hk
  have e : (a.length + 1) / 2 = 2 ^ k := by omega
  exact dif_some ⟨by rw [e]; exact hw.1, by rw [e]; exact hw.2, by rw [e]; exact ha, hl⟩ h1 (by omega) hx hy
/-! ### numbers told as such -/
theorem eN_map (l : List Nat) : (l.map fun n : Nat => (n : Int)).flatMap (eInt .i64) = l.flatMap eN := by
  induction l with
  | nil => rfl
  | cons x r ih => rw [List.map_cons, List.flatMap_cons, List.flatMap_cons, ih]; rfl
def zL (l : List Nat) : List Int := l.map fun n : Nat => (n : Int)
theorem zL_len (l : List Nat) : (zL l).length = l.length := List.length_map _
theorem arr_zL {a : Option Nat} {cap : Nat} {T : TypeId} {l : List Nat} : ∀ h, arr a cap 1 T eN l h → arr a cap 1 T (eInt .i64) (zL l) h := by
  intro h hh
  unfold arr at hh ⊢
  cases a with
  | none =>
    obtain ⟨⟨h1, h2⟩, h3⟩ := hh
    exact ⟨⟨h1, by rw [h2]; rfl⟩, h3⟩
  | some g =>
    obtain ⟨cur, ⟨h1, h2, h3, h4, h5⟩, h6⟩ := hh
    exact ⟨cur, ⟨fun _ => rfl, h2, by rw [zL_len]; exact h3, h4, by rw [zL_len, h5]; exact (eN_map l).symm⟩, h6⟩
end Go.ShM
