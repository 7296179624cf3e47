/-
  Contracts of functions that the claim reaches, or the logic and the plain laws that they rest on, or the row over them. (Conditions: none beyond the statement.)
-/
import Derived.Test.YthkchjcodibaeaaApB
import Derived.Test.YthkchjcodibaeaaTrLeaves
set_option linter.all false
/-
  Lists of digests handed out, written over, longer ones made of them: in plain words, and what is owned. (Conditions: none; no program in sight.)
-/
set_option maxRecDepth 20000
namespace Go.ShM
open Go.SL Go.RowKit
/-- the mark of place i of list k -/
def mkD (k i : Nat) : Dg := ⟨((((List.replicate 32 0#8).set 0 (BitVec.ofNat 8 k)).set 1 (BitVec.ofNat 8 i)).set 2 (BitVec.ofNat 8 (i / 256))).set 3 77#8, by simp⟩
def lentD (l : List Dg) : List Dg := l ++ mks (mkD 0) l.length 70
theorem lentD_len (l : List Dg) : (lentD l).length = l.length + 70 := by simp [lentD, mks_len]
def overD (n : Nat) : List Dg := mks (fun i => mkD 7 (i + 3)) 0 n
/-- a list: where it lies, how much room, what it holds -/
structure PD where
  a : Option Nat
  cap : Nat
  l : List Dg
def ePD (p : PD) : List Value := [sl p.a p.l.length p.cap]
theorem encPD : Enc ePD 1 := ⟨fun _ => rfl, fun x v hv => by simp [ePD, sl] at hv; subst hv; rfl⟩
def FPD (T : TypeId) (p : PD) : Asn := arr p.a p.cap 32 T fD p.l
def FQD (T : TypeId) (q : QI) : Asn := apk q.a q.cap q.a' q.cap' 32 T fD (mks (mkD (q.j + 1)) 0 q.n) (mks (mkD (q.j + 1)) 0 (q.n + 70))
/-- a list's marks laid -/
def mkPD (k : Nat) (p : PD) : PD := ⟨p.a, p.cap, mks (mkD (k + 1)) 0 p.l.length⟩
/-- those of the first k lists -/
def mkdD (ps : List PD) (k : Nat) : List PD := ps.mapIdx fun j p => if j < k then mkPD j p else p
theorem mkdD_0 (ps : List PD) : mkdD ps 0 = ps := by
  unfold mkdD
  apply List.ext_getElem?
  intro i
  rw [List.getElem?_mapIdx]
  cases ps[i]? <;> simp
theorem mkdD_at {ps : List PD} {k j : Nat} {p : PD} (h : ps[j]? = some p) : (mkdD ps k)[j]? = some (if j < k then mkPD j p else p) := by
  unfold mkdD; rw [List.getElem?_mapIdx, h]; rfl
theorem mkdD_len (ps : List PD) (k : Nat) : (mkdD ps k).length = ps.length := by simp [mkdD]
theorem mkdD_set {ps : List PD} {k : Nat} {p : PD} (h : ps[k]? = some p) : (mkdD ps k).set k (mkPD k p) = mkdD ps (k + 1) := by
  have hk := (List.getElem?_eq_some_iff.1 h).1
  apply List.ext_getElem?
  intro i
  rw [List.getElem?_set, mkdD_len]
  by_cases hi : k = i
  · subst hi
    rw [if_pos rfl, if_pos hk, mkdD_at h, if_pos (by omega)]
  · rw [if_neg hi]
    unfold mkdD
    rw [List.getElem?_mapIdx, List.getElem?_mapIdx]
    cases ps[i]? with
    | none => rfl
    | some x =>
      simp only [Option.map_some]
      by_cases h2 : i < k
      · rw [if_pos h2, if_pos (by omega)]
      · rw [if_neg h2, if_neg (by omega)]
theorem mkdD_all {ps : List PD} {j : Nat} {p : PD} (h : ps[j]? = some p) : (mkdD ps ps.length)[j]? = some (mkPD j p) := by
  rw [mkdD_at h, if_pos (List.getElem?_eq_some_iff.1 h).1]
/-- what is known of the longer ones made so far -/
def QOkD (ps : List PD) (qs : List QI) : Prop := ∀ (j : Nat) (q : QI), qs[j]? = some q → q.j = j ∧ q.a' ≠ none ∧ q.n + 70 ≤ q.cap' ∧ (q.a = none → q.n = 0) ∧ q.n ≤ q.cap ∧ ∃ p, ps[j]? = some p ∧ q.a = p.a ∧ q.cap = p.cap ∧ q.n = p.l.length
theorem QOkD_nil {ps : List PD} : QOkD ps [] := fun j q h => by simp at h
theorem QOkD_snoc {ps : List PD} {qs : List QI} {q : QI} {p : PD} (h : QOkD ps qs) (hp : ps[qs.length]? = some p) (hj : q.j = qs.length) (h1 : q.a' ≠ none) (h2 : q.n + 70 ≤ q.cap') (h3 : q.a = none → q.n = 0) (h4 : q.n ≤ q.cap) (h5 : q.a = p.a) (h6 : q.cap = p.cap) (h7 : q.n = p.l.length) : QOkD ps (qs ++ [q]) := by
  intro j x hx
  rw [List.getElem?_append] at hx
  split at hx
  · exact h j x hx
  · rename_i hlt
    have : j - qs.length = 0 := by
      have := (List.getElem?_eq_some_iff.1 hx).1
      simp at this; omega
    rw [this] at hx
    simp at hx
    subst hx
    have e : j = qs.length := by omega
    subst e
    exact ⟨hj, h1, h2, h3, h4, p, hp, h5, h6, h7⟩
theorem Sv_FQDn {T : TypeId} {q : QI} (h1 : q.a' ≠ none) (h2 : q.n + 70 ≤ q.cap') : Sv [FQD T q] (sl q.a' (q.n + 70) q.cap') 32 fD (mks (mkD (q.j + 1)) 0 (q.n + 70)) (q.a'.map fun g => ⟨g, 0, none⟩) q.cap' := by
  have h := Sv_apkN (a := q.a) (cap := q.cap) (a' := q.a') (cap' := q.cap') (T := T) (l := mks (mkD (q.j + 1)) 0 q.n) (l' := mks (mkD (q.j + 1)) 0 (q.n + 70)) encD (fun e => absurd e h1) (by rw [mks_len]; exact h2)
  rw [mks_len] at h
  exact h
theorem Sv_FQDe {T : TypeId} {q : QI} (h1 : q.a = none → q.n = 0) (h2 : q.n ≤ q.cap) : Sv [FQD T q] (sl q.a q.n q.cap) 32 fD (mks (mkD (q.j + 1)) 0 q.n) (q.a.map fun g => ⟨g, 0, none⟩) q.cap := by
  have h := Sv_apkE (a := q.a) (cap := q.cap) (a' := q.a') (cap' := q.cap') (T := T) (l := mks (mkD (q.j + 1)) 0 q.n) (l' := mks (mkD (q.j + 1)) 0 (q.n + 70)) encD (mks_pre _ _ _) (fun e => by rw [h1 e]; rfl) (by rw [mks_len]; exact h2)
  rw [mks_len] at h
  exact h
end Go.ShM
