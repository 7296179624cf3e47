/-
  Contracts of functions that the claim reaches, or the logic and the plain laws that they rest on, or the row over them. (Conditions: none beyond the statement.)
-/
import Derived.Test.YtlcafifjhilleaaLibR
set_option linter.all false
/-
  Lists of bytes handed out, written over, longer ones made of them: in plain words, and what is owned. (Conditions: none; no program in sight.)
-/
set_option maxRecDepth 20000
namespace Go.ShM
open Go.SL Go.RowKit
/-- a list: where it lies, how much room, what it holds -/
structure PB where
  a : Option Nat
  cap : Nat
  l : List B8
def ePB (p : PB) : List Value := [sl p.a p.l.length p.cap]
theorem encPB : Enc ePB 1 := ⟨fun _ => rfl, fun x v hv => by simp [ePB, sl] at hv; subst hv; rfl⟩
def FPB (T : TypeId) (p : PB) : Asn := arr p.a p.cap 1 T (eU .u8 (w := 8)) p.l
def FQB (T : TypeId) (q : QI) : Asn := apk q.a q.cap q.a' q.cap' 1 T (eU .u8 (w := 8)) (mks (mkB (q.j + 1)) 0 q.n) (mks (mkB (q.j + 1)) 0 (q.n + 70))
/-- a list's marks laid -/
def mkPB (k : Nat) (p : PB) : PB := ⟨p.a, p.cap, mks (mkB (k + 1)) 0 p.l.length⟩
/-- those of the first k lists -/
def mkdB (ps : List PB) (k : Nat) : List PB := ps.mapIdx fun j p => if j < k then mkPB j p else p
theorem mkdB_0 (ps : List PB) : mkdB ps 0 = ps := by
  unfold mkdB
  apply List.ext_getElem?
  intro i
  rw [List.getElem?_mapIdx]
  cases ps[i]? <;> simp
theorem mkdB_at {ps : List PB} {k j : Nat} {p : PB} (h : ps[j]? = some p) : (mkdB ps k)[j]? = some (if j < k then mkPB j p else p) := by
  unfold mkdB; rw [List.getElem?_mapIdx, h]; rfl
theorem mkdB_len (ps : List PB) (k : Nat) : (mkdB ps k).length = ps.length := by simp [mkdB]
theorem mkdB_set {ps : List PB} {k : Nat} {p : PB} (h : ps[k]? = some p) : (mkdB ps k).set k (mkPB k p) = mkdB ps (k + 1) := by
  have hk := (List.getElem?_eq_some_iff.1 h).1
  apply List.ext_getElem?
  intro i
  rw [List.getElem?_set, mkdB_len]
  by_cases hi : k = i
  · subst hi
    rw [if_pos rfl, if_pos hk, mkdB_at h, if_pos (by omega)]
  · rw [if_neg hi]
    unfold mkdB
    rw [List.getElem?_mapIdx, List.getElem?_mapIdx]
    cases ps[i]? with
    | none => rfl
    | some x =>
      simp only [Option.map_some]
      by_cases h2 : i < k
      · rw [if_pos h2, if_pos (by omega)]
      · rw [if_neg h2, if_neg (by omega)]
theorem mkdB_all {ps : List PB} {j : Nat} {p : PB} (h : ps[j]? = some p) : (mkdB ps ps.length)[j]? = some (mkPB j p) := by
  rw [mkdB_at h, if_pos (List.getElem?_eq_some_iff.1 h).1]
/-- what is known of the longer ones made so far -/
def QOkB (ps : List PB) (qs : List QI) : Prop := ∀ (j : Nat) (q : QI), qs[j]? = some q → q.j = j ∧ q.a' ≠ none ∧ q.n + 70 ≤ q.cap' ∧ (q.a = none → q.n = 0) ∧ q.n ≤ q.cap ∧ ∃ p, ps[j]? = some p ∧ q.a = p.a ∧ q.cap = p.cap ∧ q.n = p.l.length
theorem QOkB_nil {ps : List PB} : QOkB ps [] := fun j q h => by simp at h
theorem QOkB_snoc {ps : List PB} {qs : List QI} {q : QI} {p : PB} (h : QOkB ps qs) (hp : ps[qs.length]? = some p) (hj : q.j = qs.length) (h1 : q.a' ≠ none) (h2 : q.n + 70 ≤ q.cap') (h3 : q.a = none → q.n = 0) (h4 : q.n ≤ q.cap) (h5 : q.a = p.a) (h6 : q.cap = p.cap) (h7 : q.n = p.l.length) : QOkB ps (qs ++ [q]) := by
  intro j x hx
  rw [List.getElem?_append] at hx
  split at hx
  · exact h j x hx
  · rename_i hlt
    have : j - qs.length = 0 := by
      have := (List.getElem?_eq_some_iff.1 hx).1
      simp at this; omega
    rw [this] at hx
    simp at hx
    subst hx
    have e : j = qs.length := by omega
    subst e
    exact ⟨hj, h1, h2, h3, h4, p, hp, h5, h6, h7⟩
theorem Sv_FQBn {T : TypeId} {q : QI} (h1 : q.a' ≠ none) (h2 : q.n + 70 ≤ q.cap') : Sv [FQB T q] (sl q.a' (q.n + 70) q.cap') 1 (eU .u8 (w := 8)) (mks (mkB (q.j + 1)) 0 (q.n + 70)) (q.a'.map fun g => ⟨g, 0, none⟩) q.cap' := by
  have h := Sv_apkN (a := q.a) (cap := q.cap) (a' := q.a') (cap' := q.cap') (T := T) (l := mks (mkB (q.j + 1)) 0 q.n) (l' := mks (mkB (q.j + 1)) 0 (q.n + 70)) (encU .u8 (w := 8)) (fun e => absurd e h1) (by rw [mks_len]; exact h2)
  rw [mks_len] at h
  exact h
theorem Sv_FQBe {T : TypeId} {q : QI} (h1 : q.a = none → q.n = 0) (h2 : q.n ≤ q.cap) : Sv [FQB T q] (sl q.a q.n q.cap) 1 (eU .u8 (w := 8)) (mks (mkB (q.j + 1)) 0 q.n) (q.a.map fun g => ⟨g, 0, none⟩) q.cap := by
  have h := Sv_apkE (a := q.a) (cap := q.cap) (a' := q.a') (cap' := q.cap') (T := T) (l := mks (mkB (q.j + 1)) 0 q.n) (l' := mks (mkB (q.j + 1)) 0 (q.n + 70)) (encU .u8 (w := 8)) (mks_pre _ _ _) (fun e => by rw [h1 e]; rfl) (by rw [mks_len]; exact h2)
  rw [mks_len] at h
  exact h
end Go.ShM
