/-
  Contracts of functions that the claim reaches, or the logic and the plain laws that they rest on, or the row over them. (Conditions: none beyond the statement.)
-/
import Derived.Test.YtcemkpiopijbmaaApB
import Derived.Test.YtcemkpiopijbmaaCkLaw
set_option linter.all false
/-
  Lists of things that waited, handed out, written over, longer ones made of them: in plain words, and what is owned. (Conditions: none; no program in sight.)
-/
set_option maxRecDepth 20000
namespace Go.ShM
open Go.SL Go.RowKit Go.HpM
/-- the mark of place i of list k -/
def mkU (k i : Nat) : CV := (-(k : Int) - 2, (i : Int), ⟨#[]⟩)
/-- a list: where it lies, how much room, what it holds -/
structure PU where
  a : Option Nat
  cap : Nat
  l : List CV
def ePU (p : PU) : List Value := [sl p.a p.l.length p.cap]
theorem encPU : Enc ePU 1 := ⟨fun _ => rfl, fun x v hv => by simp [ePU, sl] at hv; subst hv; rfl⟩
def FPU (f : CV → List Value) (T : TypeId) (p : PU) : Asn := arr p.a p.cap 3 T f p.l
def FQU (f : CV → List Value) (T : TypeId) (q : QI) : Asn := apk q.a q.cap q.a' q.cap' 3 T f (mks (mkU q.j) 0 q.n) (mks (mkU q.j) 0 (q.n + 40))
/-- a list's marks laid -/
def mkPU (k : Nat) (p : PU) : PU := ⟨p.a, p.cap, mks (mkU k) 0 p.l.length⟩
theorem mkPU_len (k : Nat) (p : PU) : (mkPU k p).l.length = p.l.length := mks_len _ _ _
/-- those of the first k lists -/
def mkdU (ps : List PU) (k : Nat) : List PU := ps.mapIdx fun j p => if j < k then mkPU j p else p
theorem mkdU_0 (ps : List PU) : mkdU ps 0 = ps := by
  unfold mkdU
  apply List.ext_getElem?
  intro i
  rw [List.getElem?_mapIdx]
  cases ps[i]? <;> simp
theorem mkdU_at {ps : List PU} {k j : Nat} {p : PU} (h : ps[j]? = some p) : (mkdU ps k)[j]? = some (if j < k then mkPU j p else p) := by
  unfold mkdU; rw [List.getElem?_mapIdx, h]; rfl
theorem mkdU_len (ps : List PU) (k : Nat) : (mkdU ps k).length = ps.length := by simp [mkdU]
theorem mkdU_set {ps : List PU} {k : Nat} {p : PU} (h : ps[k]? = some p) : (mkdU ps k).set k (mkPU k p) = mkdU ps (k + 1) := by
  have hk := (List.getElem?_eq_some_iff.1 h).1
  apply List.ext_getElem?
  intro i
  rw [List.getElem?_set, mkdU_len]
  by_cases hi : k = i
  · subst hi
    rw [if_pos rfl, if_pos hk, mkdU_at h, if_pos (by omega)]
  · rw [if_neg hi]
    unfold mkdU
    rw [List.getElem?_mapIdx, List.getElem?_mapIdx]
    cases ps[i]? with
    | none => rfl
    | some x =>
      simp only [Option.map_some]
      by_cases h2 : i < k
      · rw [if_pos h2, if_pos (by omega)]
      · rw [if_neg h2, if_neg (by omega)]
theorem mkdU_all {ps : List PU} {j : Nat} {p : PU} (h : ps[j]? = some p) : (mkdU ps ps.length)[j]? = some (mkPU j p) := by
  rw [mkdU_at h, if_pos (List.getElem?_eq_some_iff.1 h).1]
/-- what is known of the longer ones made so far -/
def QOkU (ps : List PU) (qs : List QI) : Prop := ∀ (j : Nat) (q : QI), qs[j]? = some q → q.j = j ∧ q.a' ≠ none ∧ q.n + 40 ≤ q.cap' ∧ (q.a = none → q.n = 0) ∧ q.n ≤ q.cap ∧ ∃ p, ps[j]? = some p ∧ q.a = p.a ∧ q.cap = p.cap ∧ q.n = p.l.length
theorem QOkU_nil {ps : List PU} : QOkU ps [] := fun j q h => by simp at h
theorem QOkU_snoc {ps : List PU} {qs : List QI} {q : QI} {p : PU} (h : QOkU ps qs) (hp : ps[qs.length]? = some p) (hj : q.j = qs.length) (h1 : q.a' ≠ none) (h2 : q.n + 40 ≤ q.cap') (h3 : q.a = none → q.n = 0) (h4 : q.n ≤ q.cap) (h5 : q.a = p.a) (h6 : q.cap = p.cap) (h7 : q.n = p.l.length) : QOkU ps (qs ++ [q]) := by
  intro j x hx
  rw [List.getElem?_append] at hx
  split at hx
  · exact h j x hx
  · rename_i hlt
    have : j - qs.length = 0 := by
      have := (List.getElem?_eq_some_iff.1 hx).1
      simp at this; omega
    rw [this] at hx
    simp at hx
    subst hx
    have e : j = qs.length := by omega
    subst e
    exact ⟨hj, h1, h2, h3, h4, p, hp, h5, h6, h7⟩
theorem Sv_FQUn {f : CV → List Value} (hf : Enc f 3) {T : TypeId} {q : QI} (h1 : q.a' ≠ none) (h2 : q.n + 40 ≤ q.cap') : Sv [FQU f T q] (sl q.a' (q.n + 40) q.cap') 3 f (mks (mkU q.j) 0 (q.n + 40)) (q.a'.map fun g => ⟨g, 0, none⟩) q.cap' := by
  have h := Sv_apkN (a := q.a) (cap := q.cap) (a' := q.a') (cap' := q.cap') (T := T) (l := mks (mkU q.j) 0 q.n) (l' := mks (mkU q.j) 0 (q.n + 40)) hf (fun e => absurd e h1) (by rw [mks_len]; exact h2)
  rw [mks_len] at h
  exact h
theorem Sv_FQUe {f : CV → List Value} (hf : Enc f 3) {T : TypeId} {q : QI} (h1 : q.a = none → q.n = 0) (h2 : q.n ≤ q.cap) : Sv [FQU f T q] (sl q.a q.n q.cap) 3 f (mks (mkU q.j) 0 q.n) (q.a.map fun g => ⟨g, 0, none⟩) q.cap := by
  have h := Sv_apkE (a := q.a) (cap := q.cap) (a' := q.a') (cap' := q.cap') (T := T) (l := mks (mkU q.j) 0 q.n) (l' := mks (mkU q.j) 0 (q.n + 40)) hf (mks_pre _ _ _) (fun e => by rw [h1 e]; rfl) (by rw [mks_len]; exact h2)
  rw [mks_len] at h
  exact h
end Go.ShM
