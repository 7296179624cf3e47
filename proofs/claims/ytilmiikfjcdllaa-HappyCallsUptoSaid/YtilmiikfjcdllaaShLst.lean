/-
  Contracts of functions that the claim reaches, or the logic and the plain laws that they rest on, or the row over them. (Conditions: none beyond the statement.)
-/
import Derived.Test.YtilmiikfjcdllaaLibR
set_option linter.all false
/-
  Lists of lists lent out, in plain words, and what is owned of them. (Conditions: none; no program in sight.)
-/
set_option maxRecDepth 20000
namespace Go.ShM
open Go.SL Go.RowKit
structure LE where
  a : Option Nat
  cap : Nat
  L : List B8
  n : Nat
def eLn (e : LE) : List Value := [sl e.a e.n e.cap]
theorem encLn : Enc eLn 1 := ⟨fun _ => rfl, fun x v hv => by simp [eLn, sl] at hv; subst hv; rfl⟩
def ptE (e : LE) : Pt := ⟨e.L.take e.n, e.a.map (fun g => ⟨g, 0, none⟩), e.cap⟩
def LOk (es : List LE) : Prop := ∀ e ∈ es, e.n ≤ e.L.length ∧ e.a ≠ none ∧ e.L.length ≤ e.cap
theorem Sv_mapped {α : Type} {A : List Asn} {v : Value} {f : α → List Value} {g : α → Pt} {es : List α} {ao : Option Addr} {cap : Nat} (h : Sv A v 1 f es ao cap) (hg : ∀ e ∈ es, f e = fP (g e)) : Sv A v 1 fP (es.map g) ao cap := by
  refine ⟨by rw [h.val, List.length_map], fun hne => h.adr (fun e => hne (by rw [e]; rfl)), fun x hx => rfl, by rw [List.length_map]; exact h.le, fun w hs i x hx j u hu => ?_⟩
  rw [List.getElem?_map] at hx
  cases he : es[i]? with
  | none => rw [he] at hx; cases hx
  | some e =>
    rw [he] at hx
    simp only [Option.map_some, Option.some.injEq] at hx
    subst hx
    rw [← hg e (List.mem_of_getElem? he)] at hu
    exact h.cell w hs i e he j u hu
theorem eLn_fP {e : LE} (h : e.n ≤ e.L.length) : eLn e = fP (ptE e) := by
  unfold eLn fP ptE Pt.v sl
  simp only [List.length_take, Nat.min_eq_left h]
def lentG (ps : List Pt) : List (List B8 × Nat) := ps.map fun p => (lentB p.l, p.l.length)
def shG (es : List LE) : List (List B8 × Nat) := es.map fun e => (e.L, e.n)
def spareG (k : Nat) : List (List B8 × Nat) := (List.range k).map fun i => ([BitVec.ofNat 8 i, 99#8], 2)
theorem shG_len (es : List LE) : (shG es).length = es.length := by simp [shG]
structure LG where
  la : Option Nat
  lc : Nat
  ea : Option Nat
  ec : Nat
  es : List LE
  sp : List LE
def LGok (ps : List Pt) (g : LG) : Prop := shG g.es = lentG ps ∧ shG g.sp = spareG 70 ∧ LOk g.es ∧ LOk g.sp
structure KOk (ps fs gs : List Pt) : Prop where
  lf : fs.length = ps.length + 70
  lg : gs.length = ps.length
  hd : (fs.take ps.length).map (·.l) = ps.map (·.l)
  ea : ∀ (i : Nat) (p q : Pt), gs[i]? = some p → ps[i]? = some q → p.l = lentB q.l
  sp : ∀ (i : Nat) (p : Pt), i < 70 → fs[ps.length + i]? = some p → p.l = [BitVec.ofNat 8 i, 99#8]
theorem lentG_len (ps : List Pt) : (lentG ps).length = ps.length := by simp [lentG]
theorem spareG_len (k : Nat) : (spareG k).length = k := by simp [spareG]
theorem LG_len {ps : List Pt} {g : LG} (h : LGok ps g) : g.es.length = ps.length ∧ g.sp.length = 70 := by
  have h1 := congrArg List.length h.1
  have h2 := congrArg List.length h.2.1
  rw [shG_len, lentG_len] at h1
  rw [shG_len, spareG_len] at h2
  exact ⟨h1, h2⟩
def ovE (e : LE) : LE := ⟨e.a, e.cap, overB e.L.length, e.n⟩
theorem eLn_ov {e : LE} (h : e.n ≤ e.L.length) : eLn e = fP (ptE (ovE e)) := by
  rw [← eLn_fP (e := ovE e) (by show e.n ≤ (overB e.L.length).length; rw [overB_len]; exact h)]; rfl
theorem SvM {T : TypeId} {ps : List Pt} {g : LG} (h : LGok ps g) (f : (g.la = none → g.es ++ g.sp = []) ∧ (g.es ++ g.sp).length ≤ g.lc) : Sv [arr g.la g.lc 1 T eLn (g.es ++ g.sp)] (sl g.la ps.length g.lc) 1 fP ((g.es.map ovE).map ptE) (g.la.map fun q => ⟨q, 0, none⟩) g.lc := by
  have h0 := Sv_pre (T := T) (a := g.la) (cap := g.lc) encLn (List.prefix_append g.es g.sp) f.1 f.2
  rw [(LG_len h).1] at h0
  rw [List.map_map]
  exact Sv_mapped h0 (fun e he => eLn_ov (h.2.2.1 e he).1)
end Go.ShM
