/-
  Contracts of functions that the claim reaches, or the logic and the plain laws that they rest on, or the row over them. (Conditions: none beyond the statement.)
-/
import Derived.Test.YtlcafifjhilleaaLibR
set_option linter.all false
/-
  Lists of lists lent out, in plain words, and what is owned of them. (Conditions: none; no program in sight.)
-/
set_option maxRecDepth 20000
namespace Go.ShM
open Go.SL Go.RowKit
/-- a list of bytes that is owned: where, how much room, all it holds, how much of it is shown -/
structure LE where
  a : Option Nat
  cap : Nat
  L : List B8
  n : Nat
def FL (T : TypeId) (e : LE) : Asn := arr e.a e.cap 1 T (eU .u8 (w := 8)) e.L
def eLn (e : LE) : List Value := [sl e.a e.n e.cap]
theorem encLn : Enc eLn 1 := ⟨fun _ => rfl, fun x v hv => by simp [eLn, sl] at hv; subst hv; rfl⟩
def eEn (e : LE) : List Value := [sl e.a e.L.length e.cap]
theorem encEn : Enc eEn 1 := ⟨fun _ => rfl, fun x v hv => by simp [eEn, sl] at hv; subst hv; rfl⟩
def ptE (e : LE) : Pt := ⟨e.L.take e.n, e.a.map (fun g => ⟨g, 0, none⟩), e.cap⟩
def ptF (e : LE) : Pt := ⟨e.L, e.a.map (fun g => ⟨g, 0, none⟩), e.cap⟩
def LOk (es : List LE) : Prop := ∀ e ∈ es, e.n ≤ e.L.length ∧ e.a ≠ none ∧ e.L.length ≤ e.cap
theorem LOk_nil : LOk [] := fun e h => by cases h
theorem LOk_snoc {es : List LE} {e : LE} (h : LOk es) (h1 : e.n ≤ e.L.length) (h2 : e.a ≠ none) (h3 : e.L.length ≤ e.cap) : LOk (es ++ [e]) := fun x hx => by
  rcases List.mem_append.1 hx with q | q
  · exact h x q
  · rw [List.mem_singleton] at q; subst q; exact ⟨h1, h2, h3⟩
theorem LOk_app {es fs : List LE} (h : LOk es) (h' : LOk fs) : LOk (es ++ fs) := fun x hx => (List.mem_append.1 hx).elim (h x) (h' x)
theorem Sv_mapped {α : Type} {A : List Asn} {v : Value} {f : α → List Value} {g : α → Pt} {es : List α} {ao : Option Addr} {cap : Nat} (h : Sv A v 1 f es ao cap) (hg : ∀ e ∈ es, f e = fP (g e)) : Sv A v 1 fP (es.map g) ao cap := by
  refine ⟨by rw [h.val, List.length_map], fun hne => h.adr (fun e => hne (by rw [e]; rfl)), fun x hx => rfl, by rw [List.length_map]; exact h.le, fun w hs i x hx j u hu => ?_⟩
  rw [List.getElem?_map] at hx
  cases he : es[i]? with
  | none => rw [he] at hx; cases hx
  | some e =>
    rw [he] at hx
    simp only [Option.map_some, Option.some.injEq] at hx
    subst hx
    rw [← hg e (List.mem_of_getElem? he)] at hu
    exact h.cell w hs i e he j u hu
theorem eLn_fP {e : LE} (h : e.n ≤ e.L.length) : eLn e = fP (ptE e) := by
  unfold eLn fP ptE Pt.v sl
  simp only [List.length_take, Nat.min_eq_left h]
theorem eEn_fP (e : LE) : eEn e = fP (ptF e) := rfl
theorem Rd_ptE {T : TypeId} {es : List LE} (hok : LOk es) {i : Nat} {e : LE} (h : es[i]? = some e) : RdP [star (FL T) es] (ptE e) := by
  obtain ⟨h1, h2, h3⟩ := hok e (List.mem_of_getElem? h)
  have hS := Sv.star (F := FL T) i h (Sv_pre (T := T) (encU .u8 (w := 8)) (List.take_prefix e.n e.L) (fun q => absurd q h2) h3)
  exact hS
theorem Rd_ptF {T : TypeId} {es : List LE} (hok : LOk es) {i : Nat} {e : LE} (h : es[i]? = some e) : RdP [star (FL T) es] (ptF e) := by
  obtain ⟨h1, h2, h3⟩ := hok e (List.mem_of_getElem? h)
  exact Sv.star (F := FL T) i h (Sv_own' (T := T) (encU .u8 (w := 8)) (fun q => absurd q h2) h3)
/-- what the lent ones hold -/
def lentG (ps : List Pt) : List (List B8 × Nat) := ps.map fun p => (lentB p.l, p.l.length)
def shG (es : List LE) : List (List B8 × Nat) := es.map fun e => (e.L, e.n)
def spareG (k : Nat) : List (List B8 × Nat) := (List.range k).map fun i => ([BitVec.ofNat 8 i, 99#8], 2)
theorem lentG_snoc {ps : List Pt} {k : Nat} {p : Pt} (h : ps[k]? = some p) : lentG (ps.take k) ++ [(lentB p.l, p.l.length)] = lentG (ps.take (k + 1)) := by
  obtain ⟨hk, e⟩ := List.getElem?_eq_some_iff.1 h
  unfold lentG
  rw [List.take_succ_eq_append_getElem hk, e, List.map_append]
  rfl
theorem spareG_snoc (k : Nat) : spareG k ++ [([BitVec.ofNat 8 k, 99#8], 2)] = spareG (k + 1) := by simp [spareG, List.range_succ]
theorem shG_snoc (es : List LE) (e : LE) : shG (es ++ [e]) = shG es ++ [(e.L, e.n)] := by simp [shG]
theorem shG_len (es : List LE) : (shG es).length = es.length := by simp [shG]
theorem shG_at {es : List LE} {i : Nat} {e : LE} {x : List B8 × Nat} {l : List (List B8 × Nat)} (h : shG es = l) (he : es[i]? = some e) (hx : l[i]? = some x) : e.L = x.1 ∧ e.n = x.2 := by
  subst h
  unfold shG at hx
  rw [List.getElem?_map, he] at hx
  simp only [Option.map_some, Option.some.injEq] at hx
  subst hx
  exact ⟨rfl, rfl⟩
structure LG where
  la : Option Nat
  lc : Nat
  ea : Option Nat
  ec : Nat
  es : List LE
  sp : List LE
def LGok (ps : List Pt) (g : LG) : Prop := shG g.es = lentG ps ∧ shG g.sp = spareG 70 ∧ LOk g.es ∧ LOk g.sp
theorem bnd_map {ps fs : List Pt} {N : Nat} (h : fs.map (·.l) = ps.map (·.l)) (hb : ∀ p ∈ ps, p.l.length ≤ N) : ∀ p ∈ fs, p.l.length ≤ N := fun p hp => by
  have : p.l ∈ ps.map (·.l) := h ▸ List.mem_map_of_mem hp
  obtain ⟨q, hq, e⟩ := List.mem_map.1 this
  rw [← e]; exact hb q hq
/-- what is told of lists that were lent out: the list lent with its marks, the whole of each -/
structure KOk (ps fs gs : List Pt) : Prop where
  lf : fs.length = ps.length + 70
  lg : gs.length = ps.length
  hd : (fs.take ps.length).map (·.l) = ps.map (·.l)
  ea : ∀ (i : Nat) (p q : Pt), gs[i]? = some p → ps[i]? = some q → p.l = lentB q.l
  sp : ∀ (i : Nat) (p : Pt), i < 70 → fs[ps.length + i]? = some p → p.l = [BitVec.ofNat 8 i, 99#8]
theorem lentG_len (ps : List Pt) : (lentG ps).length = ps.length := by simp [lentG]
theorem spareG_len (k : Nat) : (spareG k).length = k := by simp [spareG]
theorem LG_len {ps : List Pt} {g : LG} (h : LGok ps g) : g.es.length = ps.length ∧ g.sp.length = 70 := by
  have h1 := congrArg List.length h.1
  have h2 := congrArg List.length h.2.1
  rw [shG_len, lentG_len] at h1
  rw [shG_len, spareG_len] at h2
  exact ⟨h1, h2⟩
theorem LG_es {ps : List Pt} {g : LG} (h : LGok ps g) {i : Nat} {e : LE} {p : Pt} (he : g.es[i]? = some e) (hp : ps[i]? = some p) : e.L = lentB p.l ∧ e.n = p.l.length := shG_at h.1 he (by unfold lentG; rw [List.getElem?_map, hp]; rfl)
theorem LG_sp {ps : List Pt} {g : LG} (h : LGok ps g) {i : Nat} {e : LE} (he : g.sp[i]? = some e) (hi : i < 70) : e.L = [BitVec.ofNat 8 i, 99#8] ∧ e.n = 2 := shG_at h.2.1 he (by unfold spareG; rw [List.getElem?_map, List.getElem?_range hi]; rfl)
theorem LG_kok {ps : List Pt} {g : LG} (h : LGok ps g) : KOk ps ((g.es ++ g.sp).map ptE) (g.es.map ptF) := by
  obtain ⟨h1, h2⟩ := LG_len h
  refine ⟨by rw [List.length_map, List.length_append]; omega, by rw [List.length_map]; exact h1, ?_, ?_, ?_⟩
  · apply List.ext_getElem?
    intro i
    rw [List.getElem?_map, List.getElem?_map, List.getElem?_take]
    by_cases hi : i < ps.length
    · rw [if_pos hi, List.getElem?_map, List.getElem?_append_left (by omega)]
      obtain ⟨p, hp⟩ : ∃ p, ps[i]? = some p := ⟨_, List.getElem?_eq_getElem hi⟩
      obtain ⟨e, he⟩ : ∃ e, g.es[i]? = some e := ⟨_, List.getElem?_eq_getElem (by omega)⟩
      obtain ⟨q1, q2⟩ := LG_es h he hp
      rw [hp, he]
      simp only [Option.map_some, Option.some.injEq, ptE]
      rw [q1, q2, lentB_take]
    · rw [if_neg hi, List.getElem?_eq_none (by omega)]
  · intro i p q hp hq
    rw [List.getElem?_map] at hp
    cases he : g.es[i]? with
    | none => rw [he] at hp; cases hp
    | some e =>
      rw [he] at hp
      simp only [Option.map_some, Option.some.injEq] at hp
      subst hp
      exact (LG_es h he hq).1
  · intro i p hi hp
    rw [List.getElem?_map, List.getElem?_append_right (by omega)] at hp
    rw [show ps.length + i - g.es.length = i by omega] at hp
    cases he : g.sp[i]? with
    | none => rw [he] at hp; cases hp
    | some e =>
      rw [he] at hp
      simp only [Option.map_some, Option.some.injEq] at hp
      subst hp
      obtain ⟨q1, q2⟩ := LG_sp h he hi
      show e.L.take e.n = _
      rw [q1, q2]; rfl
theorem LG_all {ps : List Pt} {g : LG} (h : LGok ps g) : (g.es ++ g.sp).length = ps.length + 70 := by
  rw [List.length_append, (LG_len h).1, (LG_len h).2]
theorem LG_ok {ps : List Pt} {g : LG} (h : LGok ps g) : LOk (g.es ++ g.sp) := LOk_app h.2.2.1 h.2.2.2
theorem LG_take {ps : List Pt} {g : LG} (h : LGok ps g) : ((g.es ++ g.sp).map ptE).take ps.length = g.es.map ptE := by
  rw [List.map_append]
  exact List.take_left' (by rw [List.length_map]; exact (LG_len h).1)
theorem join_of_map {ps qs : List Pt} (h : ps.map (·.l) = qs.map (·.l)) : joinP ps = joinP qs := by
  have e : ∀ xs : List Pt, joinP xs = (xs.map (·.l)).flatten := fun xs => by unfold joinP; rw [List.flatMap_def]
  rw [e, e, h]
theorem LG_join {ps : List Pt} {g : LG} (h : LGok ps g) : joinP (g.es.map ptE) = joinP ps := by
  have := (LG_kok h).hd
  rw [LG_take h] at this
  exact join_of_map this
theorem join_mem {ps : List Pt} {p : Pt} (h : p ∈ ps) : p.l.length ≤ (joinP ps).length := by
  obtain ⟨a, b, rfl⟩ := List.append_of_mem h
  simp only [joinP, List.flatMap_append, List.flatMap_cons, List.length_append]
  omega
theorem SvL {T : TypeId} {ps : List Pt} {g : LG} (h : LGok ps g) (f : (g.la = none → g.es ++ g.sp = []) ∧ (g.es ++ g.sp).length ≤ g.lc) : Sv [arr g.la g.lc 1 T eLn (g.es ++ g.sp)] (sl g.la ps.length g.lc) 1 fP (g.es.map ptE) (g.la.map fun q => ⟨q, 0, none⟩) g.lc := by
  have h0 := Sv_pre (T := T) (a := g.la) (cap := g.lc) encLn (List.prefix_append g.es g.sp) f.1 f.2
  rw [(LG_len h).1] at h0
  exact Sv_mapped h0 (fun e he => eLn_fP (h.2.2.1 e he).1)
theorem SvF {T : TypeId} {ps : List Pt} {g : LG} (h : LGok ps g) (f : (g.la = none → g.es ++ g.sp = []) ∧ (g.es ++ g.sp).length ≤ g.lc) : Sv [arr g.la g.lc 1 T eLn (g.es ++ g.sp)] (sl g.la (ps.length + 70) g.lc) 1 fP ((g.es ++ g.sp).map ptE) (g.la.map fun q => ⟨q, 0, none⟩) g.lc := by
  have h0 := Sv_own' (T := T) (a := g.la) (cap := g.lc) encLn f.1 f.2
  rw [LG_all h] at h0
  exact Sv_mapped h0 (fun e he => eLn_fP (LG_ok h e he).1)
theorem SvLt {T : TypeId} {ps : List Pt} {g : LG} (h : LGok ps g) (f : (g.la = none → g.es ++ g.sp = []) ∧ (g.es ++ g.sp).length ≤ g.lc) : Sv [arr g.la g.lc 1 T eLn (g.es ++ g.sp)] (sl g.la ps.length g.lc) 1 fP (((g.es ++ g.sp).map ptE).take ps.length) (g.la.map fun q => ⟨q, 0, none⟩) g.lc := by
  rw [LG_take h]; exact SvL h f
theorem SvGe {T : TypeId} {ps : List Pt} {g : LG} (h : LGok ps g) (f : (g.ea = none → g.es = []) ∧ g.es.length ≤ g.ec) : Sv [arr g.ea g.ec 1 T eEn g.es] (sl g.ea ps.length g.ec) 1 eEn g.es (g.ea.map fun q => ⟨q, 0, none⟩) g.ec := by
  have h0 := Sv_own' (T := T) (a := g.ea) (cap := g.ec) encEn f.1 f.2
  rw [(LG_len h).1] at h0; exact h0
theorem SvG {T : TypeId} {ps : List Pt} {g : LG} (h : LGok ps g) (f : (g.ea = none → g.es = []) ∧ g.es.length ≤ g.ec) : Sv [arr g.ea g.ec 1 T eEn g.es] (sl g.ea ps.length g.ec) 1 fP (g.es.map ptF) (g.ea.map fun q => ⟨q, 0, none⟩) g.ec := Sv_mapped (SvGe h f) (fun e _ => eEn_fP e)
theorem Rd_allE {T : TypeId} {es : List LE} (h : LOk es) : ∀ p ∈ es.map ptE, RdP [star (FL T) es] p := fun p hp => by
  obtain ⟨e, he, rfl⟩ := List.mem_map.1 hp
  obtain ⟨i, hi, q⟩ := List.getElem_of_mem he
  exact Rd_ptE h (by rw [List.getElem?_eq_getElem hi, q])
theorem Rd_allF {T : TypeId} {es sp : List LE} (h : LOk (es ++ sp)) : ∀ p ∈ es.map ptF, RdP [star (FL T) (es ++ sp)] p := fun p hp => by
  obtain ⟨e, he, rfl⟩ := List.mem_map.1 hp
  obtain ⟨i, hi, q⟩ := List.getElem_of_mem (List.mem_append_left sp he)
  exact Rd_ptF h (by rw [List.getElem?_eq_getElem hi, q])
theorem Rd_subE {T : TypeId} {es sp : List LE} (h : LOk (es ++ sp)) : ∀ p ∈ es.map ptE, RdP [star (FL T) (es ++ sp)] p := fun p hp => Rd_allE h p (by rw [List.map_append]; exact List.mem_append_left _ hp)
end Go.ShM
