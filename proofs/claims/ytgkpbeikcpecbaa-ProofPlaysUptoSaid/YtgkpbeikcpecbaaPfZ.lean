/-
  Contracts of functions that the claim reaches, or the logic and the plain laws that they rest on, or the row over them. (Conditions: none beyond the statement.)
-/
import Derived.Test.YtgkpbeikcpecbaaPfM
import Derived.Test.YtgkpbeikcpecbaaPfL
import Derived.Test.YtgkpbeikcpecbaaLibR
import Derived.Test.YtgkpbeikcpecbaaTrScr
import Derived.Test.YtgkpbeikcpecbaaApD
import Derived.Test.YtgkpbeikcpecbaaLibC
set_option linter.all false
/-
  Four proofs that are played with, and what was answered so far: in plain words, and what is owned. (Conditions: none; no program in sight.)
-/
set_option maxRecDepth 20000
set_option linter.all false
namespace Go.ShM
open Go.SL Go.RowKit Go.ChangeShapes Go.WideShapes
structure PN where
  a : Option Nat
  cap : Nat
  l : List Nd
def ePN (p : PN) : List Value := [sl p.a p.l.length p.cap]
theorem encPN : Enc ePN 1 := ⟨fun _ => rfl, fun x v hv => by simp [ePN, sl] at hv; subst hv; rfl⟩
def FPN (T : TypeId) (p : PN) : Asn := arr p.a p.cap 33 T eND p.l
def NOk (ps : List PN) : Prop := ∀ p ∈ ps, (p.a = none → p.l = []) ∧ p.l.length ≤ p.cap ∧ p.l.length ≤ 100000
theorem NOk_nil : NOk [] := fun p h => by cases h
theorem NOk_snoc {ps : List PN} {p : PN} (h : NOk ps) (h1 : p.a = none → p.l = []) (h2 : p.l.length ≤ p.cap) (h3 : p.l.length ≤ 100000) : NOk (ps ++ [p]) := fun x hx => by
  rcases List.mem_append.1 hx with q | q
  · exact h x q
  · rw [List.mem_singleton] at q; subst q; exact ⟨h1, h2, h3⟩
theorem Rd_ptN {T : TypeId} {ps : List PN} (h : NOk ps) {i : Nat} {p : PN} (hp : ps[i]? = some p) : Sv [star (FPN T) ps] (sl p.a p.l.length p.cap) 33 eND p.l (p.a.map fun g => ⟨g, 0, none⟩) p.cap := by
  obtain ⟨h1, h2, _⟩ := h p (List.mem_of_getElem? hp)
  exact Sv.star (F := FPN T) i hp (Sv_own' (T := T) encND h1 h2)
structure PR where
  n : Nat
  K : KM
  pb : Nat
  m : Nat
  qb : Nat
  gi : Nat
  ci : Nat
  gd : Nat
  cd : Nat
structure RK (r : PR) : Prop where
  h1 : 1 ≤ r.n
  h2 : r.n ≤ 512
  hs : SupK (wdM r.n) r.K
  hr : (r.K 1).isSome = true
def GD (rs : List PR) : Prop := rs.length = 4 ∧ ∀ r ∈ rs, RK r
theorem GD.at {rs : List PR} (h : GD rs) {i : Nat} (hi : i < 4) : ∃ r, rs[i]? = some r ∧ RK r := by
  have hl := h.1
  obtain ⟨r, hr⟩ : ∃ r, rs[i]? = some r := ⟨_, List.getElem?_eq_getElem (by omega)⟩
  exact ⟨r, hr, h.2 r (List.mem_of_getElem? hr)⟩
theorem GD.set {rs : List PR} (h : GD rs) {i : Nat} {r : PR} (hr : RK r) : GD (rs.set i r) := ⟨by rw [List.length_set]; exact h.1, fun x hx => by
  rcases List.mem_or_eq_of_mem_set hx with q | q
  · exact h.2 x q
  · rw [q]; exact hr⟩
structure BKp where
  is : List PI
  ia : Option Nat
  ic : Nat
  ls : List PN
  la : Option Nat
  lc : Nat
  ts : List PN
  ta : Option Nat
  tc : Nat
structure BP (s : BKp) (n : Nat) : Prop where
  eL : s.ls.map (·.l) = s.ts.map (·.l)
  ip : IOk s.is
  lp : NOk s.ls
  tp : NOk s.ts
  lI : s.is.length ≤ n
  lL : s.ls.length ≤ n
theorem BP_0 : BP ⟨[], none, 0, [], none, 0, [], none, 0⟩ 0 := ⟨rfl, IOk_nil, NOk_nil, NOk_nil, Nat.le_refl _, Nat.le_refl _⟩
theorem BP.up {s : BKp} {n m : Nat} (h : BP s n) (hm : n ≤ m) : BP s m := ⟨h.eL, h.ip, h.lp, h.tp, Nat.le_trans h.lI hm, Nat.le_trans h.lL hm⟩
theorem BP.len {s : BKp} {n : Nat} (h : BP s n) : s.ls.length = s.ts.length := by have := congrArg List.length h.eL; simpa using this
theorem BP.at {s : BKp} {n i : Nat} {p q : PN} (h : BP s n) (hp : s.ls[i]? = some p) (hq : s.ts[i]? = some q) : p.l = q.l := by
  have := congrArg (fun x => x[i]?) h.eL
  simp only [List.getElem?_map, hp, hq, Option.map_some, Option.some.injEq] at this
  exact this
theorem BP.putI {s : BKp} {n : Nat} {p : PI} {ia : Option Nat} {ic : Nat} (h : BP s n) (h1 : p.a = none → p.l = []) (h2 : p.l.length ≤ p.cap) (h3 : p.l.length ≤ 900000000) : BP ⟨s.is ++ [p], ia, ic, s.ls, s.la, s.lc, s.ts, s.ta, s.tc⟩ (n + 1) :=
  ⟨h.eL, IOk_snoc h.ip h1 h2 h3, h.lp, h.tp, by have := h.lI; simp; omega, by have := h.lL; dsimp only; omega⟩
theorem BP.putL {s : BKp} {n : Nat} {p q : PN} {la ta : Option Nat} {lc tc : Nat} (h : BP s n) (he : p.l = q.l) (h1 : p.a = none → p.l = []) (h2 : p.l.length ≤ p.cap) (h3 : p.l.length ≤ 100000) (h4 : q.a = none → q.l = []) (h5 : q.l.length ≤ q.cap) : BP ⟨s.is, s.ia, s.ic, s.ls ++ [p], la, lc, s.ts ++ [q], ta, tc⟩ (n + 1) :=
  ⟨by rw [List.map_append, List.map_append, h.eL]; simp [he], h.ip, NOk_snoc h.lp h1 h2 h3, NOk_snoc h.tp h4 h5 (by rw [← he]; exact h3), by have := h.lI; dsimp only; omega, by have := h.lL; simp; omega⟩
def pP (b : Nat) : Value := .pointer (some ⟨b, 0, none⟩)
def tlP (s : BKp) : List Value := [sl s.ia s.is.length s.ic, sl s.la s.ls.length s.lc, sl s.ta s.ts.length s.tc]
def PLc (rs : List PR) (s : BKp) : List Value := rs.map (fun r => pP r.pb) ++ (rs.map (fun r => pP r.qb) ++ tlP s)
theorem PLc_len {rs : List PR} {s : BKp} (h : rs.length = 4) : (PLc rs s).length = 11 := by simp [PLc, tlP, h]
theorem PLc_x {rs : List PR} {s : BKp} {i : Nat} {r : PR} (hr : rs[i]? = some r) : (PLc rs s)[i]? = some (pP r.pb) := by
  have hi := (List.getElem?_eq_some_iff.1 hr).1
  unfold PLc
  rw [List.getElem?_append_left (by simpa using hi), List.getElem?_map, hr]; rfl
theorem PLc_y {rs : List PR} {s : BKp} {i : Nat} {r : PR} (h4 : rs.length = 4) (hr : rs[i]? = some r) : (PLc rs s)[4 + i]? = some (pP r.qb) := by
  have hi := (List.getElem?_eq_some_iff.1 hr).1
  unfold PLc
  rw [List.getElem?_append_right (by simp; omega), List.length_map, h4, Nat.add_sub_cancel_left, List.getElem?_append_left (by simpa using hi), List.getElem?_map, hr]; rfl
theorem PLc_t {rs : List PR} {s : BKp} (h4 : rs.length = 4) (j : Nat) : (PLc rs s)[8 + j]? = (tlP s)[j]? := by
  unfold PLc
  rw [List.getElem?_append_right (by simp; omega), List.getElem?_append_right (by simp; omega)]
  congr 1; simp; omega
theorem PLc_ts {rs : List PR} {s s' : BKp} {v : Value} (h4 : rs.length = 4) (j : Nat) (h : (tlP s).set j v = tlP s') : (PLc rs s).set (8 + j) v = PLc rs s' := by
  unfold PLc
  rw [List.set_append_right _ _ (by simp; omega), List.set_append_right _ _ (by simp; omega)]
  congr 2
  rw [← h]; congr 1; simp; omega
theorem map_set_same {α β : Type} {f : α → β} {l : List α} {i : Nat} {x y : α} (h : l[i]? = some x) (e : f y = f x) : (l.set i y).map f = l.map f := by
  rw [List.map_set, e]
  apply List.ext_getElem?
  intro j
  rw [List.getElem?_set]
  by_cases hj : i = j
  · subst hj
    obtain ⟨h1, h2⟩ := List.getElem?_eq_some_iff.1 h
    simp [h1, h2]
  · simp [hj]
theorem PLc_keep {rs : List PR} {s : BKp} {i : Nat} {r r' : PR} (h : rs[i]? = some r) (e1 : r'.pb = r.pb) (e2 : r'.qb = r.qb) : PLc (rs.set i r') s = PLc rs s := by
  unfold PLc
  rw [map_set_same h (by rw [e1]), map_set_same h (by rw [e2])]
theorem PLc_new {rs : List PR} {s : BKp} {j : Nat} {r' : PR} (h4 : rs.length = 4) (hj : j < 4) : ((PLc rs s).set j (pP r'.pb)).set (4 + j) (pP r'.qb) = PLc (rs.set j r') s := by
  unfold PLc
  rw [List.set_append_left _ _ (by simp; omega), List.set_append_right _ _ (by simp; omega)]
  rw [show 4 + j - ((rs.map fun r => pP r.pb).set j (pP r'.pb)).length = j from by simp; omega]
  rw [List.set_append_left _ _ (by simp; omega), List.map_set, List.map_set]
theorem putK_one {w : Nat} {K : KM} {l : List Nd} (h : SupK w K) (hw : 1 ≤ w) (h1 : (K 1).isSome = true) : ((putK w K l) 1).isSome = true := by
  rw [putK_le (l := l) h hw _ _ (kis h1)]; rfl
theorem chN_short {n : Nat} {K : KM} {i : Int} (h1 : 1 ≤ n) (h2 : n ≤ 512) : (chN n K i).length ≤ 100000 := by
  have hwo := wd_ok h1 h2
  unfold chN
  split
  · rename_i h
    have hl : lfB n i = true := by
      cases hl : lfB n i with
      | true => rfl
      | false => unfold chE at h; rw [if_neg (by rw [hl]; decide)] at h; cases h
    have := lfB_t.1 hl
    rw [chF_len]
    have := chL_lenle (wdM n + i.toNat)
    omega
  · simp
theorem ndsN_short {n : Nat} {K : KM} {i : Int} (h1 : 1 ≤ n) (h2 : n ≤ 512) (hr : (K 1).isSome = true) : (ndsN n K i).length ≤ 100000 := by
  have hwo := wd_ok h1 h2
  unfold ndsN
  split
  · rename_i h
    have := lfB_t.1 h
    exact need_short (w := wdM n) hr (by omega) (by omega)
  · simp
structure PS where
  on : BitVec 8
  to : BitVec 8
  dd : BitVec 8
  i : Int
  q : NQ
def ePS (x : PS) : List Value := [.int .u8 (x.on.toNat : Int), .int .u8 (x.to.toNat : Int), .int .u8 (x.dd.toNat : Int), .int .i64 x.i, x.q.v]
theorem encPS : Enc ePS 5 := ⟨fun _ => rfl, fun q v hv => by
  simp only [ePS, List.mem_cons, List.not_mem_nil, or_false] at hv
  rcases hv with rfl | rfl | rfl | rfl | rfl <;> rfl⟩
end Go.ShM
/-
  Lists of nodes handed out, written over, longer ones made of them: in plain words, and what is owned. (Conditions: none; no program in sight.)
-/
set_option maxRecDepth 20000
set_option linter.all false
namespace Go.ShM
open Go.SL Go.RowKit
def bD (i : Nat) : Dg := ⟨(List.replicate 32 0#8).set 0 (BitVec.ofNat 8 i), by simp⟩
def nM (k i : Nat) : Nd := (-((k : Nat) : Int) - 1, bD i)
def FQN (T : TypeId) (q : QI) : Asn := apk q.a q.cap q.a' q.cap' 33 T eND (mks (nM (q.j + 1)) 0 q.n) (mks (nM (q.j + 1)) 0 (q.n + 70))
def mkPN (k : Nat) (p : PN) : PN := ⟨p.a, p.cap, mks (nM (k + 1)) 0 p.l.length⟩
def mkdN (ps : List PN) (k : Nat) : List PN := ps.mapIdx fun j p => if j < k then mkPN j p else p
theorem mkdN_0 (ps : List PN) : mkdN ps 0 = ps := by
  unfold mkdN
  apply List.ext_getElem?
  intro i
  rw [List.getElem?_mapIdx]
  cases ps[i]? <;> simp
theorem mkdN_at {ps : List PN} {k j : Nat} {p : PN} (h : ps[j]? = some p) : (mkdN ps k)[j]? = some (if j < k then mkPN j p else p) := by
  unfold mkdN; rw [List.getElem?_mapIdx, h]; rfl
theorem mkdN_len (ps : List PN) (k : Nat) : (mkdN ps k).length = ps.length := by simp [mkdN]
theorem mkdN_set {ps : List PN} {k : Nat} {p : PN} (h : ps[k]? = some p) : (mkdN ps k).set k (mkPN k p) = mkdN ps (k + 1) := by
  have hk := (List.getElem?_eq_some_iff.1 h).1
  apply List.ext_getElem?
  intro i
  rw [List.getElem?_set, mkdN_len]
  by_cases hi : k = i
  · subst hi
    rw [if_pos rfl, if_pos hk, mkdN_at h, if_pos (by omega)]
  · rw [if_neg hi]
    unfold mkdN
    rw [List.getElem?_mapIdx, List.getElem?_mapIdx]
    cases ps[i]? with
    | none => rfl
    | some x =>
      simp only [Option.map_some]
      by_cases h2 : i < k
      · rw [if_pos h2, if_pos (by omega)]
      · rw [if_neg h2, if_neg (by omega)]
theorem mkdN_all {ps : List PN} {j : Nat} {p : PN} (h : ps[j]? = some p) : (mkdN ps ps.length)[j]? = some (mkPN j p) := by
  rw [mkdN_at h, if_pos (List.getElem?_eq_some_iff.1 h).1]
def QOkN (ps : List PN) (qs : List QI) : Prop := ∀ (j : Nat) (q : QI), qs[j]? = some q → q.j = j ∧ q.a' ≠ none ∧ q.n + 70 ≤ q.cap' ∧ (q.a = none → q.n = 0) ∧ q.n ≤ q.cap ∧ ∃ p, ps[j]? = some p ∧ q.a = p.a ∧ q.cap = p.cap ∧ q.n = p.l.length
theorem QOkN_nil {ps : List PN} : QOkN ps [] := fun j q h => by simp at h
theorem QOkN_snoc {ps : List PN} {qs : List QI} {q : QI} {p : PN} (h : QOkN ps qs) (hp : ps[qs.length]? = some p) (hj : q.j = qs.length) (h1 : q.a' ≠ none) (h2 : q.n + 70 ≤ q.cap') (h3 : q.a = none → q.n = 0) (h4 : q.n ≤ q.cap) (h5 : q.a = p.a) (h6 : q.cap = p.cap) (h7 : q.n = p.l.length) : QOkN ps (qs ++ [q]) := by
  intro j x hx
  rw [List.getElem?_append] at hx
  split at hx
  · exact h j x hx
  · rename_i hlt
    have : j - qs.length = 0 := by
      have := (List.getElem?_eq_some_iff.1 hx).1
      simp at this; omega
    rw [this] at hx
    simp at hx
    subst hx
    have e : j = qs.length := by omega
    subst e
    exact ⟨hj, h1, h2, h3, h4, p, hp, h5, h6, h7⟩
theorem Sv_FQNn {T : TypeId} {q : QI} (h1 : q.a' ≠ none) (h2 : q.n + 70 ≤ q.cap') : Sv [FQN T q] (sl q.a' (q.n + 70) q.cap') 33 eND (mks (nM (q.j + 1)) 0 (q.n + 70)) (q.a'.map fun g => ⟨g, 0, none⟩) q.cap' := by
  have h := Sv_apkN (a := q.a) (cap := q.cap) (a' := q.a') (cap' := q.cap') (T := T) (l := mks (nM (q.j + 1)) 0 q.n) (l' := mks (nM (q.j + 1)) 0 (q.n + 70)) encND (fun e => absurd e h1) (by rw [mks_len]; exact h2)
  rw [mks_len] at h
  exact h
theorem Sv_FQNe {T : TypeId} {q : QI} (h1 : q.a = none → q.n = 0) (h2 : q.n ≤ q.cap) : Sv [FQN T q] (sl q.a q.n q.cap) 33 eND (mks (nM (q.j + 1)) 0 q.n) (q.a.map fun g => ⟨g, 0, none⟩) q.cap := by
  have h := Sv_apkE (a := q.a) (cap := q.cap) (a' := q.a') (cap' := q.cap') (T := T) (l := mks (nM (q.j + 1)) 0 q.n) (l' := mks (nM (q.j + 1)) 0 (q.n + 70)) encND (mks_pre _ _ _) (fun e => by rw [h1 e]; rfl) (by rw [mks_len]; exact h2)
  rw [mks_len] at h
  exact h
end Go.ShM
/-
  Four proofs that are made, one by one; a script of steps that was handed in. (Conditions: none; generic over the program.)
-/
set_option maxRecDepth 20000
set_option linter.all false
namespace Go.ShM
open Go.SL Go.RowKit Go.ChangeShapes Go.WideShapes
def bk0 : BKp := ⟨[], none, 0, [], none, 0, [], none, 0⟩
def PLi (rs : List PR) : List Value := (rs.map (fun r => pP r.pb) ++ List.replicate (4 - rs.length) (Value.pointer none)) ++ ((rs.map (fun r => pP r.qb) ++ List.replicate (4 - rs.length) (Value.pointer none)) ++ tlP bk0)
theorem PLi_len {rs : List PR} (h : rs.length ≤ 4) : (PLi rs).length = 11 := by simp [PLi, tlP]; omega
theorem PLi_4 {rs : List PR} (h : rs.length = 4) : PLi rs = PLc rs bk0 := by
  unfold PLi PLc
  rw [h, Nat.sub_self, List.replicate_zero, List.append_nil, List.append_nil]
theorem one_more {α : Type} {f : α → Value} {rs : List α} {r : α} (h : rs.length < 4) : (rs.map f ++ List.replicate (4 - rs.length) (Value.pointer none)).set rs.length (f r) = (rs ++ [r]).map f ++ List.replicate (4 - (rs ++ [r]).length) (Value.pointer none) := by
  rw [List.set_append_right _ _ (by simp), List.length_map, Nat.sub_self, List.map_append, List.length_append, List.length_singleton]
  obtain ⟨k, hk⟩ : ∃ k, 4 - rs.length = k + 1 := ⟨3 - rs.length, by omega⟩
  rw [hk, show 4 - (rs.length + 1) = k from by omega, List.replicate_succ, List.set_cons_zero]
  simp
theorem PLi_new {rs : List PR} {r : PR} (h : rs.length < 4) : ((PLi rs).set rs.length (pP r.pb)).set (4 + rs.length) (pP r.qb) = PLi (rs ++ [r]) := by
  unfold PLi
  rw [List.set_append_left _ _ (by simp; omega), one_more (f := fun r : PR => pP r.pb) h]
  rw [List.set_append_right _ _ (by simp; omega)]
  rw [show 4 + rs.length - ((rs ++ [r]).map (fun r => pP r.pb) ++ List.replicate (4 - (rs ++ [r]).length) (Value.pointer none)).length = rs.length from by simp; omega]
  rw [List.set_append_left _ _ (by simp; omega), one_more (f := fun r : PR => pP r.qb) h]
theorem rng_cases (x : Int) : (x < 1 ∨ 512 < x) ∨ ∃ n : Nat, x = (n : Int) ∧ 1 ≤ n ∧ n ≤ 512 := by
  by_cases h : x < 1 ∨ 512 < x
  · exact .inl h
  · exact .inr ⟨x.toNat, by omega, by omega, by omega⟩
section
variable {H : Type} {enc : TypeId × Value → H} {P : Program} {W : World} {base : Nat} {sp : Nat → Bool} {hd : Bool}
theorem el_ps {m : DataW H → Nat} (hm : Meas m) {t e : TypeId} {q k : Nat} (hk : cks P q t = some [.int .u8, .int .u8, .int .u8, .int .i64, .slice e]) (hke : cks P k e = some [.int .i64, .ints .u8 32]) (hz : P.cellsOf e = 33) {n : Nat} {c : List Value} {y : DataW H × List MemPlace} (h : DataW.trod enc P W base sp hd n t c = some y) :
    ∃ a : PS, c = ePS a ∧ OKnq [old W] (m y.1) a.q := by
  have hf := cks_fits (N := m y.1) hm q t _ n c y hk h (Nat.le_refl _)
  simp only [Fits] at hf
  obtain ⟨i1, _, rfl, w1, i2, _, rfl, w2, i3, _, rfl, w3, i4, _, rfl, _, v, _, rfl, ⟨l, ao, cap, hS, hcap, hle, hall⟩, rfl⟩ := hf
  rw [hz] at hS
  have h1 : ∀ x ∈ l, ∃ a : Nd, x = eND a ∧ True := fun x hx => by
    obtain ⟨n', y', hy, _⟩ := hall x hx
    obtain ⟨a, ha, _⟩ := el_nd hm hke _ _ _ hy
    exact ⟨a, ha, trivial⟩
  obtain ⟨L, rfl, _⟩ := SL.typed h1
  have g1 := Sv.typed hS
  have e1 := g1.val
  subst e1
  obtain ⟨b1, rfl⟩ := u8_of w1
  obtain ⟨b2, rfl⟩ := u8_of w2
  obtain ⟨b3, rfl⟩ := u8_of w3
  exact ⟨⟨b1, b2, b3, i4, ⟨L, ao, cap⟩⟩, rfl, g1, by simpa using hle⟩
theorem open_pss {m : DataW H → Nat} (hm : MeasS m) {t e1 e : TypeId} {q k : Nat} {v : Value} {d : DataW H} {ps : List MemPlace} {r : Reach} {b0 : Nat} (ht : P.underlying t = some (.slice e1)) (hz1 : sz P e1 = some 5) (hk : cks P q e1 = some [.int .u8, .int .u8, .int .u8, .int .i64, .slice e]) (hke : cks P k e = some [.int .i64, .ints .u8 32]) (hz : P.cellsOf e = 33) (hval : Value.okWide P W r b0 t v)
    (h : DataW.Trod enc P W base sp hd t v d ps) {N : Nat} (hN : m d ≤ N) : ∃ (qs : List PS) (ao : Option Addr) (cap : Nat), Sv [old W] v 5 ePS qs ao cap ∧ (∀ x ∈ qs, OKnq [old W] N x.q) ∧ qs.length ≤ N := by
  obtain ⟨a0, len, cap0, rfl⟩ := okWide_slice ht hval
  obtain ⟨fuel, hf⟩ := h
  obtain ⟨v', l, ao, cap, hv, hS, hcap, hor⟩ := open_slice_cells (k := 4) ht hz1 hf
  simp only [Value.cells, List.cons.injEq, and_true] at hv
  subst hv
  rcases hor with ⟨hnil, rfl, _⟩ | ⟨ds, rs, n', h1', h2, _, _, h3⟩
  · exact ⟨[], ao, cap, Sv.typed (f := ePS) (l := []) hS, fun p h => by simp at h, by simp⟩
  · rw [show d = .slice ds rs from h1'] at hN
    have hall : ∀ x ∈ l, ∃ a : PS, x = ePS a ∧ OKnq [old W] N a.q := fun x hx => by
      obtain ⟨i, hi, hxe⟩ := List.getElem_of_mem hx
      obtain ⟨y', hy, hyd⟩ := h3 i x (by rw [List.getElem?_eq_getElem hi, hxe])
      obtain ⟨a, ha, hA, hA'⟩ := el_ps hm.toMeas hk hke hz hy
      have := hm.el ds rs y'.1 (List.mem_of_getElem? hyd)
      exact ⟨a, ha, hA, by omega⟩
    obtain ⟨l', rfl, hall'⟩ := SL.typed hall
    have e2 := hm.len ds rs
    exact ⟨l', ao, cap, Sv.typed hS, hall', by simp at h2; omega⟩
end
end Go.ShM
