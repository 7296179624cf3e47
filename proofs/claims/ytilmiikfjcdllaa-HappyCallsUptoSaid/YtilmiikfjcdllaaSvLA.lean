/-
  Contracts of functions that the claim reaches, or the logic and the plain laws that they rest on, or the row over them. (Conditions: none beyond the statement.)
-/
import Derived.Test.YtilmiikfjcdllaaShA
import Derived.Test.YtilmiikfjcdllaaLibA
import Derived.Maps.RangeRun
import Derived.Test.YtilmiikfjcdllaaLibC
import Derived.Test.YtilmiikfjcdllaaLibB
set_option linter.all false
/-
  What a server holds, and what is done with it, in plain words. (Conditions: none; no program in sight.)
-/
set_option maxRecDepth 20000
namespace Go.SvM
open Go.SL Go.ShM
structure Ix where
  l : List B8
  h : l.length = 16
deriving DecidableEq
abbrev Ky := Ix × Int
abbrev Ls := B32 × Int
structure Kp where
  ix : Ix
  num : Int
  b : List B8
  ls : List Ls
def Kp.key (e : Kp) : Ky := (e.ix, e.num)
def Vx : List B8 → Nat
  | [] => 0
  | x :: l => x.toNat * 256 ^ l.length + Vx l
def kLt (a b : Ky) : Prop := Vx a.1.l < Vx b.1.l ∨ (Vx a.1.l = Vx b.1.l ∧ a.2 < b.2)
def wLt (a b : Ls) : Prop := a.1.toNat < b.1.toNat
instance (a b : Ky) : Decidable (kLt a b) := by unfold kLt; infer_instance
instance (a b : Ls) : Decidable (wLt a b) := by unfold wLt; infer_instance
theorem Vx_lt : ∀ l : List B8, Vx l < 256 ^ l.length
  | [] => by simp [Vx]
  | x :: l => by
    have := Vx_lt l
    have hx : x.toNat < 256 := x.isLt
    have h2 : (x.toNat + 1) * 256 ^ l.length ≤ 256 * 256 ^ l.length := Nat.mul_le_mul_right _ hx
    rw [List.length_cons, Nat.pow_succ, Vx, Nat.mul_comm (256 ^ l.length)]
    rw [Nat.add_mul, Nat.one_mul] at h2
    omega
theorem Vx_inj : ∀ {a b : List B8}, a.length = b.length → Vx a = Vx b → a = b
  | [], [], _, _ => rfl
  | [], _ :: _, h, _ => by simp at h
  | _ :: _, [], h, _ => by simp at h
  | x :: a, y :: b, h, e => by
    have hl : a.length = b.length := by simpa using h
    simp only [Vx, hl] at e
    have ha := Vx_lt a
    have hb := Vx_lt b
    rw [hl] at ha
    have hxy : x.toNat = y.toNat := by
      rcases Nat.lt_trichotomy x.toNat y.toNat with q | q | q
      · have := Nat.mul_le_mul_right (256 ^ b.length) q
        rw [Nat.succ_mul] at this; omega
      · exact q
      · have := Nat.mul_le_mul_right (256 ^ b.length) q
        rw [Nat.succ_mul] at this; omega
    have := Vx_inj hl (by rw [hxy] at e; omega)
    rw [this, BitVec.eq_of_toNat_eq hxy]
theorem ix_inj {a b : Ix} (h : Vx a.l = Vx b.l) : a = b := by
  obtain ⟨x, hx⟩ := a
  obtain ⟨y, hy⟩ := b
  have := Vx_inj (hx.trans hy.symm) h
  subst this; rfl
theorem kLt_irr (a : Ky) : ¬ kLt a a := by unfold kLt; omega
theorem kLt_tr {a b c : Ky} : kLt a b → kLt b c → kLt a c := by unfold kLt; omega
theorem kLt_tot {a b : Ky} (h : ¬ kLt a b) (k : ¬ kLt b a) : a = b := by
  unfold kLt at h k
  have h1 : a.1 = b.1 := ix_inj (by omega)
  exact Prod.ext h1 (by rw [h1] at h k; omega)
theorem kLt_ne {a b : Ky} (h : kLt a b) : a ≠ b := fun e => kLt_irr a (by rw [e] at h ⊢; exact h)
theorem wLt_ne {a b : Ls} (h : wLt a b) : a.1 ≠ b.1 := fun e => by unfold wLt at h; rw [e] at h; omega
def usedM (l : List Kp) : Nat := (l.map fun e => e.b.length).sum
theorem usedM_perm {l l' : List Kp} (p : l.Perm l') : usedM l = usedM l' := (p.map _).sum_nat
theorem usedM_cons (e : Kp) (l : List Kp) : usedM (e :: l) = e.b.length + usedM l := by simp [usedM]
def SrtK (l : List Kp) : Prop := l.Pairwise fun a b => kLt a.key b.key
def SrtW (l : List Ls) : Prop := l.Pairwise wLt
theorem SrtK.nd {l : List Kp} (h : SrtK l) : (l.map Kp.key).Nodup := List.pairwise_map.2 (List.Pairwise.imp (fun q => kLt_ne q) h)
theorem SrtW.nd {l : List Ls} (h : SrtW l) : (l.map Prod.fst).Nodup := List.pairwise_map.2 (List.Pairwise.imp (fun q => wLt_ne q) h)
def runsL (t : Int) (ls : List Ls) : List Ls := ls.filter fun x => decide (t ≤ x.2)
def Kp.with (e : Kp) (ls : List Ls) : Kp := ⟨e.ix, e.num, e.b, ls⟩
def keepK (e : Kp) (ls : List Ls) : Option Kp := if ls = [] then none else some (e.with ls)
def tickK (t : Int) (e : Kp) : Option Kp := keepK e (runsL t e.ls)
def tickL (t : Int) (l : List Kp) : List Kp := l.filterMap (tickK t)
theorem keepK_key {e x : Kp} {ls : List Ls} (h : keepK e ls = some x) : x.key = e.key ∧ x.b = e.b ∧ x.ls = ls ∧ ls ≠ [] := by
  unfold keepK at h
  split at h
  · cases h
  · cases h; exact ⟨rfl, rfl, rfl, ‹_›⟩
theorem SrtK.fm {l : List Kp} {f : Kp → Option Kp} (h : SrtK l) (hf : ∀ e x, f e = some x → x.key = e.key) : SrtK (l.filterMap f) := by
  unfold SrtK at *
  rw [List.pairwise_filterMap]
  exact h.imp fun {a b} q x hx y hy => by rw [hf a x hx, hf b y hy]; exact q
def layL (w : B32) (u : Int) : List Ls → List Ls
  | [] => [(w, u)]
  | x :: r => if x.1 = w then (w, max x.2 u) :: r else if w.toNat < x.1.toNat then (w, u) :: x :: r else x :: layL w u r
def hasW (w : B32) (ls : List Ls) : Bool := ls.any fun x => decide (x.1 = w)
theorem hasW_iff {w : B32} {ls : List Ls} : hasW w ls = true ↔ w ∈ ls.map Prod.fst := by
  unfold hasW
  rw [List.any_eq_true, List.mem_map]
  constructor
  · rintro ⟨x, h1, h2⟩; exact ⟨x, h1, by simpa using h2⟩
  · rintro ⟨x, h1, h2⟩; exact ⟨x, h1, by simpa using h2⟩
def underM (x : Ix) (p : Kp → Bool) (l : List Kp) : List Int := (l.filter fun e => decide (e.ix = x) && p e).map Kp.num
def findK (k : Ky) (l : List Kp) : Option Kp := l.find? fun e => decide (e.key = k)
theorem findK_none {k : Ky} {l : List Kp} (h : findK k l = none) : k ∉ l.map Kp.key := fun hk => by
  obtain ⟨e, he, rfl⟩ := List.mem_map.1 hk
  unfold findK at h
  rw [List.find?_eq_none] at h
  exact absurd (by simp) (h e he)
theorem findK_mem {l : List Kp} (hn : (l.map Kp.key).Nodup) {e : Kp} (h : e ∈ l) : findK e.key l = some e := by
  induction l with
  | nil => cases h
  | cons x r ih =>
    have hn' := List.nodup_cons.1 hn
    unfold findK
    rcases List.mem_cons.1 h with rfl | q
    · rw [List.find?_cons_of_pos (by simp)]
    · rw [List.find?_cons_of_neg (by simpa using fun e' : x.key = e.key => hn'.1 (by rw [e']; exact List.mem_map.2 ⟨e, q, rfl⟩))]
      exact ih hn'.2 q
end Go.SvM
/-
  Maps of whatever keys, as lists of pairs up to order: look-ups, writes, deletes, lengths; going through one in an order that nobody knows. (Conditions: none; generic over the program.)
-/
namespace Go.SL
open Go.RowKit
open Classical in
noncomputable def posV (k : Value) : List MapEntry → Option Nat
  | [] => none
  | e :: r => if e.key = k then some 0 else (posV k r).map (· + 1)
theorem posV_cons (k : Value) (e : MapEntry) (r : List MapEntry) [Decidable (e.key = k)] : posV k (e :: r) = if e.key = k then some 0 else (posV k r).map (· + 1) := by
  rw [posV]; by_cases h : e.key = k <;> simp [h]
theorem posV_some {k : Value} : ∀ {l : List MapEntry} {j : Nat}, posV k l = some j → ∃ e, l[j]? = some e ∧ e.key = k
  | [], j, h => by cases h
  | x :: r, j, h => by
    classical
    rw [posV_cons] at h
    split at h
    · rename_i hx; cases h; exact ⟨x, rfl, hx⟩
    · cases hp : posV k r with
      | none => rw [hp] at h; cases h
      | some j' =>
        rw [hp] at h; simp at h; subst h
        obtain ⟨e, h1, h2⟩ := posV_some hp
        exact ⟨e, by simpa using h1, h2⟩
theorem posV_none {k : Value} : ∀ {l : List MapEntry}, posV k l = none → ∀ e ∈ l, e.key ≠ k
  | [], _, e, he => by cases he
  | x :: r, h, e, he => by
    classical
    rw [posV_cons] at h
    split at h
    · cases h
    · rename_i hx
      cases hp : posV k r with
      | some j' => rw [hp] at h; cases h
      | none =>
        rcases List.mem_cons.1 he with rfl | he
        · exact hx
        · exact posV_none hp e he
structure KeyT (P : Program) (kt : TypeId) {κ : Type} (kf : κ → Value) : Prop where
  inj : ∀ a b, kf a = kf b → a = b
  find : ∀ (k : κ) (l : List MapEntry) (w : World), (∀ e ∈ l, ∃ a, e.key = kf a) → (Instr.findKey kt (kf k) l).run P w = .ok ((posV (kf k) l).map fun j => (j, (l[j]?.map (·.val)).getD undef)) w
  check : ∀ (b : Bool) (k : κ) (w : World), (Instr.checkKey b 10000 kt (kf k)).run P w = .ok () w
  stay : ∀ k, Instr.sameBits 10000 (kf k) (kf k) = true
section
variable {κ β : Type} [DecidableEq κ]
def getL (k : κ) (l : List (κ × β)) : Option β := (l.find? (fun p => decide (p.1 = k))).map Prod.snd
def delL (k : κ) (l : List (κ × β)) : List (κ × β) := l.filter fun p => decide (p.1 ≠ k)
def putL (k : κ) (b : β) (l : List (κ × β)) : List (κ × β) := (k, b) :: delL k l
def keysL (l : List (κ × β)) : List κ := l.map Prod.fst
theorem getL_none {k : κ} {l : List (κ × β)} (h : k ∉ keysL l) : getL k l = none := by
  unfold getL
  rw [List.find?_eq_none.2 (fun p hp e => h (List.mem_map.2 ⟨p, hp, by simpa using e⟩))]; rfl
theorem getL_some {k : κ} {b : β} : ∀ {l : List (κ × β)}, (keysL l).Nodup → (k, b) ∈ l → getL k l = some b
  | [], _, h => by cases h
  | p :: l, hn, h => by
    unfold getL
    by_cases e : p.1 = k
    · rw [List.find?_cons_of_pos (by simpa using e)]
      rcases List.mem_cons.1 h with q | q
      · rw [← q]; rfl
      · exact absurd (List.mem_map.2 ⟨(k, b), q, rfl⟩) (by have := (List.nodup_cons.1 hn).1; rw [e] at this; exact this)
    · rw [List.find?_cons_of_neg (by simpa using e)]
      rcases List.mem_cons.1 h with q | q
      · exact absurd (by rw [← q]) e
      · exact getL_some (List.nodup_cons.1 hn).2 q
theorem getL_mem {k : κ} {b : β} {l : List (κ × β)} (h : getL k l = some b) : (k, b) ∈ l := by
  unfold getL at h
  cases e : l.find? (fun p => decide (p.1 = k)) with
  | none => rw [e] at h; cases h
  | some p =>
    rw [e] at h
    have h1 := List.find?_some e
    have h2 := List.mem_of_find?_eq_some e
    obtain ⟨a, c⟩ := p
    simp at h1 h; subst h1; subst h; exact h2
theorem delL_no {k : κ} {l : List (κ × β)} (h : k ∉ keysL l) : delL k l = l := by
  unfold delL
  exact List.filter_eq_self.2 fun p hp => by simpa using fun e : p.1 = k => h (List.mem_map.2 ⟨p, hp, e⟩)
theorem delL_perm {k : κ} {b : β} : ∀ {l : List (κ × β)}, (keysL l).Nodup → (k, b) ∈ l → l.Perm ((k, b) :: delL k l)
  | [], _, h => by cases h
  | p :: l, hn, h => by
    have hn' := List.nodup_cons.1 hn
    rcases List.mem_cons.1 h with q | q
    · subst q
      have : delL k ((k, b) :: l) = l := by
        unfold delL
        rw [List.filter_cons_of_neg (by simp)]
        exact delL_no hn'.1
      rw [this]
    · have hne : p.1 ≠ k := fun e => hn'.1 (List.mem_map.2 ⟨(k, b), q, e.symm⟩)
      have : delL k (p :: l) = p :: delL k l := by unfold delL; rw [List.filter_cons_of_pos (by simpa using hne)]
      rw [this]
      exact ((delL_perm hn'.2 q).cons p).trans (.swap _ _ _)
theorem keys_delL {k : κ} {l : List (κ × β)} {j : κ} : j ∈ keysL (delL k l) ↔ j ∈ keysL l ∧ j ≠ k := by
  unfold keysL delL
  simp only [List.mem_map, List.mem_filter, decide_eq_true_eq]
  constructor
  · rintro ⟨p, ⟨h1, h2⟩, rfl⟩; exact ⟨⟨p, h1, rfl⟩, h2⟩
  · rintro ⟨⟨p, h1, rfl⟩, h2⟩; exact ⟨p, ⟨h1, h2⟩, rfl⟩
theorem nodup_delL {k : κ} {l : List (κ × β)} (h : (keysL l).Nodup) : (keysL (delL k l)).Nodup := h.sublist ((List.filter_sublist).map _)
theorem nodup_putL {k : κ} {b : β} {l : List (κ × β)} (h : (keysL l).Nodup) : (keysL (putL k b l)).Nodup :=
  List.nodup_cons.2 ⟨fun h => (keys_delL.1 h).2 rfl, nodup_delL h⟩
theorem perm_nodup {l l' : List (κ × β)} (p : l.Perm l') (h : (keysL l).Nodup) : (keysL l').Nodup := ((p.map Prod.fst).nodup_iff).1 h
theorem getL_isSome {k : κ} {l : List (κ × β)} : (getL k l).isSome = true ↔ k ∈ keysL l := by
  constructor
  · intro h
    obtain ⟨b, hb⟩ := Option.isSome_iff_exists.1 h
    exact List.mem_map.2 ⟨_, getL_mem hb, rfl⟩
  · intro h
    cases e : getL k l with
    | some b => rfl
    | none =>
      obtain ⟨p, hp, rfl⟩ := List.mem_map.1 h
      unfold getL at e
      simp only [Option.map_eq_none_iff, List.find?_eq_none] at e
      exact absurd (by simp) (e p hp)
def kvE (e : MapEntry) : Value × Value := (e.key, e.val)
def kvL (kf : κ → Value) (vf : β → Value) (p : κ × β) : Value × Value := (kf p.1, vf p.2)
structure MWP (kf : κ → Value) (vf : β → Value) (es : List MapEntry) (ck : Nat) (l : List (κ × β)) : Prop where
  pm : (es.map kvE).Perm (l.map (kvL kf vf))
  nd : (keysL l).Nodup
  born : ∀ e ∈ es, e.born < ck
  bnd : (es.map (·.born)).Nodup
def mpP (m : Nat) (kf : κ → Value) (vf : β → Value) (l : List (κ × β)) : Asn := fun h => ∃ x : Array MapEntry × Nat, MWP kf vf x.1.toList x.2 l ∧ pt m (.map x.1 x.2) h
variable {kf : κ → Value} {vf : β → Value} {es : List MapEntry} {ck : Nat} {l : List (κ × β)}
theorem MWP.keys (h : MWP kf vf es ck l) : ∀ e ∈ es, ∃ a, e.key = kf a := fun e he => by
  obtain ⟨p, hp, q⟩ := List.mem_map.1 (h.pm.mem_iff.1 (List.mem_map.2 ⟨e, he, rfl⟩))
  exact ⟨p.1, by have := congrArg Prod.fst q; exact this.symm⟩
theorem MWP.perm {l' : List (κ × β)} (h : MWP kf vf es ck l) (p : l.Perm l') : MWP kf vf es ck l' := ⟨h.pm.trans (p.map _), perm_nodup p h.nd, h.born, h.bnd⟩
theorem MWP.at (hi : ∀ a b, kf a = kf b → a = b) (h : MWP kf vf es ck l) {k : κ} {j : Nat} {e : MapEntry} (hj : es[j]? = some e) (hk : e.key = kf k) : ∃ b, e.val = vf b ∧ (k, b) ∈ l ∧ getL k l = some b := by
  obtain ⟨p, hp, q⟩ := List.mem_map.1 (h.pm.mem_iff.1 (List.mem_map.2 ⟨e, List.mem_of_getElem? hj, rfl⟩))
  have q1 : kf p.1 = kf k := (congrArg Prod.fst q).trans hk
  obtain ⟨a, b⟩ := p
  obtain rfl := hi _ _ q1
  exact ⟨b, (congrArg Prod.snd q).symm, hp, getL_some h.nd hp⟩
theorem MWP.absent (h : MWP kf vf es ck l) {k : κ} (hp : posV (kf k) es = none) : k ∉ keysL l := fun hk => by
  obtain ⟨p, hp', rfl⟩ := List.mem_map.1 hk
  obtain ⟨e, he, q⟩ := List.mem_map.1 (h.pm.mem_iff.2 (List.mem_map.2 ⟨p, hp', rfl⟩))
  exact posV_none hp e he (congrArg Prod.fst q)
theorem perm_erase {α : Type} : ∀ {l : List α} {j : Nat} {x : α}, l[j]? = some x → l.Perm (x :: l.eraseIdx j)
  | [], j, x, h => by simp at h
  | y :: l, 0, x, h => by simp at h; subst h; exact .refl _
  | y :: l, j + 1, x, h => ((perm_erase (l := l) (by simpa using h)).cons y).trans (.swap _ _ _)
theorem perm_set {α : Type} : ∀ {l : List α} {j : Nat} {x y : α}, l[j]? = some x → (l.set j y).Perm (y :: l.eraseIdx j)
  | [], j, x, y, h => by simp at h
  | z :: l, 0, x, y, h => by simp
  | z :: l, j + 1, x, y, h => ((perm_set (l := l) (y := y) (by simpa using h)).cons z).trans (.swap _ _ _)
theorem MWP.del0 (hi : ∀ a b, kf a = kf b → a = b) (h : MWP kf vf es ck l) {k : κ} {j : Nat} {e : MapEntry} (hj : es[j]? = some e) (hk : e.key = kf k) : ((es.eraseIdx j).map kvE).Perm ((delL k l).map (kvL kf vf)) := by
  obtain ⟨b, hb, hm, _⟩ := h.at hi hj hk
  have h1 := (perm_erase hj).map kvE
  have h2 := (delL_perm h.nd hm).map (kvL kf vf)
  have h3 := h1.symm.trans (h.pm.trans h2)
  rw [List.map_cons, List.map_cons, show kvE e = kvL kf vf (k, b) from by unfold kvE kvL; rw [hk, hb]] at h3
  exact h3.cons_inv
theorem MWP.set (hi : ∀ a b, kf a = kf b → a = b) (h : MWP kf vf es ck l) {k : κ} {b : β} {j : Nat} {e : MapEntry} (hj : es[j]? = some e) (hk : e.key = kf k) : MWP kf vf (es.set j { key := kf k, val := vf b, born := e.born }) ck (putL k b l) := by
  have hp := perm_set (y := ({ key := kf k, val := vf b, born := e.born } : MapEntry)) hj
  refine ⟨?_, nodup_putL h.nd, fun x hx => ?_, ?_⟩
  · refine (hp.map kvE).trans ?_
    rw [List.map_cons]
    exact (h.del0 hi hj hk).cons _
  · rcases List.mem_or_eq_of_mem_set hx with hx | rfl
    · exact h.born x hx
    · exact h.born e (List.mem_of_getElem? hj)
  · have hm2 : (es.set j { key := kf k, val := vf b, born := e.born }).map (·.born) = es.map (·.born) := by
      rw [List.map_set]
      have hlt := (List.getElem?_eq_some_iff.1 hj).1
      have : e.born = (es.map (·.born))[j]'(by simpa using hlt) := by simp [(List.getElem?_eq_some_iff.1 hj).2]
      show (es.map (·.born)).set j e.born = _
      rw [this, List.set_getElem_self]
    rw [hm2]; exact h.bnd
theorem MWP.push (h : MWP kf vf es ck l) {k : κ} (b : β) (hp : posV (kf k) es = none) : MWP kf vf (es ++ [{ key := kf k, val := vf b, born := ck }]) (ck + 1) (putL k b l) := by
  have hk := h.absent hp
  refine ⟨?_, nodup_putL h.nd, fun x hx => ?_, ?_⟩
  · unfold putL
    rw [delL_no hk, List.map_append, List.map_cons]
    refine List.perm_append_comm.trans ?_
    exact h.pm.cons _
  · rcases List.mem_append.1 hx with hx | hx
    · have := h.born x hx; omega
    · simp at hx; subst hx; exact Nat.lt_succ_self _
  · rw [List.map_append, List.nodup_append]
    refine ⟨h.bnd, by simp, fun a ha b hb => ?_⟩
    simp at hb; subst hb
    obtain ⟨e, he, rfl⟩ := List.mem_map.1 ha
    exact Nat.ne_of_lt (h.born e he)
theorem mpP_open {m : Nat} {R : List Asn} {w : World} (h : sat w (mpP m kf vf l :: R)) : ∃ es ck, MWP kf vf es.toList ck l ∧ sat w (pt m (.map es ck) :: R) := by
  obtain ⟨⟨es, ck⟩, h⟩ := sat_ex.1 h
  obtain ⟨h1, h2⟩ := sat_and.1 h
  exact ⟨es, ck, h1, h2⟩
theorem mpP_shut {m : Nat} {R : List Asn} {w : World} {es : Array MapEntry} {ck : Nat} (h : MWP kf vf es.toList ck l) (hs : sat w (pt m (.map es ck) :: R)) : sat w (mpP m kf vf l :: R) := sat_ex.2 ⟨(es, ck), sat_and.2 ⟨h, hs⟩⟩
theorem mpP_perm {m : Nat} {l' : List (κ × β)} {R : List Asn} {w : World} (p : l.Perm l') (h : sat w (mpP m kf vf l :: R)) : sat w (mpP m kf vf l' :: R) := by
  obtain ⟨es, ck, h1, h2⟩ := mpP_open h
  exact mpP_shut (h1.perm p) h2
theorem mpP_nd {m : Nat} {A : List Asn} {w : World} (hA : Has A (mpP m kf vf l)) (h : sat w A) : (keysL l).Nodup := by
  obtain ⟨R, p⟩ := hA
  obtain ⟨es, ck, h1, _⟩ := mpP_open (sat_perm p h)
  exact h1.nd
structure MWN (kf : κ → Value) (vf : β → Value) (es : List MapEntry) (ck : Nat) (l rest : List (κ × β)) (cur : Option (κ × β)) (seen : Array Nat) : Prop where
  mw : MWP kf vf es ck l
  rs : ((es.filter fun e => !seen.contains e.born).map kvE).Perm (rest.map (kvL kf vf))
  cr : ∀ p, cur = some p → ∃ e ∈ es, kvE e = kvL kf vf p ∧ ∃ s0 : Array Nat, seen = s0.push e.born
def mpN (m r : Nat) (kf : κ → Value) (vf : β → Value) (l rest : List (κ × β)) (cur : Option (κ × β)) : Asn := fun h => ∃ x : Array MapEntry × Nat × Array Nat, MWN kf vf x.1.toList x.2.1 l rest cur x.2.2 ∧ sep [pt m (.map x.1 x.2.1), pt r (.mapIter (some m) x.2.1 x.2.2 x.2.1)] h
variable {rest : List (κ × β)} {cur : Option (κ × β)}
theorem mpN_open {m r : Nat} {R : List Asn} {w : World} (h : sat w (mpN m r kf vf l rest cur :: R)) : ∃ es ck seen, MWN kf vf es.toList ck l rest cur seen ∧ sat w (pt m (.map es ck) :: pt r (.mapIter (some m) ck seen ck) :: R) := by
  obtain ⟨⟨es, ck, seen⟩, h⟩ := sat_ex.1 h
  obtain ⟨h1, h2⟩ := sat_and.1 h
  exact ⟨es, ck, seen, h1, sat_app.1 h2⟩
theorem mpN_shut {m r : Nat} {R : List Asn} {w : World} {es : Array MapEntry} {ck : Nat} {seen : Array Nat} (h : MWN kf vf es.toList ck l rest cur seen) (hs : sat w (pt m (.map es ck) :: pt r (.mapIter (some m) ck seen ck) :: R)) : sat w (mpN m r kf vf l rest cur :: R) :=
  sat_ex.2 ⟨(es, ck, seen), sat_and.2 ⟨h, sat_app.2 hs⟩⟩
theorem MWN.sub {seen : Array Nat} (hi : ∀ a b, kf a = kf b → a = b) (hv : ∀ a b, vf a = vf b → a = b) (h : MWN kf vf es ck l rest cur seen) : ∀ p ∈ rest, p ∈ l := fun p hp => by
  obtain ⟨e, he, q⟩ := List.mem_map.1 (h.rs.mem_iff.2 (List.mem_map.2 ⟨p, hp, rfl⟩))
  obtain ⟨p', hp', q'⟩ := List.mem_map.1 (h.mw.pm.mem_iff.1 (List.mem_map.2 ⟨e, (List.mem_filter.1 he).1, rfl⟩))
  have e1 := q'.trans q
  have e2 := hi _ _ (congrArg Prod.fst e1)
  have e3 := hv _ _ (congrArg Prod.snd e1)
  have : p' = p := Prod.ext e2 e3
  exact this ▸ hp'
theorem mpN_cur {m r : Nat} {R : List Asn} {w : World} (h : sat w (mpN m r kf vf l rest cur :: R)) : sat w (mpN m r kf vf l rest none :: R) := by
  obtain ⟨es, ck, seen, h1, h2⟩ := mpN_open h
  exact mpN_shut ⟨h1.mw, h1.rs, fun p hp => by cases hp⟩ h2
theorem mpN_perm {m r : Nat} {l' rest' : List (κ × β)} {R : List Asn} {w : World} (p : l.Perm l') (q : rest.Perm rest') (h : sat w (mpN m r kf vf l rest cur :: R)) : sat w (mpN m r kf vf l' rest' cur :: R) := by
  obtain ⟨es, ck, seen, h1, h2⟩ := mpN_open h
  exact mpN_shut ⟨h1.mw.perm p, h1.rs.trans (q.map _), h1.cr⟩ h2
theorem perm_filter {α γ : Type} [DecidableEq γ] (f : α → γ) : ∀ {l : List α} {x : α}, (l.map f).Nodup → x ∈ l → l.Perm (x :: l.filter fun y => decide (f y ≠ f x))
  | [], x, _, h => by cases h
  | y :: l, x, hn, h => by
    have hn' := List.nodup_cons.1 hn
    rcases List.mem_cons.1 h with q | q
    · subst q
      rw [List.filter_cons_of_neg (by simp), List.filter_eq_self.2 (fun z hz => by simpa using fun e : f z = f x => hn'.1 (e ▸ List.mem_map.2 ⟨z, hz, rfl⟩))]
    · have hne : f y ≠ f x := fun e => hn'.1 (e ▸ List.mem_map.2 ⟨x, q, rfl⟩)
      rw [List.filter_cons_of_pos (by simpa using hne)]
      exact ((perm_filter f hn'.2 q).cons y).trans (.swap _ _ _)
theorem MWN.next {seen : Array Nat} (hi : ∀ a b, kf a = kf b → a = b) (h : MWN kf vf es ck l rest cur seen) {e : MapEntry} (he : e ∈ es.filter fun e => !seen.contains e.born) :
    ∃ k b pre post, rest = pre ++ (k, b) :: post ∧ e.key = kf k ∧ e.val = vf b ∧ MWN kf vf es ck l (pre ++ post) (some (k, b)) (seen.push e.born) := by
  obtain ⟨p, hp, q⟩ := List.mem_map.1 (h.rs.mem_iff.1 (List.mem_map.2 ⟨e, he, rfl⟩))
  obtain ⟨k, b⟩ := p
  obtain ⟨pre, post, rfl⟩ := List.append_of_mem hp
  refine ⟨k, b, pre, post, rfl, (congrArg Prod.fst q).symm, (congrArg Prod.snd q).symm, h.mw, ?_, fun p hp => ?_⟩
  · have h1 := (perm_filter (·.born) (h.mw.bnd.sublist ((List.filter_sublist).map _)) he).map kvE
    have h2 : (es.filter fun x => !(seen.push e.born).contains x.born) = (es.filter fun e => !seen.contains e.born).filter fun y => decide (y.born ≠ e.born) := by
      rw [List.filter_filter]
      refine List.filter_congr fun x _ => ?_
      simp only [Array.contains_push, Bool.not_or]
      by_cases hx : x.born = e.born
      · simp [hx]
      · have h1 : (x.born == e.born) = false := by simpa using hx
        have h2 : (e.born == x.born) = false := by simpa using fun q : e.born = x.born => hx q.symm
        simp [hx, h1, h2]
    rw [h2]
    have h3 : ((pre ++ (k, b) :: post).map (kvL kf vf)).Perm (kvL kf vf (k, b) :: (pre ++ post).map (kvL kf vf)) := (List.perm_middle.map _)
    have h4 := h1.symm.trans (h.rs.trans h3)
    rw [List.map_cons, ← q] at h4
    exact h4.cons_inv
  · cases hp
    exact ⟨e, (List.mem_filter.1 he).1, q.symm, seen, rfl⟩
theorem mpN_done {m r : Nat} {R : List Asn} {w : World} (h : sat w (mpN m r kf vf l rest cur :: R)) : sat w (mpP m kf vf l :: R) := by
  obtain ⟨es, ck, seen, h1, h2⟩ := mpN_open h
  exact mpP_shut h1.mw (sat_sub (R := [pt r (.mapIter (some m) ck seen ck)]) (by
    rw [List.cons_append]
    exact (List.perm_append_comm (l₁ := [pt r (.mapIter (some m) ck seen ck)]) (l₂ := R)).cons _) h2)
end
section
variable {P : Program} {κ β : Type} [DecidableEq κ] {kf : κ → Value} {vf : β → Value} {l : List (κ × β)}
variable {n : Nat} {L : List (Nat × Value)} {A : List Asn} {d : Option Tmp} {ty : TypeId} {pos' : String} {af : Array Edge} {g : Option (Nat × Bool)}
theorem Ac_makeP {t : TypeId} (kf : κ → Value) (vf : β → Value) : Ac P n ⟨d, .makeMap t none, ty, pos', af, g⟩ L A (fun v A' => ∃ m, v = .map (some m) ∧ A' = mpP m kf vf ([] : List (κ × β)) :: A) :=
  Ac_run fun a w hf hs => by
    refine ⟨_, { w with heap := w.heap.push (.map #[] 0) }, _, .inl ?_, ⟨w.heap.size, rfl, rfl⟩, ?_, kept_new⟩
    · simp [execOp, Instr.makeMap]
    · exact mpP_shut (es := #[]) (ck := 0) ⟨.refl _, List.nodup_nil, fun e he => by simp at he, by simp⟩ (sat_new (w := w) (w' := { w with heap := w.heap.push (.map #[] 0) }) (o := .map #[] 0) rfl hs)
theorem run_lookP {t kt et : TypeId} {m : Nat} {k : κ} {z : Value} {x y : Operand} {a : Act} {w : World} {c : Bool} (hK : KeyT P kt kf) (hx : a.eval x = .map (some m)) (hy : a.eval y = kf k) (hu : P.underlying t = some (.map kt et)) (hz : ∀ w, (zeroValue et).run P w = .ok z w)
    {es : Array MapEntry} {ck : Nat} (hM : MWP kf vf es.toList ck l) (hm : w.heap[m]? = some (.map es ck)) :
    (Instr.lookup t (a.eval x) (a.eval y) c).run P w = .ok (if c then .tuple #[((getL k l).map vf).getD z, .bool (getL k l).isSome] else ((getL k l).map vf).getD z) w := by
  rw [hx, hy]
  simp only [Instr.lookup, Sem.run_bind, run_und hu, Result.andThen_ok, run_getObj hm, Sem.run_pure, hK.check, hK.find k _ _ hM.keys]
  cases hp : posV (kf k) es.toList with
  | none => rw [getL_none (hM.absent hp)]; cases c <;> simp [hz]
  | some j =>
    obtain ⟨e, he, hk⟩ := posV_some hp
    obtain ⟨b, hb, _, hg⟩ := hM.at hK.inj he hk
    rw [hg]; simp at he; cases c <;> simp [he, hb]
theorem Rd_lookP1 {t kt et : TypeId} {x y : Operand} {m : Nat} {k : κ} {z : Value} (hK : KeyT P kt kf) (hx : ev L x = some (.map (some m))) (hy : ev L y = some (kf k)) (hu : P.underlying t = some (.map kt et)) (hz : ∀ w, (zeroValue et).run P w = .ok z w)
    (hA : Has A (mpP m kf vf l) := by repeat (first | with_reducible exact Has.here | with_reducible refine Has.there ?_)) : Rd P n ⟨d, .lookup t x y false, ty, pos', af, g⟩ L A (((getL k l).map vf).getD z) := fun a w hf hs => by
  obtain ⟨R, p⟩ := hA
  obtain ⟨es, ck, hM, hs'⟩ := mpP_open (sat_perm p hs)
  have h := run_lookP (c := false) hK (hf.eval hx) (hf.eval hy) hu hz hM (sat_pt hs')
  simp only [execOp, Sem.run_bind, h, Result.andThen_ok, Sem.run_pure]; rfl
theorem Rd_lenP {t kt et : TypeId} {x : Operand} {m : Nat} {ts : Array TypeId} (hx : ev L x = some (.map (some m))) (ht : ts[0]? = some t) (hu : P.underlying t = some (.map kt et)) (hA : Has A (mpP m kf vf l) := by repeat (first | with_reducible exact Has.here | with_reducible refine Has.there ?_)) :
    Rd P n ⟨d, .call ⟨.builtin .len, #[x], ts⟩, ty, pos', af, g⟩ L A (.int .i64 ((l.length : Nat) : Int)) := fun a w hf hs => by
  obtain ⟨R, p⟩ := hA
  obtain ⟨es, ck, hM, hs'⟩ := mpP_open (sat_perm p hs)
  have hm := sat_pt hs'
  have hl : es.size = l.length := by have := hM.pm.length_eq; simpa using this
  simp [execOp, resolve, invoke, Go.builtin, hf.eval hx, Builtin.len_, ht, run_und hu, run_getObj hm, hl, goInt]
theorem Ac_putP {t kt et : TypeId} {x y z : Operand} {m : Nat} {k : κ} {R : List Asn} (b : β) (hK : KeyT P kt kf) (hx : ev L x = some (.map (some m))) (hy : ev L y = some (kf k)) (hz : ev L z = some (vf b)) (hu : P.underlying t = some (.map kt et))
    (hE : Ext A (mpP m kf vf l) R := by repeat (first | with_reducible exact Ext.here | with_reducible apply Ext.there)) : Ac P n ⟨d, .mapUpdate t x y z, ty, pos', af, g⟩ L A (fun _ A' => A' = mpP m kf vf (putL k b l) :: R) :=
  Ac_run fun a w hf hs => by
    obtain ⟨es, ck, hM, hs'⟩ := mpP_open (sat_perm hE hs)
    have hm := sat_pt hs'
    cases hp : posV (kf k) es.toList with
    | some j =>
      obtain ⟨e, he, hke⟩ := posV_some hp
      have he' : es[j]? = some e := by simpa using he
      refine ⟨_, { w with heap := w.heap.setIfInBounds m (.map (es.modify j fun e => { e with key := kf k, val := vf b }) ck) }, _, .inr ⟨?_, rfl⟩, rfl, ?_, kept_set⟩
      · simp [execOp, hf.eval hx, hf.eval hy, hf.eval hz, Instr.mapUpdate, run_und hu, run_getObj hm, hK.check, hK.find k _ _ hM.keys, hp, he', Instr.keyThatStays, hke, hK.stay, run_setObj hm]
      · refine mpP_shut ?_ (set_map hs')
        have : (es.modify j fun e => { e with key := kf k, val := vf b }).toList = es.toList.set j { key := kf k, val := vf b, born := e.born } := by
          rw [Array.toList_modify, modify_set he]
        rw [this]
        exact hM.set hK.inj he hke
    | none =>
      refine ⟨_, { w with heap := w.heap.setIfInBounds m (.map (es.push { key := kf k, val := vf b, born := ck }) (ck + 1)) }, _, .inr ⟨?_, rfl⟩, rfl, ?_, kept_set⟩
      · simp [execOp, hf.eval hx, hf.eval hy, hf.eval hz, Instr.mapUpdate, run_und hu, run_getObj hm, hK.check, hK.find k _ _ hM.keys, hp, run_setObj hm]
      · refine mpP_shut ?_ (set_map hs')
        rw [Array.toList_push]
        exact hM.push b hp
theorem Ac_range {t kt et : TypeId} {x : Operand} {m : Nat} {R : List Asn} (hx : ev L x = some (.map (some m))) (hu : P.underlying t = some (.map kt et)) (hE : Ext A (mpP m kf vf l) R := by repeat (first | with_reducible exact Ext.here | with_reducible apply Ext.there)) :
    Ac P n ⟨d, .range t x, ty, pos', af, g⟩ L A (fun v A' => ∃ r, v = .pointer (some ⟨r, 0, none⟩) ∧ A' = mpN m r kf vf l l none :: R) :=
  Ac_run fun a w hf hs => by
    obtain ⟨es, ck, hM, hs'⟩ := mpP_open (sat_perm hE hs)
    have hm := sat_pt hs'
    refine ⟨_, { w with heap := w.heap.push (.mapIter (some m) ck #[] ck) }, _, .inl ?_, ⟨w.heap.size, rfl, rfl⟩, ?_, kept_new⟩
    · simp [execOp, hf.eval hx, Instr.range, run_und hu, run_getObj hm, newObj, Sem.run]
    · refine mpN_shut (es := es) (ck := ck) (seen := #[]) ⟨hM, ?_, fun p hp => by cases hp⟩ (sat_perm (.swap _ _ _) (sat_new (w := w) (w' := { w with heap := w.heap.push (.mapIter (some m) ck #[] ck) }) (o := .mapIter (some m) ck #[] ck) rfl hs'))
      rw [List.filter_eq_self.2 (by intro e _; simp)]
      exact hM.pm
theorem Ac_next {x : Operand} {m r : Nat} {rest : List (κ × β)} {cur : Option (κ × β)} {R : List Asn} (hK : ∀ a b, kf a = kf b → a = b) (hx : ev L x = some (.pointer (some ⟨r, 0, none⟩))) (hE : Ext A (mpN m r kf vf l rest cur) R := by repeat (first | with_reducible exact Ext.here | with_reducible apply Ext.there)) :
    Ac P n ⟨d, .next x false, ty, pos', af, g⟩ L A (fun v A' => (rest = [] ∧ v = .tuple #[.bool false] ∧ A' = mpN m r kf vf l [] none :: R) ∨ ∃ k b pre post, rest = pre ++ (k, b) :: post ∧ v = .tuple #[.bool true, kf k, vf b] ∧ A' = mpN m r kf vf l (pre ++ post) (some (k, b)) :: R) :=
  Ac_run fun a w hf hs => by
    obtain ⟨es, ck, seen, hN, hs'⟩ := mpN_open (sat_perm hE hs)
    have hm := sat_pt hs'
    have hr := sat_pt (sat_perm (.swap _ _ _) hs')
    rcases run_next_at (P := P) w ty r m ck ck seen es ck hr hm hN.mw.born (Nat.le_refl _) with ⟨h0, hrun⟩ | ⟨e, he, w1, hal, hrun⟩
    · have hnil : es.toList.filter (fun e => !seen.contains e.born) = [] := by
        have : (leftOf es seen).toList = [] := by rw [← List.length_eq_zero_iff]; simpa using h0
        unfold leftOf at this; simpa using this
      have hrs := hN.rs
      rw [hnil, List.map_nil] at hrs
      have hre : rest = [] := by have := hrs.nil_eq; simpa using this.symm
      refine ⟨_, w, _, .inl ?_, .inl ⟨hre, rfl, rfl⟩, ?_, Kept.refl w⟩
      · simp [execOp, hf.eval hx, hrun]
      · exact mpN_shut ⟨hN.mw, by rw [hnil]; exact .refl _, fun p hp => by cases hp⟩ hs'
    · have he' : e ∈ es.toList.filter (fun e => !seen.contains e.born) := by unfold leftOf at he; simpa using he
      obtain ⟨k, b, pre, post, hre, hke, hva, hN'⟩ := hN.next hK he'
      have hh : w1.heap = w.heap := by rcases hal with rfl | rfl <;> rfl
      refine ⟨_, ChangeMaps.setBlock w1 r (.mapIter (some m) ck (seen.push e.born) ck), _, .inl ?_, .inr ⟨k, b, pre, post, hre, rfl, rfl⟩, ?_, ?_⟩
      · simp [execOp, hf.eval hx, hrun, hke, hva]
      · refine mpN_shut hN' ?_
        have h1 : sat w1 (pt r (.mapIter (some m) ck seen ck) :: pt m (.map es ck) :: R) := sat_heap hh (sat_perm (.swap _ _ _) hs')
        exact sat_perm (.swap _ _ _) (set_map h1)
      · refine (show Kept w w1 from ?_).trans kept_set
        rcases hal with rfl | rfl
        · exact Kept.refl _
        · exact ⟨rfl, rfl, rfl, Nat.le_refl _, Nat.le_succ _⟩
theorem Rd_entry {x : Operand} {m r : Nat} {rest : List (κ × β)} {k : κ} {b : β} (hx : ev L x = some (.pointer (some ⟨r, 0, none⟩))) (hA : Has A (mpN m r kf vf l rest (some (k, b))) := by repeat (first | with_reducible exact Has.here | with_reducible refine Has.there ?_)) :
    Rd P n ⟨d, .entry x, ty, pos', af, g⟩ L A (.tuple #[kf k, vf b]) := fun a w hf hs => by
  obtain ⟨R, p⟩ := hA
  obtain ⟨es, ck, seen, hN, hs'⟩ := mpN_open (sat_perm p hs)
  obtain ⟨e, he, q, s0, rfl⟩ := hN.cr _ rfl
  have h := run_entry_at (P := P) w r m ck s0 es ck e (sat_pt (sat_perm (.swap _ _ _) hs')) (sat_pt hs') he hN.mw.bnd
  simp only [execOp, hf.eval hx, Sem.run_bind, h, Result.andThen_ok, Sem.run_pure]
  rw [show e.key = kf k from congrArg Prod.fst q, show e.val = vf b from congrArg Prod.snd q]
end
end Go.SL
/-
  Keys of maps: numbers of any kind, structs. (Conditions: none; generic over the program.)
-/
namespace Go.SL
open Go.RowKit
section
variable {P : Program}
theorem KeyT_int {kt : TypeId} {q : IntKind} (ik : IntKind) (hu : P.underlying kt = some (.int q)) : KeyT P kt (fun k : Int => Value.int ik k) where
  inj a b h := by injection h
  find k l w hl := by
    have key : ∀ (l : List MapEntry) (i : Nat), (∀ e ∈ l, ∃ a, e.key = Value.int ik a) → Instr.findNow (.int q) (.int ik k) l i = some ((posV (.int ik k) l).map fun j => (i + j, (l[j]?.map (·.val)).getD undef)) := by
      intro l
      induction l with
      | nil => intro i _; rfl
      | cons e r ih =>
        intro i h
        obtain ⟨a, he⟩ := h e (by simp)
        classical
        unfold Instr.findNow
        rw [posV_cons, he]
        simp only [Instr.sameNow, if_true]
        by_cases hk : a = k
        · subst hk; simp
        · have h1 : (k == a) = false := by simpa using Ne.symm hk
          have h2 : ¬ (Value.int ik a = Value.int ik k) := fun e => hk (by injection e)
          simp only [h1, if_neg h2]
          rw [ih (i + 1) (fun x hx => h x (by simp [hx]))]
          cases posV (Value.int ik k) r with
          | none => rfl
          | some j => simp; omega
    simp only [Instr.findKey, Sem.run_bind, run_und hu, Result.andThen_ok, key l 0 hl, Sem.run_pure, Nat.zero_add]
  check b k w := by
    have : Instr.checkKey b 10000 kt (.int ik k) = Instr.checkKey b (9999 + 1) kt (.int ik k) := rfl
    rw [this, Instr.checkKey]
    simp only [Sem.run_bind, run_und hu, Result.andThen_ok, Sem.run_pure]
  stay k := by simp [Instr.sameBits]
theorem KeyT_struct {kt : TypeId} {fs : Array Field} {κ : Type} [DecidableEq κ] {kf : κ → Value} (hu : P.underlying kt = some (.struct fs)) (ha : ∀ k, ∃ xs, kf k = .agg xs) (hi : ∀ a b, kf a = kf b → a = b)
    (he : ∀ a b, Eqs P 10000 kt (kf a) (kf b) (decide (a = b))) (hc : ∀ (b : Bool) (k : κ) (w : World), (Instr.checkKey b 10000 kt (kf k)).run P w = .ok () w) (hs : ∀ k, Instr.sameBits 10000 (kf k) (kf k) = true) : KeyT P kt kf where
  inj := hi
  find k l w hl := by
    have ask : ∀ (l : List MapEntry) (i : Nat), (∀ e ∈ l, ∃ a, e.key = kf a) → (Instr.findAsking kt (kf k) l i).run P w = .ok ((posV (kf k) l).map fun j => (i + j, (l[j]?.map (·.val)).getD undef)) w := by
      intro l
      induction l with
      | nil => intro i _; rfl
      | cons e r ih =>
        intro i h
        obtain ⟨a, hea⟩ := h e (by simp)
        classical
        rw [Instr.findAsking, posV_cons]
        have heq : (Op.equal kt (kf k) e.key).run P w = .ok (decide (k = a)) w := by rw [hea]; exact he k a w
        simp only [Sem.run_bind, heq, Result.andThen_ok]
        by_cases hk : k = a
        · subst hk; simp [hea]
        · have h2 : ¬ (e.key = kf k) := fun q => hk (hi _ _ (q.symm.trans hea))
          simp only [hk, decide_false, Bool.false_eq_true, if_false, if_neg h2]
          rw [ih (i + 1) (fun x hx => h x (by simp [hx]))]
          cases posV (kf k) r with
          | none => rfl
          | some j => simp; omega
    cases l with
    | nil => simp only [Instr.findKey, Sem.run_bind, run_und hu, Result.andThen_ok, Instr.findNow, Sem.run_pure]; rfl
    | cons e r =>
      have hn : Instr.findNow (.struct fs) (kf k) (e :: r) 0 = none := by
        obtain ⟨xs, hx⟩ := ha k
        unfold Instr.findNow
        rw [hx]; rfl
      simp only [Instr.findKey, Sem.run_bind, run_und hu, Result.andThen_ok, hn]
      have := ask (e :: r) 0 hl
      simpa only [Nat.zero_add] using this
  check := hc
  stay := hs
theorem sameBits_int {n : Nat} {k : IntKind} {a : Int} : Instr.sameBits n (.int k a) (.int k a) = true := by cases n <;> simp [Instr.sameBits]
theorem sameBits_ints {n : Nat} (l : List Value) (h : ∀ v ∈ l, ∃ k a, v = .int k a) : Instr.sameBits (n + 1) (.agg l.toArray) (.agg l.toArray) = true := by
  unfold Instr.sameBits
  simp only [List.size_toArray, beq_self_eq_true, Bool.true_and, List.all_eq_true]
  intro p hp
  have hp' : p ∈ l.zip l := by simpa using hp
  have : p.1 = p.2 ∧ p.1 ∈ l := by
    clear hp
    induction l with
    | nil => simp at hp'
    | cons x r ih =>
      rw [List.zip_cons_cons] at hp'
      rcases List.mem_cons.1 hp' with rfl | q
      · exact ⟨rfl, by simp⟩
      · obtain ⟨a, b⟩ := ih (fun v hv => h v (by simp [hv])) q
        exact ⟨a, by simp [b]⟩
  obtain ⟨a, b⟩ := p
  obtain ⟨h1, h2⟩ := this
  simp only at h1 h2 ⊢
  subst h1
  obtain ⟨k, i, rfl⟩ := h a h2
  exact sameBits_int
end
end Go.SL
/-
  Maps written in a literal; keys seen through a map; min and max of whole numbers; one assertion put for another. (Conditions: none; generic over the program.)
-/
namespace Go.SL
open Go.RowKit
section
variable {P : Program}
theorem KeyT.comp {kt : TypeId} {κ κ' : Type} {kf : κ → Value} (h : KeyT P kt kf) (g : κ' → κ) (hg : ∀ a b, g a = g b → a = b) : KeyT P kt (fun x => kf (g x)) where
  inj a b e := hg _ _ (h.inj _ _ e)
  find k l w hl := h.find (g k) l w (fun e he => let ⟨a, ha⟩ := hl e he; ⟨g a, ha⟩)
  check b k w := h.check b (g k) w
  stay k := h.stay (g k)
end
section
variable {P : Program} {κ β : Type} [DecidableEq κ] {kf : κ → Value} {vf : β → Value} {l : List (κ × β)}
variable {n : Nat} {L : List (Nat × Value)} {A : List Asn} {d : Option Tmp} {ty : TypeId} {pos' : String} {af : Array Edge} {g : Option (Nat × Bool)}
theorem Rd_max {x y : Operand} {ts : Array TypeId} {i j : Int} {q : IntKind} (hx : ev L x = some (.int q i)) (hy : ev L y = some (.int q j)) : Rd P n ⟨d, .call ⟨.builtin .max, #[x, y], ts⟩, ty, pos', af, g⟩ L A (.int q (max i j)) := fun a w hf hs => by
  have e : (if j > i then j else i) = max i j := by split <;> omega
  have h : Builtin.max2 (.int q i) (.int q j) = (pure (.int q (max i j)) : Sem Value) := by
    show (pure (Value.int q (if j > i then j else i)) : Sem Value) = _
    rw [e]
  simp [execOp, resolve, invoke, Go.builtin, hf.eval hx, hf.eval hy, Builtin.max_, h]
end
section
variable {P : Program} {m : Md} {ops : Array Oper} {Q : Exit → Act → World → Prop} {w0 : World} {n : Nat} {rest : List Oper} {L : List (Nat × Value)} {A R : List Asn} {c : Code} {X Y : Asn}
theorem WL_rep (X Y : Asn) (h : ∀ w R, sat w (X :: R) → sat w (Y :: R)) (k : WL P m ops Q w0 n rest L (Y :: R)) (hE : Ext A X R := by repeat (first | with_reducible exact Ext.here | with_reducible apply Ext.there)) : WL P m ops Q w0 n rest L A :=
  WL_imp (fun _ hs => h _ _ (sat_perm hE hs)) k
end
end Go.SL
/-
  A server's shares and leases as they lie: what is owned of each, and the steps of going through them. (Conditions: none; no program in sight.)
-/
set_option maxRecDepth 20000
namespace Go.SvM
open Go.SL Go.ShM Go.RowKit
structure En where
  e : Kp
  p : Nat
  a : Option Nat
  cap : Nat
  m : Nat
def En.kp (x : En) : Ky × Nat := (x.e.key, x.p)
def En.put (x : En) (e : Kp) : En := ⟨e, x.p, x.a, x.cap, x.m⟩
theorem mpN_rep {κ β : Type} [DecidableEq κ] {kf : κ → Value} {vf : β → Value} {m r : Nat} {l l' rest : List (κ × β)} {cur : Option (κ × β)} (p : l.Perm l') : ∀ w R, sat w (mpN m r kf vf l rest cur :: R) → sat w (mpN m r kf vf l' rest none :: R) := fun _ _ h => mpN_cur (mpN_perm p (.refl _) h)
theorem mpN_fin {κ β : Type} [DecidableEq κ] {kf : κ → Value} {vf : β → Value} {m r : Nat} {l l' rest : List (κ × β)} {cur : Option (κ × β)} (p : l.Perm l') : ∀ w R, sat w (mpN m r kf vf l rest cur :: R) → sat w (mpP m kf vf l' :: R) := fun _ _ h => mpP_perm p (mpN_done h)
section
variable {P : Program} {m : Md} {ops : Array Oper} {Q : Exit → Act → World → Prop} {w0 : World} {n : Nat} {rest : List Oper} {L : List (Nat × Value)} {A R : List Asn} {c : Code}
end
end Go.SvM
/-
  Keys that are structs of numbers and arrays of numbers: how a map finds them. (Conditions: none; generic over the program.)
-/
namespace Go.SL
open Go.RowKit
section
variable {P : Program}
theorem run_for {α : Type} (f : α → Sem Unit) : ∀ (l : List α), (∀ x ∈ l, ∀ w, (f x).run P w = .ok () w) → ∀ w, (forIn l PUnit.unit (fun x _ => (f x >>= fun _ => pure (ForInStep.yield PUnit.unit)) : α → PUnit → Sem (ForInStep PUnit))).run P w = .ok PUnit.unit w
  | [], _, w => by simp
  | x :: l, h, w => by
    have ih := run_for f l (fun y hy => h y (List.mem_cons_of_mem _ hy))
    simp only [List.forIn_cons, Sem.run_bind, h x (by simp), Result.andThen_ok, Sem.run_pure, ih]
theorem check_int {b : Bool} {n : Nat} {t : TypeId} {q k : IntKind} {i : Int} (hu : P.underlying t = some (.int q)) (w : World) : (Instr.checkKey b (n + 1) t (.int k i)).run P w = .ok () w := by
  rw [Instr.checkKey]
  simp only [Sem.run_bind, run_und hu, Result.andThen_ok, Sem.run_pure]
theorem check_struct {b : Bool} {n : Nat} {t : TypeId} {fs : Array Field} {cs : List Value} (hu : P.underlying t = some (.struct fs)) (hf : ∀ f ∈ fs.toList, ∀ w, (part f.type cs.toArray f.offset >>= fun v => Instr.checkKey b n f.type v).run P w = .ok () w) (w : World) : (Instr.checkKey b (n + 1) t (.agg cs.toArray)).run P w = .ok () w := by
  rw [Instr.checkKey]
  simp only [Sem.run_bind, run_und hu, Result.andThen_ok]
  rw [← Array.forIn_toList]
  have := run_for (P := P) (fun f : Field => if f.name ≠ "_" then (part f.type cs.toArray f.offset >>= fun v => Instr.checkKey b n f.type v) else pure ()) fs.toList (fun f hfm w => by
    split
    · exact hf f hfm w
    · simp) w
  have e1 : ∀ (r : Result PUnit), r = .ok PUnit.unit w → (r.andThen fun a w' => Sem.run P (pure ()) w') = .ok () w := fun r h => by rw [h]; rfl
  refine e1 _ ?_
  refine Eq.trans ?_ this
  congr 2
  funext f u
  split <;> simp [bind_assoc]
end
end Go.SL
