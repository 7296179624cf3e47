/-
  Contracts of functions that the claim reaches, or the logic and the plain laws that they rest on, or the row over them. (Conditions: none beyond the statement.)
-/
import Derived.Test.YtgkpbeikcpecbaaTrCalls
import Derived.Test.YtgkpbeikcpecbaaLibR
import Derived.Test.YtgkpbeikcpecbaaSlDfr
import Derived.Test.YtgkpbeikcpecbaaLibA
set_option linter.all false
/-
  A tree of which some nodes are known: what is known, how nodes are put in, by the program and by the document. Plain: no program in sight. (Conditions: none.)
-/
set_option linter.all false
namespace Go.ShM
open Go.SL
abbrev KM := Int → Option Dg
def dV (d : Dg) : Value := aU .u8 d.1
def kv (K : KM) : Int → Option Value := fun t => (K t).map dV
def kset (K : KM) (t : Int) (d : Dg) : KM := fun j => if j = t then some d else K j
def kdel (K : KM) (t : Int) : KM := fun j => if j = t then none else K j
def k0 : KM := fun _ => none
theorem kv_set (K : KM) (t : Int) (d : Dg) : upd (kv K) t (some (dV d)) = kv (kset K t d) := by
  funext j; unfold upd kv kset; split <;> rfl
theorem kv_del (K : KM) (t : Int) : upd (kv K) t none = kv (kdel K t) := by
  funext j; unfold upd kv kdel; split <;> rfl
theorem kv_get (K : KM) (t : Int) : ((kv K) t).getD (dV zD) = dV ((K t).getD zD) := by
  unfold kv; cases K t <;> rfl
theorem kv_is (K : KM) (t : Int) : ((kv K) t).isSome = (K t).isSome := by unfold kv; cases K t <;> rfl
theorem kset_eq (K : KM) (t : Int) (d : Dg) : kset K t d t = some d := if_pos rfl
theorem kset_ne (K : KM) {t j : Int} (d : Dg) (h : j ≠ t) : kset K t d j = K j := if_neg h
theorem kset_same {K : KM} {t : Int} {d : Dg} (h : K t = some d) : kset K t d = K := by
  funext j; unfold kset; split
  · rename_i e; rw [e, h]
  · rfl
def SupK (w : Nat) (K : KM) : Prop := ∀ t, (K t).isSome = true → 1 ≤ t ∧ t < 2 * (w : Int)
theorem SupK_0 (w : Nat) : SupK w k0 := fun t h => by cases h
theorem SupK.set {w : Nat} {K : KM} {t : Int} {d : Dg} (h : SupK w K) (h1 : 1 ≤ t) (h2 : t < 2 * (w : Int)) : SupK w (kset K t d) := fun j hj => by
  unfold kset at hj
  split at hj
  · rename_i e; subst e; exact ⟨h1, h2⟩
  · exact h j hj
theorem SupK.none {w : Nat} {K : KM} {t : Int} (h : SupK w K) (h1 : t < 1 ∨ 2 * (w : Int) ≤ t) : K t = none := by
  cases e : K t with
  | none => rfl
  | some d => have := h t (by rw [e]; rfl); omega
def isL (K : KM) (w : Nat) : List Bool := (List.range (2 * w)).map fun i => (K ((i : Nat) : Int)).isSome
def dgL (K : KM) (w : Nat) : List Dg := (List.range (2 * w)).map fun i => (K ((i : Nat) : Int)).getD zD
theorem isL_len (K : KM) (w : Nat) : (isL K w).length = 2 * w := by simp [isL]
theorem dgL_len (K : KM) (w : Nat) : (dgL K w).length = 2 * w := by simp [dgL]
theorem isL_at {K : KM} {w i : Nat} (h : i < 2 * w) : (isL K w)[i]? = some (K ((i : Nat) : Int)).isSome := by simp [isL, h]
theorem dgL_at {K : KM} {w i : Nat} (h : i < 2 * w) : (dgL K w)[i]? = some ((K ((i : Nat) : Int)).getD zD) := by simp [dgL, h]
theorem isL_set {K : KM} {w i : Nat} {d : Dg} (h : i < 2 * w) : (isL K w).set i true = isL (kset K ((i : Nat) : Int) d) w := by
  apply List.ext_getElem?
  intro j
  rw [List.getElem?_set, isL_len]
  by_cases e : i = j
  · subst e; rw [if_pos rfl, if_pos h, isL_at h, kset_eq]; rfl
  · rw [if_neg e]
    by_cases hj : j < 2 * w
    · rw [isL_at hj, isL_at hj, kset_ne _ _ (by omega)]
    · rw [List.getElem?_eq_none_iff.2 (by rw [isL_len]; omega), List.getElem?_eq_none_iff.2 (by rw [isL_len]; omega)]
theorem dgL_set {K : KM} {w i : Nat} {d : Dg} (h : i < 2 * w) : (dgL K w).set i d = dgL (kset K ((i : Nat) : Int) d) w := by
  apply List.ext_getElem?
  intro j
  rw [List.getElem?_set, dgL_len]
  by_cases e : i = j
  · subst e; rw [if_pos rfl, if_pos h, dgL_at h, kset_eq]; rfl
  · rw [if_neg e]
    by_cases hj : j < 2 * w
    · rw [dgL_at hj, dgL_at hj, kset_ne _ _ (by omega)]
    · rw [List.getElem?_eq_none_iff.2 (by rw [dgL_len]; omega), List.getElem?_eq_none_iff.2 (by rw [dgL_len]; omega)]
theorem isL_0 (w : Nat) : isL k0 w = List.replicate (2 * w) false := by
  unfold isL k0; rw [List.map_const', List.length_range]; rfl
theorem dgL_0 (w : Nat) : dgL k0 w = List.replicate (2 * w) zD := by
  unfold dgL k0; rw [List.map_const', List.length_range]; rfl
def padK (n w : Nat) : Nat → KM
  | 0 => k0
  | m + 1 => kset (padK n w m) (((w + (n + m) : Nat)) : Int) (padD (n + m))
def stepK (K : KM) (a : Nat) : KM := match K ((2 * a : Nat) : Int), K ((2 * a + 1 : Nat) : Int) with
  | some l, some r => kset K ((a : Nat) : Int) (nodeD l r)
  | _, _ => K
def upK (K : KM) (w : Nat) : Nat → KM
  | 0 => K
  | m + 1 => stepK (upK K w m) (w - 1 - m)
def newK (n : Nat) (root : Dg) : KM := upK (kset (padK n (wdM n) (wdM n - n)) 1 root) (wdM n) (wdM n - 2)
theorem SupK_pad {n w : Nat} : ∀ m, n + m ≤ w → 1 ≤ w → SupK w (padK n w m)
  | 0, _, _ => SupK_0 w
  | m + 1, h, h1 => (SupK_pad m (by omega) h1).set (by omega) (by omega)
theorem stepK_yes {K : KM} {a : Nat} {l r : Dg} (h1 : K ((2 * a : Nat) : Int) = some l) (h2 : K ((2 * a + 1 : Nat) : Int) = some r) : stepK K a = kset K ((a : Nat) : Int) (nodeD l r) := by
  unfold stepK; rw [h1, h2]
theorem stepK_no {K : KM} {a : Nat} (h : (K ((2 * a : Nat) : Int)).isSome = false ∨ (K ((2 * a + 1 : Nat) : Int)).isSome = false) : stepK K a = K := by
  unfold stepK
  cases h1 : K ((2 * a : Nat) : Int) with
  | none => rfl
  | some l =>
    cases h2 : K ((2 * a + 1 : Nat) : Int) with
    | none => rfl
    | some r => rw [h1, h2] at h; simp at h
theorem stepK_at {K : KM} {a : Nat} {t : Int} (h : t ≠ ((a : Nat) : Int)) : stepK K a t = K t := by
  unfold stepK
  cases K ((2 * a : Nat) : Int) with
  | none => rfl
  | some l =>
    cases K ((2 * a + 1 : Nat) : Int) with
    | none => rfl
    | some r => exact kset_ne _ _ h
theorem SupK_step {w a : Nat} {K : KM} (h : SupK w K) (h1 : 1 ≤ a) (h2 : a < w) : SupK w (stepK K a) := by
  unfold stepK
  split
  · exact h.set (by omega) (by omega)
  · exact h
theorem SupK_up {w : Nat} {K : KM} (h : SupK w K) : ∀ m, m + 2 ≤ w ∨ m = 0 → SupK w (upK K w m)
  | 0, _ => h
  | m + 1, hm => SupK_step (SupK_up h m (by omega)) (by omega) (by omega)
theorem SupK_new {n : Nat} {root : Dg} (h1 : n ≤ wdM n) (h2 : 1 ≤ wdM n) : SupK (wdM n) (newK n root) :=
  SupK_up ((SupK_pad _ (by omega) h2).set (by omega) (by omega)) _ (by omega)
def LeK (K K' : KM) : Prop := ∀ t d, K t = some d → K' t = some d
theorem LeK.refl (K : KM) : LeK K K := fun _ _ h => h
theorem LeK.trans {a b c : KM} (h : LeK a b) (k : LeK b c) : LeK a c := fun t d e => k t d (h t d e)
theorem upK_root {K : KM} {w : Nat} : ∀ m, m + 2 ≤ w ∨ m = 0 → upK K w m 1 = K 1
  | 0, _ => rfl
  | m + 1, hm => by
    have ih := upK_root (K := K) (w := w) m (by omega)
    show stepK (upK K w m) (w - 1 - m) 1 = K 1
    rw [stepK_at (by omega)]; exact ih
theorem newK_root {n : Nat} {root : Dg} : newK n root 1 = some root := by
  unfold newK
  rw [upK_root _ (by omega), kset_eq]
abbrev Nd := Int × Dg
def put1 (w : Nat) : KM → List Nd → List Nat → Int × KM × List Nat
  | K, [], fr => (0, K, fr)
  | K, x :: l, fr => if x.1 < 1 ∨ 2 * (w : Int) - 1 < x.1 then (120, K, fr) else match K x.1 with
    | some e => if e = x.2 then put1 w K l fr else (121, K, fr)
    | none => put1 w (kset K x.1 x.2) l (fr ++ [x.1.toNat])
def cl2 : Nat → KM → List Nat → Bool × KM × List Nat
  | 0, K, fr => (true, K, fr)
  | m + 1, K, fr => match K ((2 * (m + 1) : Nat) : Int), K ((2 * (m + 1) + 1 : Nat) : Int) with
    | some l, some r => match K ((m + 1 : Nat) : Int) with
      | some h => if (m + 1) ∉ fr ∧ 2 * (m + 1) ∉ fr ∧ 2 * (m + 1) + 1 ∉ fr then cl2 m K fr else if nodeD l r = h then cl2 m K fr else (false, K, fr)
      | none => cl2 m (kset K ((m + 1 : Nat) : Int) (nodeD l r)) (fr ++ [m + 1])
    | _, _ => cl2 m K fr
def okF (K : KM) (a : Nat) : Bool := (K ((a ^^^ 1 : Nat) : Int)).isSome && (K ((a / 2 : Nat) : Int)).isSome
def putS (w : Nat) (K : KM) (l : List Nd) : Int × KM × List Nat :=
  let s := put1 w K l []
  if s.1 = 0 then
    let c := cl2 (w - 1) s.2.1 s.2.2
    if c.1 = true then (if c.2.2.all (okF c.2.1) = true then (0, c.2.1, c.2.2) else (122, c.2.1, c.2.2)) else (123, c.2.1, c.2.2)
  else s
def dels (K : KM) : List Nat → KM
  | [] => K
  | a :: l => dels (kdel K ((a : Nat) : Int)) l
def putK (w : Nat) (K : KM) (l : List Nd) : KM := if (putS w K l).1 = 0 then (putS w K l).2.1 else dels (putS w K l).2.1 (putS w K l).2.2
structure Fre (w : Nat) (K0 K : KM) (fr : List Nat) : Prop where
  sup : SupK w K
  old : ∀ t : Int, (∀ a ∈ fr, ((a : Nat) : Int) ≠ t) → K t = K0 t
  new : ∀ a ∈ fr, K0 ((a : Nat) : Int) = none ∧ (K ((a : Nat) : Int)).isSome = true
  len : fr.length ≤ 2 * w
  nd : fr.Nodup
theorem Fre_0 {w : Nat} {K : KM} (h : SupK w K) : Fre w K K [] := ⟨h, fun _ _ => rfl, fun a h => (by cases h), Nat.zero_le _, List.nodup_nil⟩
theorem Fre.rng {w : Nat} {K0 K : KM} {fr : List Nat} (h : Fre w K0 K fr) {a : Nat} (ha : a ∈ fr) : 1 ≤ a ∧ a < 2 * w := by
  have := h.sup _ (h.new a ha).2; omega
theorem nodup_len {w : Nat} {fr : List Nat} (h : fr.Nodup) (hr : ∀ a ∈ fr, a < 2 * w) : fr.length ≤ 2 * w := by
  have hp : fr.Perm ((List.range (2 * w)).filter fun a => decide (a ∈ fr)) := by
    rw [List.perm_ext_iff_of_nodup h (List.Pairwise.filter _ List.nodup_range)]
    intro a
    simp only [List.mem_filter, List.mem_range, decide_eq_true_eq]
    exact ⟨fun ha => ⟨hr a ha, ha⟩, fun ha => ha.2⟩
  rw [hp.length_eq]
  exact Nat.le_trans (List.length_filter_le _ _) (by simp)
theorem Fre.lay {w : Nat} {K0 K : KM} {fr : List Nat} {a : Nat} {d : Dg} (h : Fre w K0 K fr) (h1 : 1 ≤ a) (h2 : a < 2 * w) (hn : K ((a : Nat) : Int) = none) : Fre w K0 (kset K ((a : Nat) : Int) d) (fr ++ [a]) := by
  have hna : a ∉ fr := fun ha => by have := (h.new a ha).2; rw [hn] at this; cases this
  have hnd : (fr ++ [a]).Nodup := by
    rw [List.nodup_append]
    exact ⟨h.nd, by simp, fun x hx y hy e => by rw [List.mem_singleton] at hy; subst hy; subst e; exact hna hx⟩
  have hnew : ∀ b ∈ fr ++ [a], K0 ((b : Nat) : Int) = none ∧ (kset K ((a : Nat) : Int) d ((b : Nat) : Int)).isSome = true := fun b hb => by
    rcases List.mem_append.1 hb with q | q
    · refine ⟨(h.new b q).1, ?_⟩
      rw [kset_ne _ _ (by intro e; exact hna (by rw [← Int.ofNat_inj.1 e]; exact q))]
      exact (h.new b q).2
    · rw [List.mem_singleton] at q; subst q
      rw [kset_eq]
      exact ⟨by rw [← h.old _ (fun c hc e => hna (by rw [← Int.ofNat_inj.1 e]; exact hc))]; exact hn, rfl⟩
  have hs := h.sup.set (t := ((a : Nat) : Int)) (d := d) (by omega) (by omega)
  refine ⟨hs, fun t ht => ?_, hnew, nodup_len hnd (fun b hb => ?_), hnd⟩
  · rw [kset_ne _ _ (fun e => ht a (by simp) e.symm)]
    exact h.old t fun b hb => ht b (List.mem_append_left _ hb)
  · have := hs _ (hnew b hb).2; omega
theorem Fre.undo {w : Nat} {K0 K : KM} {fr : List Nat} (h : Fre w K0 K fr) : dels K fr = K0 := by
  have key : ∀ (l : List Nat) (K : KM), (∀ t : Int, (∀ a ∈ l, ((a : Nat) : Int) ≠ t) → K t = K0 t) → (∀ a ∈ l, K0 ((a : Nat) : Int) = none) → dels K l = K0 := by
    intro l
    induction l with
    | nil => intro K h1 _; funext t; exact h1 t (fun a ha => by cases ha)
    | cons a l ih =>
      intro K h1 h2
      refine ih _ (fun t ht => ?_) (fun b hb => h2 b (List.mem_cons_of_mem _ hb))
      unfold kdel
      split
      · rename_i e; rw [e, h2 a List.mem_cons_self]
      · rename_i e
        exact h1 t fun b hb => by
          rcases List.mem_cons.1 hb with q | q
          · subst q; exact fun e' => e e'.symm
          · exact ht b q
  exact key fr K h.old fun a ha => (h.new a ha).1
theorem Fre.le {w : Nat} {K0 K : KM} {fr : List Nat} (h : Fre w K0 K fr) : LeK K0 K := fun t d e => by
  rw [h.old t fun a ha e' => by rw [← e', (h.new a ha).1] at e; cases e]; exact e
theorem put1_fre {w : Nat} {K0 : KM} : ∀ (l : List Nd) (K : KM) (fr : List Nat), Fre w K0 K fr → Fre w K0 (put1 w K l fr).2.1 (put1 w K l fr).2.2
  | [], K, fr, h => h
  | x :: l, K, fr, h => by
    unfold put1
    split
    · exact h
    · rename_i hr
      split
      · split
        · exact put1_fre l K fr h
        · exact h
      · rename_i hn
        have e : x.1 = ((x.1.toNat : Nat) : Int) := by omega
        have := h.lay (a := x.1.toNat) (d := x.2) (by omega) (by omega) (by rw [← e]; exact hn)
        rw [← e] at this
        exact put1_fre l _ _ this
theorem cl2_fre {w : Nat} {K0 : KM} : ∀ (m : Nat) (K : KM) (fr : List Nat), m < w → Fre w K0 K fr → Fre w K0 (cl2 m K fr).2.1 (cl2 m K fr).2.2
  | 0, K, fr, _, h => h
  | m + 1, K, fr, hm, h => by
    unfold cl2
    split
    · split
      · split
        · exact cl2_fre m K fr (by omega) h
        · split
          · exact cl2_fre m K fr (by omega) h
          · exact h
      · rename_i hn
        exact cl2_fre m _ _ (by omega) (h.lay (by omega) (by omega) hn)
    · exact cl2_fre m K fr (by omega) h
theorem putS_fre {w : Nat} {K : KM} (l : List Nd) (h : SupK w K) (hw : 1 ≤ w) : Fre w K (putS w K l).2.1 (putS w K l).2.2 := by
  have h1 := put1_fre l K [] (Fre_0 h)
  have h2 := cl2_fre (w - 1) _ _ (by omega) h1
  unfold putS
  dsimp only
  split
  · split
    · split
      · exact h2
      · exact h2
    · exact h2
  · exact h1
theorem putK_bad {w : Nat} {K : KM} {l : List Nd} (h : SupK w K) (hw : 1 ≤ w) (he : (putS w K l).1 ≠ 0) : putK w K l = K := by
  unfold putK; rw [if_neg he, (putS_fre l h hw).undo]
theorem putK_ok {w : Nat} {K : KM} {l : List Nd} (he : (putS w K l).1 = 0) : putK w K l = (putS w K l).2.1 := if_pos he
theorem putK_sup {w : Nat} {K : KM} {l : List Nd} (h : SupK w K) (hw : 1 ≤ w) : SupK w (putK w K l) := by
  by_cases he : (putS w K l).1 = 0
  · rw [putK_ok he]; exact (putS_fre l h hw).sup
  · rw [putK_bad h hw he]; exact h
theorem putK_le {w : Nat} {K : KM} {l : List Nd} (h : SupK w K) (hw : 1 ≤ w) : LeK K (putK w K l) := by
  by_cases he : (putS w K l).1 = 0
  · rw [putK_ok he]; exact (putS_fre l h hw).le
  · rw [putK_bad h hw he]; exact LeK.refl K
def put1D (w : Nat) : KM → List Nd → Int × KM
  | K, [] => (0, K)
  | K, x :: l => if x.1 < 1 ∨ 2 * (w : Int) ≤ x.1 then (120, K) else if (K x.1).isSome = true ∧ (K x.1).getD zD ≠ x.2 then (121, K) else put1D w (kset K x.1 x.2) l
def clD2 (K0 : KM) : Nat → KM → Bool × KM
  | 0, K => (true, K)
  | m + 1, K => if (K ((2 * (m + 1) : Nat) : Int)).isSome = false ∨ (K ((2 * (m + 1) + 1 : Nat) : Int)).isSome = false ∨ ((K0 ((m + 1 : Nat) : Int)).isSome = true ∧ (K0 ((2 * (m + 1) : Nat) : Int)).isSome = true ∧ (K0 ((2 * (m + 1) + 1 : Nat) : Int)).isSome = true) then clD2 K0 m K
    else if (K ((m + 1 : Nat) : Int)).isSome = true ∧ (K ((m + 1 : Nat) : Int)).getD zD ≠ nodeD ((K ((2 * (m + 1) : Nat) : Int)).getD zD) ((K ((2 * (m + 1) + 1 : Nat) : Int)).getD zD) then (false, K)
    else clD2 K0 m (kset K ((m + 1 : Nat) : Int) (nodeD ((K ((2 * (m + 1) : Nat) : Int)).getD zD) ((K ((2 * (m + 1) + 1 : Nat) : Int)).getD zD)))
def loD (K0 K : KM) (i : Nat) : Bool := (K ((i : Nat) : Int)).isSome && !(K0 ((i : Nat) : Int)).isSome && (!(K ((i ^^^ 1 : Nat) : Int)).isSome || !(K ((i / 2 : Nat) : Int)).isSome)
def putD (w : Nat) (K : KM) (l : List Nd) : Int × KM :=
  let s := put1D w K l
  if s.1 = 0 then
    let c := clD2 K (w - 1) s.2
    if c.1 = true then (if (List.range (2 * w)).any (fun i => decide (2 ≤ i) && loD K c.2 i) = true then (122, K) else (0, c.2)) else (123, K)
  else (s.1, K)
theorem put1_same {w : Nat} : ∀ (l : List Nd) (K : KM) (fr : List Nat), (put1 w K l fr).1 = (put1D w K l).1 ∧ ((put1D w K l).1 = 0 → (put1 w K l fr).2.1 = (put1D w K l).2)
  | [], K, fr => ⟨rfl, fun _ => rfl⟩
  | x :: l, K, fr => by
    unfold put1 put1D
    by_cases hr : x.1 < 1 ∨ 2 * (w : Int) - 1 < x.1
    · rw [if_pos hr, if_pos (by omega)]; exact ⟨rfl, fun e => by cases e⟩
    · rw [if_neg hr, if_neg (by omega)]
      cases hk : K x.1 with
      | none => 
        simp only [Option.isSome_none, Bool.false_eq_true, false_and, if_false]
        exact put1_same l _ _
      | some e =>
        simp only [Option.isSome_some, Option.getD_some, true_and]
        by_cases he : e = x.2
        · rw [if_pos he, if_neg (by simpa using he)]
          rw [kset_same (by rw [hk, he])]
          exact put1_same l _ _
        · rw [if_neg he, if_pos he]; exact ⟨rfl, fun e => by cases e⟩
theorem cl2_same {w : Nat} {K0 : KM} : ∀ (m : Nat) (K : KM) (fr : List Nat), m < w → Fre w K0 K fr → (cl2 m K fr).1 = (clD2 K0 m K).1 ∧ ((clD2 K0 m K).1 = true → (cl2 m K fr).2.1 = (clD2 K0 m K).2)
  | 0, K, fr, _, _ => ⟨rfl, fun _ => rfl⟩
  | m + 1, K, fr, hm, h => by
    have hof : ∀ a : Nat, (K ((a : Nat) : Int)).isSome = true → (a ∉ fr ↔ (K0 ((a : Nat) : Int)).isSome = true) := fun a ha => by
      constructor
      · intro hn; rw [← h.old _ (fun b hb e => hn (by rw [← Int.ofNat_inj.1 e]; exact hb))]; exact ha
      · intro hs hm; rw [(h.new a hm).1] at hs; cases hs
    unfold cl2 clD2
    cases h1 : K ((2 * (m + 1) : Nat) : Int) with
    | none => simp only [Option.isSome_none, true_or, if_true]; exact cl2_same m K fr (by omega) h
    | some l =>
      cases h2 : K ((2 * (m + 1) + 1 : Nat) : Int) with
      | none => simp only [Option.isSome_none, true_or, or_true, if_true]; exact cl2_same m K fr (by omega) h
      | some r =>
        have o1 := hof (2 * (m + 1)) (by rw [h1]; rfl)
        have o2 := hof (2 * (m + 1) + 1) (by rw [h2]; rfl)
        cases h3 : K ((m + 1 : Nat) : Int) with
        | none =>
          have h4 : K0 ((m + 1 : Nat) : Int) = none := by
            cases e : K0 ((m + 1 : Nat) : Int) with
            | none => rfl
            | some x => have := h.le _ _ e; rw [h3] at this; cases this
          have c1 : ¬ ((some l : Option Dg).isSome = false ∨ (some r : Option Dg).isSome = false ∨ ((K0 ((m + 1 : Nat) : Int)).isSome = true ∧ (K0 ((2 * (m + 1) : Nat) : Int)).isSome = true ∧ (K0 ((2 * (m + 1) + 1 : Nat) : Int)).isSome = true)) := by
            rw [h4]; simp
          have c2 : ¬ ((none : Option Dg).isSome = true ∧ (none : Option Dg).getD zD ≠ nodeD ((some l).getD zD) ((some r).getD zD)) := by simp
          rw [if_neg c1, if_neg c2]
          exact cl2_same m _ _ (by omega) (h.lay (by omega) (by omega) h3)
        | some e =>
          have o3 := hof (m + 1) (by rw [h3]; rfl)
          by_cases hc : (m + 1) ∉ fr ∧ 2 * (m + 1) ∉ fr ∧ 2 * (m + 1) + 1 ∉ fr
          · have c1 : ((some l : Option Dg).isSome = false ∨ (some r : Option Dg).isSome = false ∨ ((K0 ((m + 1 : Nat) : Int)).isSome = true ∧ (K0 ((2 * (m + 1) : Nat) : Int)).isSome = true ∧ (K0 ((2 * (m + 1) + 1 : Nat) : Int)).isSome = true)) :=
              .inr (.inr ⟨o3.1 hc.1, o1.1 hc.2.1, o2.1 hc.2.2⟩)
            rw [if_pos c1]
            dsimp only
            rw [if_pos hc]
            exact cl2_same m K fr (by omega) h
          · have c1 : ¬ ((some l : Option Dg).isSome = false ∨ (some r : Option Dg).isSome = false ∨ ((K0 ((m + 1 : Nat) : Int)).isSome = true ∧ (K0 ((2 * (m + 1) : Nat) : Int)).isSome = true ∧ (K0 ((2 * (m + 1) + 1 : Nat) : Int)).isSome = true)) := by
              rintro (q | q | ⟨q1, q2, q3⟩)
              · cases q
              · cases q
              · exact hc ⟨o3.2 q1, o1.2 q2, o2.2 q3⟩
            rw [if_neg c1]
            dsimp only
            rw [if_neg hc]
            by_cases hd : nodeD l r = e
            · rw [if_pos hd, if_neg (by rintro ⟨_, q⟩; exact q (by rw [← hd]; rfl))]
              rw [kset_same (by rw [h3, ← hd]; rfl)]
              exact cl2_same m K fr (by omega) h
            · rw [if_neg hd, if_pos ⟨rfl, fun q => hd q.symm⟩]
              exact ⟨rfl, fun e => by cases e⟩
theorem loose_same {w : Nat} {K0 K : KM} {fr : List Nat} (h : Fre w K0 K fr) (hroot : (K0 1).isSome = true) : (List.range (2 * w)).any (fun i => decide (2 ≤ i) && loD K0 K i) = !fr.all (okF K) := by
  have key : (List.range (2 * w)).any (fun i => decide (2 ≤ i) && loD K0 K i) = true ↔ ¬ fr.all (okF K) = true := by
    rw [List.any_eq_true, List.all_eq_true]
    constructor
    · rintro ⟨i, hi, hl⟩ hall
      simp only [Bool.and_eq_true, decide_eq_true_eq, loD, Bool.not_eq_true', Bool.or_eq_true] at hl
      obtain ⟨h2, ⟨hk, hk0⟩, hbad⟩ := hl
      have him : i ∈ fr := by
        by_cases q : i ∈ fr
        · exact q
        · have := h.old ((i : Nat) : Int) (fun b hb e => q (by rw [← Int.ofNat_inj.1 e]; exact hb))
          rw [this, hk0] at hk; cases hk
      have hok := hall i him
      unfold okF at hok
      rw [Bool.and_eq_true] at hok
      rcases hbad with q | q
      · rw [hok.1] at q; cases q
      · rw [hok.2] at q; cases q
    · intro hn
      have : ∃ a ∈ fr, ¬ okF K a = true := by
        refine Classical.byContradiction fun hc => hn fun a ha => Classical.byContradiction fun hb => hc ⟨a, ha, hb⟩
      obtain ⟨a, ha, hb⟩ := this
      have hr := h.rng ha
      have ha2 : 2 ≤ a := by
        rcases (show a = 1 ∨ 2 ≤ a from by omega) with q | q
        · subst q; have := (h.new 1 ha).1; have h2 := hroot; rw [show ((1 : Nat) : Int) = 1 from rfl] at this; rw [this] at h2; cases h2
        · exact q
      refine ⟨a, List.mem_range.2 hr.2, ?_⟩
      simp only [Bool.and_eq_true, decide_eq_true_eq, loD, Bool.not_eq_true', Bool.or_eq_true]
      refine ⟨ha2, ⟨(h.new a ha).2, by rw [(h.new a ha).1]; rfl⟩, ?_⟩
      unfold okF at hb
      rw [Bool.and_eq_true] at hb
      cases e1 : (K ((a ^^^ 1 : Nat) : Int)).isSome with
      | false => exact .inl rfl
      | true =>
        cases e2 : (K ((a / 2 : Nat) : Int)).isSome with
        | false => exact .inr rfl
        | true => exact absurd ⟨e1, e2⟩ hb
  cases e1 : (List.range (2 * w)).any (fun i => decide (2 ≤ i) && loD K0 K i) with
  | true => rw [eq_comm]; simpa using key.1 e1
  | false =>
    cases e2 : fr.all (okF K) with
    | true => rfl
    | false => have := key.2 (by rw [e2]; decide); rw [e1] at this; cases this
theorem put_same {w : Nat} {K : KM} (l : List Nd) (h : SupK w K) (hw : 1 ≤ w) (hroot : (K 1).isSome = true) : (putS w K l).1 = (putD w K l).1 ∧ putK w K l = (putD w K l).2 := by
  have a1 := put1_same (w := w) l K []
  have f1 := put1_fre l K [] (Fre_0 h)
  by_cases h1 : (put1D w K l).1 = 0
  · have e0 : (put1 w K l []).1 = 0 := by rw [a1.1]; exact h1
    have e1 := a1.2 h1
    have a2 := cl2_same (w := w) (K0 := K) (w - 1) _ _ (by omega) f1
    have f2 := cl2_fre (w := w) (w - 1) _ _ (by omega) f1
    rw [e1] at a2 f2
    by_cases h2 : (clD2 K (w - 1) (put1D w K l).2).1 = true
    · have e2 : (cl2 (w - 1) (put1D w K l).2 (put1 w K l []).2.2).1 = true := by rw [a2.1]; exact h2
      have e3 := a2.2 h2
      have hl := loose_same f2 hroot
      rw [e3] at hl f2
      have hS : putS w K l = if (cl2 (w - 1) (put1D w K l).2 (put1 w K l []).2.2).2.2.all (okF (clD2 K (w - 1) (put1D w K l).2).2) = true then (0, (clD2 K (w - 1) (put1D w K l).2).2, (cl2 (w - 1) (put1D w K l).2 (put1 w K l []).2.2).2.2) else (122, (clD2 K (w - 1) (put1D w K l).2).2, (cl2 (w - 1) (put1D w K l).2 (put1 w K l []).2.2).2.2) := by
        unfold putS; dsimp only; rw [if_pos e0, e1, if_pos e2, e3]
      have hD : putD w K l = if (List.range (2 * w)).any (fun i => decide (2 ≤ i) && loD K (clD2 K (w - 1) (put1D w K l).2).2 i) = true then (122, K) else (0, (clD2 K (w - 1) (put1D w K l).2).2) := by
        unfold putD; dsimp only; rw [if_pos h1, if_pos h2]
      rw [hl] at hD
      by_cases ha : (cl2 (w - 1) (put1D w K l).2 (put1 w K l []).2.2).2.2.all (okF (clD2 K (w - 1) (put1D w K l).2).2) = true
      · rw [if_pos ha] at hS
        rw [if_neg (by rw [ha]; decide)] at hD
        rw [hD]
        have hz : (putS w K l).1 = 0 := by rw [hS]
        exact ⟨hz, by rw [putK_ok hz, hS]⟩
      · rw [if_neg ha] at hS
        rw [if_pos (by simpa using ha)] at hD
        rw [hD]
        have hz : (putS w K l).1 = 122 := by rw [hS]
        exact ⟨hz, putK_bad h hw (by rw [hz]; decide)⟩
    · have e2 : ¬ (cl2 (w - 1) (put1D w K l).2 (put1 w K l []).2.2).1 = true := by rw [a2.1]; exact h2
      have hz : (putS w K l).1 = 123 := by unfold putS; dsimp only; rw [if_pos e0, e1, if_neg e2]
      have hD : putD w K l = (123, K) := by unfold putD; dsimp only; rw [if_pos h1, if_neg h2]
      rw [hD]
      exact ⟨hz, putK_bad h hw (by rw [hz]; decide)⟩
  · have e0 : ¬ (put1 w K l []).1 = 0 := by rw [a1.1]; exact h1
    have hz : (putS w K l).1 = (put1D w K l).1 := by unfold putS; dsimp only; rw [if_neg e0]; exact a1.1
    have hD : putD w K l = ((put1D w K l).1, K) := by unfold putD; dsimp only; rw [if_neg h1]
    rw [hD]
    exact ⟨hz, putK_bad h hw (by rw [hz]; exact h1)⟩
end Go.ShM
/-
  Maps from nodes to digests: looked up, laid in, taken out, counted. (Conditions: none; generic over the program.)
-/
set_option linter.all false
namespace Go.ShM
open Go.SL Go.RowKit
section
variable {P : Program} {n : Nat} {L : List (Nat × Value)} {A : List Asn} {d : Option Tmp} {ty : TypeId} {pos' : String} {af : Array Edge} {g : Option (Nat × Bool)}
theorem Rd_lookD {t kt et : TypeId} {ik : IntKind} {x y : Operand} {m : Nat} {K : KM} {k : Int} (hx : ev L x = some (.map (some m))) (hy : ev L y = some (.int .i64 k)) (hu : P.underlying t = some (.map kt et)) (hk : P.underlying kt = some (.int ik)) (hz : ∀ w, (zeroValue et).run P w = .ok (dV zD) w)
    (hA : Has A (mpI m (kv K)) := by repeat (first | with_reducible exact Has.here | with_reducible refine Has.there ?_)) : Rd P n ⟨d, .lookup t x y true, ty, pos', af, g⟩ L A (.tuple #[aU .u8 ((K k).getD zD).1, .bool (K k).isSome]) := by
  have h := Rd_lookup2 (d := d) (ty := ty) (pos' := pos') (af := af) (g := g) (n := n) hx hy hu hk hz hA
  rw [kv_get, kv_is] at h
  exact h
theorem Rd_lookD1 {t kt et : TypeId} {ik : IntKind} {x y : Operand} {m : Nat} {K : KM} {k : Int} (hx : ev L x = some (.map (some m))) (hy : ev L y = some (.int .i64 k)) (hu : P.underlying t = some (.map kt et)) (hk : P.underlying kt = some (.int ik)) (hz : ∀ w, (zeroValue et).run P w = .ok (dV zD) w)
    (hA : Has A (mpI m (kv K)) := by repeat (first | with_reducible exact Has.here | with_reducible refine Has.there ?_)) : Rd P n ⟨d, .lookup t x y false, ty, pos', af, g⟩ L A (aU .u8 ((K k).getD zD).1) := by
  have h := Rd_lookup1 (d := d) (ty := ty) (pos' := pos') (af := af) (g := g) (n := n) hx hy hu hk hz hA
  rw [kv_get] at h
  exact h
theorem Ac_mapD {t kt et : TypeId} {ik : IntKind} {x y z : Operand} {m : Nat} {K : KM} {k : Int} {bs : List B8} {R : List Asn} (dg : Dg) (hx : ev L x = some (.map (some m))) (hy : ev L y = some (.int .i64 k)) (hz : ev L z = some (aU .u8 bs)) (hu : P.underlying t = some (.map kt et)) (hk : P.underlying kt = some (.int ik)) (hd : bs = dg.1 := by rfl)
    (hE : Ext A (mpI m (kv K)) R := by repeat (first | with_reducible exact Ext.here | with_reducible apply Ext.there)) : Ac P n ⟨d, .mapUpdate t x y z, ty, pos', af, g⟩ L A (fun _ A' => A' = mpI m (kv (kset K k dg)) :: R) := by
  subst hd
  have h := Ac_mapUpdate (d := d) (ty := ty) (pos' := pos') (af := af) (g := g) (n := n) (v := dV dg) hx hy hz hu hk hE
  rw [kv_set] at h
  exact h
theorem Ac_delD {t t' kt et : TypeId} {ik : IntKind} {x y : Operand} {m : Nat} {K : KM} {k : Int} {R : List Asn} (hx : ev L x = some (.map (some m))) (hy : ev L y = some (.int .i64 k)) (hu : P.underlying t = some (.map kt et)) (hk : P.underlying kt = some (.int ik))
    (hE : Ext A (mpI m (kv K)) R := by repeat (first | with_reducible exact Ext.here | with_reducible apply Ext.there)) : Ac P n ⟨d, .call ⟨.builtin .delete, #[x, y], #[t, t']⟩, ty, pos', af, g⟩ L A (fun _ A' => A' = mpI m (kv (kdel K k)) :: R) := by
  have h := Ac_delete (t' := t') (d := d) (ty := ty) (pos' := pos') (af := af) (g := g) (n := n) hx hy hu hk hE
  rw [kv_del] at h
  exact h
theorem Ac_mkD {t : TypeId} : Ac P n ⟨d, .makeMap t none, ty, pos', af, g⟩ L A (fun v A' => ∃ m, v = .map (some m) ∧ A' = mpI m (kv k0) :: A) := Ac_makeMap
theorem kis {K : KM} {t : Int} (h : (K t).isSome = true) : K t = some ((K t).getD zD) := by cases e : K t with | none => rw [e] at h; cases h | some d => rfl
theorem knone {K : KM} {t : Int} (h : (K t).isSome = false) : K t = none := by cases e : K t with | none => rfl | some d => rw [e] at h; cases h
def frV (fr : List Nat) : Int → Option Value := fun t => if 0 ≤ t ∧ t.toNat ∈ fr then some (.int .i64 1) else none
theorem frV_0 : (fun _ : Int => (none : Option Value)) = frV [] := by funext t; unfold frV; rw [if_neg (by simp)]
theorem frV_add (fr : List Nat) (a : Nat) : upd (frV fr) ((a : Nat) : Int) (some (.int .i64 1)) = frV (fr ++ [a]) := by
  funext t
  unfold upd frV
  by_cases h : t = ((a : Nat) : Int)
  · rw [if_pos h, if_pos (by rw [h]; exact ⟨by omega, by simp⟩)]
  · rw [if_neg h]
    by_cases h2 : 0 ≤ t ∧ t.toNat ∈ fr
    · rw [if_pos h2, if_pos ⟨h2.1, List.mem_append_left _ h2.2⟩]
    · rw [if_neg h2, if_neg]
      rintro ⟨h3, h4⟩
      rcases List.mem_append.1 h4 with q | q
      · exact h2 ⟨h3, q⟩
      · rw [List.mem_singleton] at q; omega
def inF (fr : List Nat) (a : Nat) : Nat := if a ∈ fr then 1 else 0
theorem inF_le (fr : List Nat) (a : Nat) : inF fr a ≤ 1 := by unfold inF; split <;> omega
theorem inF_0 {fr : List Nat} {a b c : Nat} : inF fr a + inF fr b + inF fr c = 0 ↔ a ∉ fr ∧ b ∉ fr ∧ c ∉ fr := by
  unfold inF
  constructor
  · intro h
    refine ⟨fun q => ?_, fun q => ?_, fun q => ?_⟩ <;> rw [if_pos q] at h <;> omega
  · rintro ⟨h1, h2, h3⟩; rw [if_neg h1, if_neg h2, if_neg h3]
theorem Rd_lookF {t kt et : TypeId} {ik : IntKind} {x y : Operand} {m : Nat} {fr : List Nat} {a : Nat} (hx : ev L x = some (.map (some m))) (hy : ev L y = some (.int .i64 ((a : Nat) : Int))) (hu : P.underlying t = some (.map kt et)) (hk : P.underlying kt = some (.int ik)) (hz : ∀ w, (zeroValue et).run P w = .ok (.int .i64 0) w)
    (hA : Has A (mpI m (frV fr)) := by repeat (first | with_reducible exact Has.here | with_reducible refine Has.there ?_)) : Rd P n ⟨d, .lookup t x y false, ty, pos', af, g⟩ L A (.int .i64 ((inF fr a : Nat) : Int)) := by
  have h := Rd_lookup1 (d := d) (ty := ty) (pos' := pos') (af := af) (g := g) (n := n) hx hy hu hk hz hA
  have e : ((frV fr) ((a : Nat) : Int)).getD (.int .i64 0) = .int .i64 ((inF fr a : Nat) : Int) := by
    unfold frV inF
    by_cases q : a ∈ fr
    · rw [if_pos ⟨by omega, by simpa using q⟩, if_pos q]; rfl
    · rw [if_neg (by rintro ⟨_, q2⟩; exact q (by simpa using q2)), if_neg q]; rfl
  rw [e] at h
  exact h
theorem Ac_mapF {t kt et : TypeId} {ik : IntKind} {x y z : Operand} {m : Nat} {fr : List Nat} {a : Nat} {R : List Asn} (hx : ev L x = some (.map (some m))) (hy : ev L y = some (.int .i64 ((a : Nat) : Int))) (hz : ev L z = some (.int .i64 1)) (hu : P.underlying t = some (.map kt et)) (hk : P.underlying kt = some (.int ik))
    (hE : Ext A (mpI m (frV fr)) R := by repeat (first | with_reducible exact Ext.here | with_reducible apply Ext.there)) : Ac P n ⟨d, .mapUpdate t x y z, ty, pos', af, g⟩ L A (fun _ A' => A' = mpI m (frV (fr ++ [a])) :: R) := by
  have h := Ac_mapUpdate (d := d) (ty := ty) (pos' := pos') (af := af) (g := g) (n := n) hx hy hz hu hk hE
  rw [frV_add] at h
  exact h
end
def eND (x : Nd) : List Value := .int .i64 x.1 :: fD x.2
theorem encND : Enc eND 33 := ⟨fun x => by show (fD x.2).length + 1 = 33; rw [encD.len], fun x v hv => by
  rcases List.mem_cons.1 hv with q | q
  · subst q; rfl
  · exact encD.one _ v q⟩
theorem setAt_app : ∀ (vs a b : List Value), b.length = vs.length → setAt a.length vs (a ++ b) = a ++ vs
  | [], a, b, h => by
    have : b = [] := List.eq_nil_of_length_eq_zero h
    subst this; rfl
  | v :: r, a, [], h => by simp at h
  | v :: r, a, x :: b, h => by
    have ih := setAt_app r (a ++ [v]) b (by simpa using h)
    rw [List.length_append, List.length_singleton, List.append_assoc, List.append_assoc] at ih
    unfold setAt
    rw [List.set_append_right _ _ (Nat.le_refl _), Nat.sub_self, List.set_cons_zero]
    exact ih
theorem fillND {i : Int} {d : Dg} {zs : List Value} (hz : zs.length = 32) : fillL [(0, 1), (1, 32)] [(0, .int .i64 i), (1, aU .u8 d.1)] (.int .i64 0 :: zs) = some (eND (i, d)) := by
  have hc : (aU .u8 d.1).cells.toList = fD d := by rw [aU_cells]; rfl
  have hcs : (aU .u8 d.1).cells.size = 32 := by rw [aU_cells, List.size_toArray, flatU_len]; exact d.2
  have h1 : (Value.int .i64 i).cells = #[.int .i64 i] := rfl
  have e := setAt_app (fD d) [.int .i64 i] zs (by rw [encD.len]; exact hz)
  simp only [fillL, List.getElem?_cons_zero, List.getElem?_cons_succ, h1, hcs, hc]
  simp only [setAt, List.set_cons_zero, List.length_cons, hz]
  exact congrArg some e
theorem eND_dg (x : Nd) : ((eND x).drop 1).take 32 = fD x.2 := by
  show (fD x.2).take 32 = fD x.2
  exact List.take_of_length_le (by rw [encD.len]; exact Nat.le_refl _)
theorem cl2_nil {m : Nat} {K : KM} {fr : List Nat} (h : (K ((2 * (m + 1) : Nat) : Int)).isSome = false ∨ (K ((2 * (m + 1) + 1 : Nat) : Int)).isSome = false) : cl2 (m + 1) K fr = cl2 m K fr := by
  rw [cl2]
  cases h1 : K ((2 * (m + 1) : Nat) : Int) with
  | none => rfl
  | some l =>
    cases h2 : K ((2 * (m + 1) + 1 : Nat) : Int) with
    | none => rfl
    | some r => rw [h1, h2] at h; simp at h
theorem cl2_old {m : Nat} {K : KM} {fr : List Nat} (h1 : (K ((2 * (m + 1) : Nat) : Int)).isSome = true) (h2 : (K ((2 * (m + 1) + 1 : Nat) : Int)).isSome = true) (h3 : (K ((m + 1 : Nat) : Int)).isSome = true) (hf : inF fr (m + 1) + inF fr (2 * (m + 1)) + inF fr (2 * (m + 1) + 1) = 0) : cl2 (m + 1) K fr = cl2 m K fr := by
  rw [cl2, kis h1, kis h2, kis h3]
  dsimp only
  rw [if_pos (inF_0.1 hf)]
theorem cl2_ok {m : Nat} {K : KM} {fr : List Nat} (h1 : (K ((2 * (m + 1) : Nat) : Int)).isSome = true) (h2 : (K ((2 * (m + 1) + 1 : Nat) : Int)).isSome = true) (h3 : (K ((m + 1 : Nat) : Int)).isSome = true) (hf : ¬ inF fr (m + 1) + inF fr (2 * (m + 1)) + inF fr (2 * (m + 1) + 1) = 0) (he : nodeD ((K ((2 * (m + 1) : Nat) : Int)).getD zD) ((K ((2 * (m + 1) + 1 : Nat) : Int)).getD zD) = (K ((m + 1 : Nat) : Int)).getD zD) : cl2 (m + 1) K fr = cl2 m K fr := by
  rw [cl2, kis h1, kis h2, kis h3]
  dsimp only
  rw [if_neg (fun q => hf (inF_0.2 q)), if_pos he]
theorem cl2_bad {m : Nat} {K : KM} {fr : List Nat} (h1 : (K ((2 * (m + 1) : Nat) : Int)).isSome = true) (h2 : (K ((2 * (m + 1) + 1 : Nat) : Int)).isSome = true) (h3 : (K ((m + 1 : Nat) : Int)).isSome = true) (hf : ¬ inF fr (m + 1) + inF fr (2 * (m + 1)) + inF fr (2 * (m + 1) + 1) = 0) (he : ¬ nodeD ((K ((2 * (m + 1) : Nat) : Int)).getD zD) ((K ((2 * (m + 1) + 1 : Nat) : Int)).getD zD) = (K ((m + 1 : Nat) : Int)).getD zD) : cl2 (m + 1) K fr = (false, K, fr) := by
  rw [cl2, kis h1, kis h2, kis h3]
  dsimp only
  rw [if_neg (fun q => hf (inF_0.2 q)), if_neg he]
theorem cl2_new {m : Nat} {K : KM} {fr : List Nat} (h1 : (K ((2 * (m + 1) : Nat) : Int)).isSome = true) (h2 : (K ((2 * (m + 1) + 1 : Nat) : Int)).isSome = true) (h3 : (K ((m + 1 : Nat) : Int)).isSome = false) : cl2 (m + 1) K fr = cl2 m (kset K ((m + 1 : Nat) : Int) (nodeD ((K ((2 * (m + 1) : Nat) : Int)).getD zD) ((K ((2 * (m + 1) + 1 : Nat) : Int)).getD zD))) (fr ++ [m + 1]) := by
  rw [cl2, kis h1, kis h2, knone h3]
  rfl
theorem put1_bad {w : Nat} {K : KM} {x : Nd} {l : List Nd} {fr : List Nat} (h : x.1 < 1 ∨ 2 * (w : Int) - 1 < x.1) : put1 w K (x :: l) fr = (120, K, fr) := by rw [put1, if_pos h]
theorem put1_old {w : Nat} {K : KM} {x : Nd} {l : List Nd} {fr : List Nat} (h : ¬ (x.1 < 1 ∨ 2 * (w : Int) - 1 < x.1)) (hs : (K x.1).isSome = true) (he : (K x.1).getD zD = x.2) : put1 w K (x :: l) fr = put1 w K l fr := by
  rw [put1, if_neg h, kis hs]; dsimp only; rw [if_pos he]
theorem put1_oth {w : Nat} {K : KM} {x : Nd} {l : List Nd} {fr : List Nat} (h : ¬ (x.1 < 1 ∨ 2 * (w : Int) - 1 < x.1)) (hs : (K x.1).isSome = true) (he : ¬ (K x.1).getD zD = x.2) : put1 w K (x :: l) fr = (121, K, fr) := by
  rw [put1, if_neg h, kis hs]; dsimp only; rw [if_neg he]
theorem put1_new {w : Nat} {K : KM} {x : Nd} {l : List Nd} {fr : List Nat} (h : ¬ (x.1 < 1 ∨ 2 * (w : Int) - 1 < x.1)) (hs : (K x.1).isSome = false) : put1 w K (x :: l) fr = put1 w (kset K x.1 x.2) l (fr ++ [x.1.toNat]) := by
  rw [put1, if_neg h, knone hs]
theorem putS_a {w : Nat} {K K' : KM} {l : List Nd} {e : Int} {fr : List Nat} (h : put1 w K l [] = (e, K', fr)) (he : e ≠ 0) : putS w K l = (e, K', fr) := by
  unfold putS; dsimp only; rw [h]; exact if_neg he
theorem putS_b {w : Nat} {K K1 K' : KM} {l : List Nd} {f1 fr : List Nat} (h : put1 w K l [] = (0, K1, f1)) (h2 : cl2 (w - 1) K1 f1 = (false, K', fr)) : putS w K l = (123, K', fr) := by
  unfold putS; dsimp only; rw [h]; dsimp only; rw [if_pos rfl, h2]; rfl
theorem putS_c {w : Nat} {K K1 K' : KM} {l : List Nd} {f1 fr : List Nat} (h : put1 w K l [] = (0, K1, f1)) (h2 : cl2 (w - 1) K1 f1 = (true, K', fr)) (h3 : ¬ fr.all (okF K') = true) : putS w K l = (122, K', fr) := by
  unfold putS; dsimp only; rw [h]; dsimp only; rw [if_pos rfl, h2]; dsimp only; rw [if_pos rfl, if_neg h3]
theorem putS_d {w : Nat} {K K1 K' : KM} {l : List Nd} {f1 fr : List Nat} (h : put1 w K l [] = (0, K1, f1)) (h2 : cl2 (w - 1) K1 f1 = (true, K', fr)) (h3 : fr.all (okF K') = true) : putS w K l = (0, K', fr) := by
  unfold putS; dsimp only; rw [h]; dsimp only; rw [if_pos rfl, h2]; dsimp only; rw [if_pos rfl, if_pos h3]
def undo (e : Int) (K : KM) (fr : List Nat) : KM := if e = 0 then K else dels K fr
theorem putK_v {w : Nat} {K K' : KM} {l : List Nd} {e : Int} {fr : List Nat} (h : putS w K l = (e, K', fr)) : putK w K l = undo e K' fr := by
  unfold putK undo; rw [h]
theorem putS_v {w : Nat} {K K' : KM} {l : List Nd} {e : Int} {fr : List Nat} (h : putS w K l = (e, K', fr)) : (putS w K l).1 = e := by rw [h]
theorem Dg_ext {a b : Dg} (h : a.1 = b.1) : a = b := Subtype.ext h
theorem put1_nil {w : Nat} {K : KM} {fr : List Nat} : put1 w K [] fr = (0, K, fr) := rfl
theorem drop_nd {l : List Nd} {k : Nat} {x : Nd} (h : l[k]? = some x) : l.drop k = x :: l.drop (k + 1) := by
  obtain ⟨hk, e⟩ := List.getElem?_eq_some_iff.1 h
  rw [← e]; exact List.drop_eq_getElem_cons hk
theorem all_step {fr : List Nat} {K : KM} {j a : Nat} (h : (fr.take j).all (okF K) = true) (ha : fr[j]? = some a) (ho : okF K a = true) : (fr.take (j + 1)).all (okF K) = true := by
  obtain ⟨hj, e⟩ := List.getElem?_eq_some_iff.1 ha
  rw [List.take_succ_eq_append_getElem hj, e, List.all_append, h]; simp [ho]
theorem all_bad {fr : List Nat} {K : KM} {j a : Nat} (ha : fr[j]? = some a) (ho : okF K a = false) : ¬ fr.all (okF K) = true := fun h => by
  have := List.all_eq_true.1 h a (List.mem_of_getElem? ha)
  rw [ho] at this; cases this
theorem dels_snoc (K : KM) : ∀ (l : List Nat) (a : Nat), dels K (l ++ [a]) = kdel (dels K l) ((a : Nat) : Int) := by
  intro l
  induction l generalizing K with
  | nil => intro a; rfl
  | cons b l ih => intro a; exact ih _ a
theorem dels_take {K : KM} {l : List Nat} {i a : Nat} (h : l[i]? = some a) : kdel (dels K (l.take i)) ((a : Nat) : Int) = dels K (l.take (i + 1)) := by
  obtain ⟨hi, e⟩ := List.getElem?_eq_some_iff.1 h
  rw [← dels_snoc, List.take_succ_eq_append_getElem hi, e]
end Go.ShM
/-
  What is asked of a tree of which some nodes are known: what a leaf needs, its chain, whether all is known. Plain: no program in sight. (Conditions: none.)
-/
set_option linter.all false
namespace Go.ShM
open Go.SL
def lfB (n : Nat) (i : Int) : Bool := decide (0 ≤ i) && decide (i < (n : Int))
theorem lfB_t {n : Nat} {i : Int} : lfB n i = true ↔ 0 ≤ i ∧ i < (n : Int) := by unfold lfB; simp
theorem lfB_f {n : Nat} {i : Int} : lfB n i = false ↔ i < 0 ∨ (n : Int) ≤ i := by unfold lfB; simp; omega
def lfK (n w : Nat) (K : KM) (i : Int) : Option Dg := if lfB n i = true then K ((w : Int) + i) else none
def askF (n : Nat) (i : Int) : Nat := if lfB n i = true then 0 else 111
theorem askF_0 {n : Nat} {i : Int} : askF n i = 0 ↔ 0 ≤ i ∧ i < (n : Int) := by
  unfold askF; split
  · rename_i h; simp [lfB_t.1 h]
  · rename_i h
    have h2 : lfB n i = false := by simpa using h
    have := lfB_f.1 h2
    constructor
    · intro e; cases e
    · intro e; omega
def needF (K : KM) (i : Nat) : List Nat :=
  if h : i = 0 then [] else if (K ((i : Nat) : Int)).isSome then [] else (if (K ((i ^^^ 1 : Nat) : Int)).isSome then [] else [i ^^^ 1]) ++ needF K (i / 2)
termination_by i
decreasing_by omega
theorem needF_0 (K : KM) : needF K 0 = [] := by rw [needF]; rfl
theorem needF_stop {K : KM} {i : Nat} (h : (K ((i : Nat) : Int)).isSome = true) : needF K i = [] := by
  rw [needF]
  by_cases h0 : i = 0
  · rw [dif_pos h0]
  · rw [dif_neg h0, if_pos h]
theorem needF_has {K : KM} {i : Nat} (h0 : 1 ≤ i) (h : (K ((i : Nat) : Int)).isSome = false) (h2 : (K ((i ^^^ 1 : Nat) : Int)).isSome = true) : needF K i = needF K (i / 2) := by
  rw [needF, dif_neg (by omega), if_neg (by rw [h]; decide), if_pos h2]; rfl
theorem needF_add {K : KM} {i : Nat} (h0 : 1 ≤ i) (h : (K ((i : Nat) : Int)).isSome = false) (h2 : (K ((i ^^^ 1 : Nat) : Int)).isSome = false) : needF K i = (i ^^^ 1) :: needF K (i / 2) := by
  rw [needF, dif_neg (by omega), if_neg (by rw [h]; decide), if_neg (by rw [h2]; decide)]; rfl
def chF (K : KM) (i : Nat) : List Nd :=
  if h : i ≤ 1 then [] else (((i ^^^ 1 : Nat) : Int), (K ((i ^^^ 1 : Nat) : Int)).getD zD) :: chF K (i / 2)
termination_by i
decreasing_by omega
theorem chF_le {K : KM} {i : Nat} (h : i ≤ 1) : chF K i = [] := by rw [chF, dif_pos h]
theorem chF_gt {K : KM} {i : Nat} (h : 1 < i) : chF K i = (((i ^^^ 1 : Nat) : Int), (K ((i ^^^ 1 : Nat) : Int)).getD zD) :: chF K (i / 2) := by rw [chF, dif_neg (by omega)]
def ndsN (n : Nat) (K : KM) (i : Int) : List Nat := if lfB n i = true then needF K (wdM n + i.toNat) else []
def chE (n : Nat) (K : KM) (i : Int) : Nat := if lfB n i = true then (if (K ((wdM n : Int) + i)).isSome = true then 0 else 124) else 111
def chN (n : Nat) (K : KM) (i : Int) : List Nd := if chE n K i = 0 then chF K (wdM n + i.toNat) else []
def whB (w : Nat) (K : KM) : Bool := decide ((List.range (2 * w)).countP (fun k => (K ((k : Nat) : Int)).isSome) = 2 * w - 1)
theorem whB_iff {w : Nat} {K : KM} (h : SupK w K) (hw : 1 ≤ w) : whB w K = true ↔ ∀ i : Nat, 1 ≤ i → i < 2 * w → (K ((i : Nat) : Int)).isSome = true := by
  unfold whB
  rw [decide_eq_true_eq]
  have h0 : (K ((0 : Nat) : Int)).isSome = false := by rw [h.none (t := ((0 : Nat) : Int)) (.inl (by decide))]; rfl
  obtain ⟨m, hm⟩ : ∃ m, 2 * w = m + 1 := ⟨2 * w - 1, by omega⟩
  rw [hm, List.range_succ_eq_map, List.countP_cons, List.countP_map]
  rw [if_neg (by rw [h0]; decide), Nat.add_zero, Nat.add_sub_cancel]
  have hl : (List.range m).length = m := List.length_range
  constructor
  · intro e i h1 h2
    have e' := e.trans hl.symm
    have := List.countP_eq_length.1 e' (i - 1) (List.mem_range.2 (by omega))
    simp only [Function.comp, Nat.succ_eq_add_one] at this
    rwa [show i - 1 + 1 = i by omega] at this
  · intro e
    have := List.countP_eq_length (p := (fun k : Nat => (K ((k : Nat) : Int)).isSome) ∘ Nat.succ) (l := List.range m) |>.2 fun a ha => by
      have := List.mem_range.1 ha
      exact e (a + 1) (by omega) (by omega)
    rw [this, hl]
theorem kv_rng {w : Nat} {K : KM} (h : SupK w K) : ∀ k, ((kv K) k).isSome = true → 0 ≤ k ∧ k < ((2 * w : Nat) : Int) := fun k hk => by
  rw [kv_is] at hk
  have := h k hk; omega
theorem whB_kv {w : Nat} {K : KM} : (List.range (2 * w)).countP (fun k => ((kv K) ((k : Nat) : Int)).isSome) = (List.range (2 * w)).countP (fun k => (K ((k : Nat) : Int)).isSome) := by
  congr 1; funext k; rw [kv_is]
end Go.ShM
/-
  The examples of the chapter, plain; a list written out of parts. (Conditions: none.)
-/
set_option linter.all false
namespace Go.ShM
open Go.SL
theorem setAt_mid : ∀ (vs a b c : List Value), b.length = vs.length → setAt a.length vs (a ++ (b ++ c)) = a ++ (vs ++ c)
  | [], a, b, c, h => by
    have : b = [] := List.eq_nil_of_length_eq_zero h
    subst this; rfl
  | v :: vs, a, [], c, h => by cases h
  | v :: vs, a, x :: b, c, h => by
    have ih := setAt_mid vs (a ++ [v]) b c (by simpa using h)
    rw [List.length_append, List.length_singleton] at ih
    show setAt (a.length + 1) vs ((a ++ (x :: (b ++ c))).set a.length v) = _
    rw [List.set_append_right _ _ (Nat.le_refl _), Nat.sub_self, List.set_cons_zero]
    simpa using ih
def partsOf (i : Nat) : List Value → List (Nat × Value)
  | [] => []
  | v :: vs => (i, v) :: partsOf (i + 1) vs
theorem fill_all {k len : Nat} : ∀ (vs : List Value) (i : Nat) (pre bs : List Value), pre.length = i * k → (∀ v ∈ vs, v.cells.size = k) → bs.length = vs.length * k → i + vs.length ≤ len →
    fillL ((List.range len).map fun i => (i * k, k)) (partsOf i vs) (pre ++ bs) = some (pre ++ vs.flatMap fun v => v.cells.toList)
  | [], i, pre, bs, _, _, hb, _ => by
    simp only [List.length_nil, Nat.zero_mul, List.length_eq_zero_iff] at hb
    subst hb; rfl
  | v :: vs, i, pre, bs, hp, hv, hb, hl => by
    have hvk := hv v List.mem_cons_self
    rw [List.length_cons] at hb hl
    rw [Nat.succ_mul] at hb
    have e1 : ((List.range len).map fun i => (i * k, k))[i]? = some (i * k, k) := by rw [List.getElem?_map, List.getElem?_range (by omega)]; rfl
    have hbs : bs = bs.take k ++ bs.drop k := (List.take_append_drop k bs).symm
    have hk : (bs.take k).length = k := by rw [List.length_take]; omega
    have e2 : setAt (i * k) v.cells.toList (pre ++ bs) = (pre ++ v.cells.toList) ++ bs.drop k := by
      rw [← hp]
      conv => lhs; rw [hbs]
      rw [setAt_mid _ _ _ _ (by rw [hk, Array.length_toList, hvk]), List.append_assoc]
    show fillL _ ((i, v) :: partsOf (i + 1) vs) _ = _
    have hc : (Nat.beq v.cells.size k && Nat.ble (i * k + k) (pre ++ bs).length) = true := by
      rw [hvk, Nat.beq_refl, Bool.true_and, Nat.ble_eq, List.length_append, hp]; omega
    simp only [fillL, e1, hc, cond_true, e2]
    rw [fill_all vs (i + 1) _ _ (by rw [List.length_append, hp, Array.length_toList, hvk, Nat.succ_mul]) (fun u hu => hv u (List.mem_cons_of_mem _ hu)) (by rw [List.length_drop]; omega) (by omega)]
    rw [List.flatMap_cons, List.append_assoc]
section
variable {P : Program} {n : Nat} {L : List (Nat × Value)} {A : List Asn} {d : Option Nat} {ty : TypeId} {pos' : String} {af : Array Edge} {g : Option (Nat × Bool)}
theorem Ac_bsF {α : Type} {t et : TypeId} {k : Nat} {len : Nat} {zs : List Value} {qs : Array (Nat × Operand)} {f : α → List Value} (l : List α) (vf : α → Value) (hE : Enc f k) (hvf : ∀ x, (vf x).cells = (f x).toArray) (hu : P.underlying t = some (.slice et)) (hz : zr P et = some zs) (hk : sz P et = some k) (hq : evp L qs.toList = some (partsOf 0 (l.map vf)))
    (hs : Nat.ble (len * k) 16777216 = true) (hl : l.length = len) (hm : Nat.ble len maxLen = true) :
    Ac P n ⟨d, .buildSlice t len qs, ty, pos', af, g⟩ L A (fun v A' => ∃ b, v = sl (some b) len len ∧ A' = arr (some b) len k et f l :: A) := by
  have hmap : ∀ l : List α, (l.map vf).flatMap (fun v => v.cells.toList) = l.flatMap f := fun l => by
    induction l with
    | nil => rfl
    | cons x l ih => rw [List.map_cons, List.flatMap_cons, List.flatMap_cons, ih, hvf]
  refine Ac_bsL (bs := ((Array.range (len * k)).map (zs.toArray[· % zs.toArray.size]!)).toList) l hE hu hz hk hq rfl ?_ hs hl hm
  have := fill_all (k := k) (len := len) (l.map vf) 0 [] ((Array.range (len * k)).map (zs.toArray[· % zs.toArray.size]!)).toList (by simp) (fun v hv => by
    obtain ⟨x, _, rfl⟩ := List.mem_map.1 hv
    rw [hvf, List.size_toArray, hE.len]) (by simp [hl]) (by simp [hl])
  rw [hmap] at this
  exact this
end
def nodV (x : Nd) : Value := .agg (eND x).toArray
theorem dV_cells (d : Dg) : (dV d).cells = (fD d).toArray := by unfold dV; rw [aU_cells]; rfl
theorem nodV_cells (x : Nd) : (nodV x).cells = (eND x).toArray := rfl
def leafD (i : Nat) : Dg := ⟨(((List.replicate 32 0#8).set 0 (BitVec.ofNat 8 i)).set 1 (BitVec.ofNat 8 (i / 256))).set 2 1#8, by simp⟩
theorem exW : wdM 3 = 4 := rfl
theorem exNd (r : Dg) : ndsN 3 (newK 3 r) 0 = [5, 3] := by
  rw [show ndsN 3 (newK 3 r) 0 = needF (newK 3 r) 4 from rfl]
  rw [needF_add (i := 4) (by omega) rfl rfl, needF_add (i := 2) (by omega) rfl rfl, needF_stop (i := 1) rfl]
  rfl
theorem exP1 (r a b : Dg) : (putS 4 (newK 3 r) [(4, a), (5, b)]).1 = 122 := by
  have e1 : put1 4 (newK 3 r) [(4, a), (5, b)] [] = (0, kset (kset (newK 3 r) 4 a) 5 b, [4, 5]) := rfl
  have e2 : cl2 3 (kset (kset (newK 3 r) 4 a) 5 b) [4, 5] = (true, kset (kset (kset (newK 3 r) 4 a) 5 b) 2 (nodeD a b), [4, 5, 2]) := by
    rw [cl2_nil (m := 2) (.inl rfl), cl2_new (m := 1) rfl rfl rfl, cl2_nil (m := 0) (.inr rfl)]; rfl
  unfold putS
  dsimp only
  rw [e1]; dsimp only
  rw [if_pos rfl, show 4 - 1 = 3 from rfl, e2]; rfl
theorem exP2 (r a b : Dg) : putK 4 (newK 3 r) [(4, a), (5, b)] = newK 3 r := putK_bad (SupK_new (n := 3) (by decide) (by decide)) (by decide) (by rw [exP1]; decide)
def exK3 (a b c : Dg) : KM := kset (kset (kset (newK 3 (nodeD (nodeD a b) (nodeD c (padD 3)))) 6 c) 2 (nodeD a b)) 3 (nodeD c (padD 3))
theorem exP3 (a b c : Dg) : putS 4 (newK 3 (nodeD (nodeD a b) (nodeD c (padD 3)))) [(6, c), (2, nodeD a b)] = (0, exK3 a b c, [6, 2, 3]) := by
  have e1 : put1 4 (newK 3 (nodeD (nodeD a b) (nodeD c (padD 3)))) [(6, c), (2, nodeD a b)] [] = (0, kset (kset (newK 3 (nodeD (nodeD a b) (nodeD c (padD 3)))) 6 c) 2 (nodeD a b), [6, 2]) := rfl
  have e2 : cl2 3 (kset (kset (newK 3 (nodeD (nodeD a b) (nodeD c (padD 3)))) 6 c) 2 (nodeD a b)) [6, 2] = (true, exK3 a b c, [6, 2, 3]) := by
    rw [cl2_new (m := 2) rfl rfl rfl, cl2_nil (m := 1) (.inl rfl)]
    rw [cl2_ok (m := 0) rfl rfl rfl (by decide) rfl]
    rfl
  unfold putS
  dsimp only
  rw [e1]; dsimp only
  rw [if_pos rfl, show 4 - 1 = 3 from rfl, e2]; rfl
def exR : Dg := nodeD (nodeD (leafD 0) (leafD 1)) (nodeD (leafD 2) (padD 3))
def exBL : List Dg := [exR, nodeD (leafD 0) (leafD 1), nodeD (leafD 2) (padD 3), leafD 0, leafD 1, leafD 2, padD 3]
def exK : KM := exK3 (leafD 0) (leafD 1) (leafD 2)
theorem exS : SupK 4 (newK 3 exR) := SupK_new (n := 3) (by decide) (by decide)
theorem exP3' : (putS 4 (newK 3 exR) [(6, leafD 2), (2, nodeD (leafD 0) (leafD 1))]).1 = 0 := by rw [show exR = nodeD (nodeD (leafD 0) (leafD 1)) (nodeD (leafD 2) (padD 3)) from rfl, exP3]
theorem exP3'' : putK 4 (newK 3 exR) [(6, leafD 2), (2, nodeD (leafD 0) (leafD 1))] = exK := by
  rw [putK_ok exP3', show exR = nodeD (nodeD (leafD 0) (leafD 1)) (nodeD (leafD 2) (padD 3)) from rfl, exP3]; rfl
theorem exLf2 : lfK 3 4 exK 2 = some (leafD 2) := rfl
theorem exLf0 : lfK 3 4 exK 0 = none := rfl
end Go.ShM
/-
  A map that is none. (Conditions: none.)
-/
set_option linter.all false
namespace Go.ShM
open Go.SL
section
variable {P : Program} {n : Nat} {L : List (Nat × Value)} {A : List Asn} {d : Option Nat} {ty : TypeId} {pos' : String} {af : Array Edge} {g : Option (Nat × Bool)}
end
end Go.ShM
