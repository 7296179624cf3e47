/-
  Contracts of functions that the claim reaches, or the logic and the plain laws that they rest on, or the row over them. (Conditions: none beyond the statement.)
-/
import Derived.Test.YtilmiikfjcdllaaLibR
import Derived.Test.YtilmiikfjcdllaaHyGf
import Derived.Test.YtilmiikfjcdllaaLibC
import Derived.Test.YtilmiikfjcdllaaShOp
import Derived.Test.YtilmiikfjcdllaaHyLa
import Derived.Test.YtilmiikfjcdllaaShStr
set_option linter.all false
/-
  Lists of things handed out, written over, longer ones made of them: in plain words, and what is owned, for things of any kind. (Conditions: none; no program in sight.)
-/
set_option maxRecDepth 20000
namespace Go.ShM
open Go.SL Go.RowKit
structure PG (α : Type) where
  a : Option Nat
  cap : Nat
  l : List α
def ePG {α : Type} (p : PG α) : List Value := [sl p.a p.l.length p.cap]
theorem encPG {α : Type} : Enc (ePG (α := α)) 1 := ⟨fun _ => rfl, fun x v hv => by simp [ePG, sl] at hv; subst hv; rfl⟩
def FPG {α : Type} (T : TypeId) (e : Nat) (f : α → List Value) (p : PG α) : Asn := arr p.a p.cap e T f p.l
def FQG {α : Type} (T : TypeId) (e : Nat) (f : α → List Value) (g : Nat → Nat → α) (q : QI) : Asn := apk q.a q.cap q.a' q.cap' e T f (mks (g (q.j + 1)) 0 q.n) (mks (g (q.j + 1)) 0 (q.n + 70))
section
variable {α : Type} {g : Nat → Nat → α}
def mkPG (g : Nat → Nat → α) (k : Nat) (p : PG α) : PG α := ⟨p.a, p.cap, mks (g (k + 1)) 0 p.l.length⟩
def mkdG (g : Nat → Nat → α) (ps : List (PG α)) (k : Nat) : List (PG α) := ps.mapIdx fun j p => if j < k then mkPG g j p else p
theorem mkdG_0 (ps : List (PG α)) : mkdG g ps 0 = ps := by
  unfold mkdG
  apply List.ext_getElem?
  intro i
  rw [List.getElem?_mapIdx]
  cases ps[i]? <;> simp
theorem mkdG_at {ps : List (PG α)} {k j : Nat} {p : PG α} (h : ps[j]? = some p) : (mkdG g ps k)[j]? = some (if j < k then mkPG g j p else p) := by
  unfold mkdG; rw [List.getElem?_mapIdx, h]; rfl
theorem mkdG_len (ps : List (PG α)) (k : Nat) : (mkdG g ps k).length = ps.length := by simp [mkdG]
theorem mkdG_set {ps : List (PG α)} {k : Nat} {p : PG α} (h : ps[k]? = some p) : (mkdG g ps k).set k (mkPG g k p) = mkdG g ps (k + 1) := by
  have hk := (List.getElem?_eq_some_iff.1 h).1
  apply List.ext_getElem?
  intro i
  rw [List.getElem?_set, mkdG_len]
  by_cases hi : k = i
  · subst hi
    rw [if_pos rfl, if_pos hk, mkdG_at h, if_pos (by omega)]
  · rw [if_neg hi]
    unfold mkdG
    rw [List.getElem?_mapIdx, List.getElem?_mapIdx]
    cases ps[i]? with
    | none => rfl
    | some x =>
      simp only [Option.map_some]
      by_cases h2 : i < k
      · rw [if_pos h2, if_pos (by omega)]
      · rw [if_neg h2, if_neg (by omega)]
theorem mkdG_all {ps : List (PG α)} {j : Nat} {p : PG α} (h : ps[j]? = some p) : (mkdG g ps ps.length)[j]? = some (mkPG g j p) := by
  rw [mkdG_at h, if_pos (List.getElem?_eq_some_iff.1 h).1]
def QOkG (ps : List (PG α)) (qs : List QI) : Prop := ∀ (j : Nat) (q : QI), qs[j]? = some q → q.j = j ∧ q.a' ≠ none ∧ q.n + 70 ≤ q.cap' ∧ (q.a = none → q.n = 0) ∧ q.n ≤ q.cap ∧ ∃ p, ps[j]? = some p ∧ q.a = p.a ∧ q.cap = p.cap ∧ q.n = p.l.length
theorem QOkG_nil {ps : List (PG α)} : QOkG ps [] := fun j q h => by simp at h
theorem QOkG_snoc {ps : List (PG α)} {qs : List QI} {q : QI} {p : PG α} (h : QOkG ps qs) (hp : ps[qs.length]? = some p) (hj : q.j = qs.length) (h1 : q.a' ≠ none) (h2 : q.n + 70 ≤ q.cap') (h3 : q.a = none → q.n = 0) (h4 : q.n ≤ q.cap) (h5 : q.a = p.a) (h6 : q.cap = p.cap) (h7 : q.n = p.l.length) : QOkG ps (qs ++ [q]) := by
  intro j x hx
  rw [List.getElem?_append] at hx
  split at hx
  · exact h j x hx
  · rename_i hlt
    have : j - qs.length = 0 := by
      have := (List.getElem?_eq_some_iff.1 hx).1
      simp at this; omega
    rw [this] at hx
    simp at hx
    subst hx
    have e : j = qs.length := by omega
    subst e
    exact ⟨hj, h1, h2, h3, h4, p, hp, h5, h6, h7⟩
end
theorem Sv_FQGn {α : Type} {T : TypeId} {e : Nat} {f : α → List Value} {g : Nat → Nat → α} {q : QI} (hE : Enc f e) (h1 : q.a' ≠ none) (h2 : q.n + 70 ≤ q.cap') : Sv [FQG T e f g q] (sl q.a' (q.n + 70) q.cap') e f (mks (g (q.j + 1)) 0 (q.n + 70)) (q.a'.map fun g => ⟨g, 0, none⟩) q.cap' := by
  have h := Sv_apkN (a := q.a) (cap := q.cap) (a' := q.a') (cap' := q.cap') (T := T) (l := mks (g (q.j + 1)) 0 q.n) (l' := mks (g (q.j + 1)) 0 (q.n + 70)) hE (fun e => absurd e h1) (by rw [mks_len]; exact h2)
  rw [mks_len] at h
  exact h
theorem Sv_FQGe {α : Type} {T : TypeId} {e : Nat} {f : α → List Value} {g : Nat → Nat → α} {q : QI} (hE : Enc f e) (h1 : q.a = none → q.n = 0) (h2 : q.n ≤ q.cap) : Sv [FQG T e f g q] (sl q.a q.n q.cap) e f (mks (g (q.j + 1)) 0 q.n) (q.a.map fun g => ⟨g, 0, none⟩) q.cap := by
  have h := Sv_apkE (a := q.a) (cap := q.cap) (a' := q.a') (cap' := q.cap') (T := T) (l := mks (g (q.j + 1)) 0 q.n) (l' := mks (g (q.j + 1)) 0 (q.n + 70)) hE (mks_pre _ _ _) (fun e => by rw [h1 e]; rfl) (by rw [mks_len]; exact h2)
  rw [mks_len] at h
  exact h
def lentX {α : Type} (g : Nat → Nat → α) (l : List α) : List α := l ++ mks (g 0) l.length 70
theorem lentX_len {α : Type} (g : Nat → Nat → α) (l : List α) : (lentX g l).length = l.length + 70 := by simp [lentX, mks_len]
def overG {α : Type} (g : Nat → Nat → α) (n : Nat) : List α := mks (fun i => g 7 (i + 3)) 0 n
theorem at_G {α : Type} (z : α) {l : List α} {i : Nat} (h : i < l.length) : l[i]? = some (l.getD i z) := by rw [List.getD_eq_getElem?_getD, List.getElem?_eq_getElem h]; rfl
end Go.ShM
namespace Go.Proofs.Ytilmiikfjcdllaa
open Go.RowKit Go.SL Go.ShM Go.HyM Go.Fl Go.SvM
set_option maxHeartbeats 1000000
set_option maxRecDepth 20000
set_option linter.all false
theorem cf16 : cfn Try.prog 16 = true := by kernel_rfl
theorem cf26 : cfn Try.prog 26 = true := by kernel_rfl
theorem cf39 : cfn Try.prog 39 = true := by kernel_rfl
theorem el22 : el Try.prog 22 = some (1, 24) := by kernel_rfl
theorem ud45 : Try.prog.underlying 45 = some (.slice 22) := by kernel_rfl
theorem zr22 : zr Try.prog 22 = some [.slice none 0 0] := by kernel_rfl
def mkPr (k i : Nat) : Pr := (((1000003 * (k + 1) : Nat) : Int), ((i : Nat) : Int))

theorem markP_ct {k i : Nat} (hk : k ≤ 10000000000 := by omega) (hi : i ≤ 10000000000000 := by omega) : Ct Try.prog 39 [.int .i64 ((k : Nat) : Int), .int .i64 ((i : Nat) : Int)] [] (fun _ : Unit => .agg (ePr (mkPr k i)).toArray) (fun _ => []) := by
 refine Ct_body (n := 10) Try.func39 rfl rfl rfl fun F w0 Q hret hnorm hp => ?_
 change WC _ _ _ _ _ _ _ (F)
 refine WC_sr fun K1 hK1 => ?_
 refine WL_ac (Ac_alloc zr24) rfl rfl rfl ?_
 rintro _ _ ⟨b4, rfl, rfl⟩
 refine WL_end hK1 ?_
 refine WC_sr fun K2 hK2 => ?_
 refine WL_r (Rd_move rfl) rfl ?_
 refine WL_r (Rd_addN (j := 1) rfl rfl) rfl ?_
 refine WL_r (Rd_mulN (i := 1000003) rfl rfl) rfl ?_
 refine WL_r (Rd_move rfl) rfl ?_
 refine WL_r (Rd_valE (v := .agg (ePr (mkPr k i)).toArray) (Rd_build pls24 rfl) rfl) rfl ?_
 refine WL_ac0 (Ac_store (ys := ePr (mkPr k i)) rfl rfl sz24 (h1 := encPr.one (mkPr k i)) (hv := rfl) (hr := rfl)) rfl rfl ?_
 rintro _ _ rfl
 refine WL_end hK2 ?_
 refine WC_ret ?_
 exact hret.gf () (Rs1c rfl rfl tk24)

theorem markP_0 {i : Nat} (hi : i ≤ 10000000000000 := by omega) : Ct Try.prog 39 [.int .i64 0, .int .i64 ((i : Nat) : Int)] [] (fun _ : Unit => .agg (ePr (mkPr 0 i)).toArray) (fun _ => []) := markP_ct (k := 0) (i := i)

theorem markP_7 {i : Nat} (hi : i ≤ 10000000000000 := by omega) : Ct Try.prog 39 [.int .i64 7, .int .i64 ((i : Nat) : Int)] [] (fun _ : Unit => .agg (ePr (mkPr 7 i)).toArray) (fun _ => []) := markP_ct (k := 7) (i := i)

theorem lentP_ct {X : Asn} {v : Value} {l : List Pr} {ao : Option Addr} {cap : Nat} (hS : Sv [X] v 2 ePr l ao cap := by assumption) (hl : l.length ≤ 900000000000 := by omega) : Ct Try.prog 16 [v] [X] (fun g : Option Nat × Nat => sl g.1 (lentX mkPr l).length g.2) (fun g => [X, arr g.1 g.2 2 24 ePr (lentX mkPr l)]) := by
 refine Ct_body (n := 32) Try.func16 rfl rfl rfl fun F w0 Q hret hnorm hp => ?_
 change WC _ _ _ _ _ _ _ (_ :: F)
 refine WC_sr fun K1 hK1 => ?_
 refine WL_r (Rd_assign (v := sl none 0 0) rfl) rfl ?_
 refine WL_end hK1 ?_
 refine WC_sr fun K2 hK2 => ?_
 refine WL_r (Rd_assign (v := sl none 0 0) rfl) rfl ?_
 refine WL_nilarr ePr 2 24 ?_
 refine WL_end hK2 ?_
 refine WC_seq fun K3 hK3 => ?_
 refine WC_sr fun K4 hK4 => ?_
 refine WL_r (Rd_assign rfl) rfl ?_
 refine WL_end hK4 ?_
 refine WC_block ?_
 rw [show arr none 0 2 24 ePr ([] : List Pr) = arr none 0 2 24 ePr (l.take 0) from rfl]
 refine WC_loopK (σ := Nat × (Option Nat) × Nat) (fun ⟨i', a, c⟩ => [(3, sl a (l.take i').length c), (4, .int .i64 ((i' : Nat) : Int))]) (fun ⟨i', a, c⟩ => [arr a c 2 24 ePr (l.take i')]) (fun ⟨i', a, c⟩ => i' ≤ l.length) (fun ⟨i', a, c⟩ => l.length - i') ⟨0, none, 0⟩ [0, 2, 5, 19, 20, 21, 22, 23, 24, 25, 26, 27, 28, 29, 30, 31] kpA (by (try dsimp only); repeat (first | with_reducible exact Gv.nil | (with_reducible apply Gv.cons; · (repeat (first | with_reducible exact Ext.here | with_reducible apply Ext.there))))) ?_ ?_ Sub.refl ?_
 ·exact Nat.zero_le _
 ·(try dsimp only); exact (Wk.cons lkA (Wk.cons lkA Wk.nil))
 ·rintro ⟨i', a, c⟩ hi K5 hK5
  simp only [List.cons_append, List.nil_append]
  have htl := List.length_take (i := i') (l := l)
  refine WC_seq fun K6 hK6 => ?_
  refine WC_sr fun K7 hK7 => ?_
  refine WL_r (Rd_move rfl) rfl ?_
  refine WL_r (Rd_move rfl) rfl ?_
  refine WL_r (Rd_len_sv rfl rfl ud22) rfl ?_
  refine WL_r (Rd_lssN rfl rfl) rfl ?_
  refine WL_end hK7 ?_
  refine WC_cond rfl (fun hc0 => ?_) (fun hc0 => ?_)
  ·try simp only [dz, ne_eq] at hc0
   refine WC_skip ?_
   refine Ps_next hK6 ?_
   refine WC_seq fun K8 hK8 => ?_
   refine WC_block ?_
   refine WC_region ?_
   refine WL_r (Rd_move rfl) rfl ?_
   refine WL_r (Rd_move rfl) rfl ?_
   refine WL_r (Rd_move rfl) rfl ?_
   refine WL_r (Rd_index_sv i' rfl rfl ud22 sz24 (hA := hS) (hi := by omega)) rfl ?_
   refine WL_r (Rd_loadg_sv (f := ePr) (i := i') (y := l.getD i' (0, 0)) rfl tk24 (hA := hS) (hl := at_G (0, 0) (by omega))) rfl ?_
   refine WL_ac (Ac_bs1 (xs := ePr (l.getD i' (0, 0))) rfl ud22 zr24 sz24 (hl := encPr.len _)) rfl rfl rfl ?_
   rintro _ _ ⟨b17, rfl, rfl⟩
   refine WL_ac (Ac_append1 (f := ePr) encPr (l.getD i' (0, 0)) rfl rfl ud22 ud22 el24) rfl rfl rfl ?_
   rintro _ _ ⟨a18, cap18, rfl, rfl⟩
   rw [take_snoc (0, 0) (by omega), take_len1 (by omega)]
   refine WL_r (Rd_assign rfl) rfl ?_
   refine WL_nil ?_
   refine Ps_next hK8 ?_
   refine WC_region ?_
   refine WL_r (Rd_move rfl) rfl ?_
   refine WL_r (Rd_addN (j := 1) rfl rfl) rfl ?_
   refine WL_r (Rd_assign rfl) rfl ?_
   refine WL_nil ?_
   refine Ps_wkB (hK5 ⟨i' + 1, a18, cap18⟩ (by dsimp only; omega) (by dsimp only; omega))
  ·try simp only [dz, ne_eq] at hc0
   obtain rfl : i' = l.length := by omega
   rw [List.take_length]
   rw [show arr a c 2 24 ePr l = arr a c 2 24 ePr (l ++ mks (mkPr 0) l.length 0) from by simp [mks]]
   refine WC_exit ?_
   refine Ps_next hK3 ?_
   refine WC_seq fun K9 hK9 => ?_
   refine WC_sr fun K10 hK10 => ?_
   refine WL_r (Rd_assign rfl) rfl ?_
   refine WL_end hK10 ?_
   refine WC_block ?_
   refine WC_loopK (σ := Nat × (Option Nat) × Nat) (fun ⟨j, a2, c2⟩ => [(3, sl a2 (l.length + j) c2), (5, .int .i64 ((j : Nat) : Int))]) (fun ⟨j, a2, c2⟩ => [arr a2 c2 2 24 ePr (l ++ mks (mkPr 0) l.length j)]) (fun ⟨j, a2, c2⟩ => j ≤ 70) (fun ⟨j, a2, c2⟩ => 70 - j) ⟨0, a, c⟩ [0, 2, 31] kpA (by (try dsimp only); repeat (first | with_reducible exact Gv.nil | (with_reducible apply Gv.cons; · (repeat (first | with_reducible exact Ext.here | with_reducible apply Ext.there))))) ?_ ?_ Sub.refl ?_
   ·exact Nat.zero_le _
   ·(try dsimp only); exact (Wk.cons lkA (Wk.cons lkA Wk.nil))
   ·rintro ⟨j, a2, c2⟩ hj K11 hK11
    simp only [List.cons_append, List.nil_append]
    have hml := mks_len (mkPr 0) l.length j
    have hmj : (l ++ mks (mkPr 0) l.length j).length = l.length + j := by rw [List.length_append, hml]
    refine WC_seq fun K12 hK12 => ?_
    refine WC_sr fun K13 hK13 => ?_
    refine WL_r (Rd_move rfl) rfl ?_
    refine WL_r (Rd_lssN (j := 70) rfl rfl) rfl ?_
    refine WL_end hK13 ?_
    refine WC_cond rfl (fun hc1 => ?_) (fun hc1 => ?_)
    ·try simp only [dz, ne_eq] at hc1
     refine WC_skip ?_
     refine Ps_next hK12 ?_
     refine WC_seq fun K14 hK14 => ?_
     refine WC_block ?_
     refine WC_region ?_
     refine WL_r (Rd_move rfl) rfl ?_
     refine WL_r (Rd_move rfl) rfl ?_
     refine WL_r (Rd_len_sv rfl rfl ud22) rfl ?_
     refine WL_r (Rd_move rfl) rfl ?_
     refine WL_r (Rd_addN rfl rfl) rfl ?_
     refine WL_ac (Ac_call cf39 rfl (hs := markP_0 (i := l.length + j))) rfl rfl rfl ?_
     rintro _ _ ⟨⟨⟩, rfl, hA⟩
     simp only [List.cons_append, List.nil_append] at hA
     replace hA := hA.symm
     subst hA
     refine WL_ac (Ac_bs1 (xs := ePr (mkPr 0 (l.length + j))) rfl ud22 zr24 sz24 (hl := encPr.len _)) rfl rfl rfl ?_
     rintro _ _ ⟨b29, rfl, rfl⟩
     refine WL_ac (Ac_append1 (f := ePr) encPr (mkPr 0 (l.length + j)) rfl rfl ud22 ud22 el24) rfl rfl rfl ?_
     rintro _ _ ⟨a30, cap30, rfl, rfl⟩
     rw [hmj, List.append_assoc, mks_succ]
     refine WL_r (Rd_assign rfl) rfl ?_
     refine WL_nil ?_
     refine Ps_next hK14 ?_
     refine WC_region ?_
     refine WL_r (Rd_move rfl) rfl ?_
     refine WL_r (Rd_addN (j := 1) rfl rfl) rfl ?_
     refine WL_r (Rd_assign rfl) rfl ?_
     refine WL_nil ?_
     refine Ps_wkB (hK11 ⟨j + 1, a30, cap30⟩ (by dsimp only; omega) (by dsimp only; omega))
    ·try simp only [dz, ne_eq] at hc1
     obtain rfl : j = 70 := by omega
     rw [show l ++ mks (mkPr 0) l.length 70 = lentX mkPr l from rfl]
     have hll := lentX_len mkPr l
     refine WC_exit ?_
     refine Ps_next hK9 ?_
     refine WC_sr fun K15 hK15 => ?_
     refine WL_r (Rd_move rfl) rfl ?_
     refine WL_r (Rd_assign rfl) rfl ?_
     refine WL_end hK15 ?_
     refine WC_ret ?_
     exact hret.gfE (a2, c2) (Rs1 rfl rfl) (by dsimp only; rw [hll])

theorem sameP_ct {X : Asn} {v v' : Value} {l l' : List Pr} {ao ao' : Option Addr} {cap cap' : Nat} (hS : Sv [X] v 2 ePr l ao cap := by assumption) (hS' : Sv [X] v' 2 ePr l' ao' cap' := by assumption) (hl : l.length ≤ 900000000000 := by omega) : Ct Try.prog 26 [v, v'] [X] (fun _ : Unit => .bool (decide (l = l'))) (fun _ => [X]) := by
 refine Ct_body (n := 26) Try.func26 rfl rfl rfl fun F w0 Q hret hnorm hp => ?_
 change WC _ _ _ _ _ _ _ (_ :: F)
 refine WC_sr fun K1 hK1 => ?_
 refine WL_r (Rd_assign rfl) rfl ?_
 refine WL_end hK1 ?_
 refine WC_seq fun K2 hK2 => ?_
 refine WC_sr fun K3 hK3 => ?_
 refine WL_r (Rd_move rfl) rfl ?_
 refine WL_r (Rd_len_sv rfl rfl ud22) rfl ?_
 refine WL_r (Rd_move rfl) rfl ?_
 refine WL_r (Rd_len_sv rfl rfl ud22) rfl ?_
 refine WL_r (Rd_neqN rfl rfl) rfl ?_
 refine WL_end hK3 ?_
 refine WC_cond rfl (fun hc0 => ?_) (fun hc0 => ?_)
 ·try simp only [dz, ne_eq] at hc0
  refine WC_sr fun K4 hK4 => ?_
  refine WL_r (Rd_assign rfl) rfl ?_
  refine WL_end hK4 ?_
  refine WC_ret ?_
  first | exact hret.goE () (Rs1 rfl rfl) (bF (ne_len hc0)) | exact hret.goE () (Rs1 rfl rfl) (bF (ne_at (z := (0, 0)) hc2)) | exact hret.goE () (Rs1 rfl rfl) (bT (eq_take hi.2 (by omega)))
 ·try simp only [dz, ne_eq] at hc0
  refine WC_skip ?_
  refine Ps_next hK2 ?_
  refine WC_seq fun K5 hK5 => ?_
  refine WC_sr fun K6 hK6 => ?_
  refine WL_r (Rd_assign rfl) rfl ?_
  refine WL_end hK6 ?_
  refine WC_block ?_
  refine WC_loopK (σ := Nat) (fun i' => [(5, .int .i64 ((i' : Nat) : Int))]) (fun i' => []) (fun i' => i' ≤ l.length ∧ l.take i' = l'.take i') (fun i' => l.length - i') (0) [0, 1] kpA (by (try dsimp only); repeat (first | with_reducible exact Gv.nil | (with_reducible apply Gv.cons; · (repeat (first | with_reducible exact Ext.here | with_reducible apply Ext.there))))) ?_ ?_ Sub.refl ?_
  ·exact ⟨Nat.zero_le _, rfl⟩
  ·(try dsimp only); exact (Wk.cons lkA Wk.nil)
  ·rintro i' hi K7 hK7
   simp only [List.cons_append, List.nil_append]
   refine WC_seq fun K8 hK8 => ?_
   refine WC_sr fun K9 hK9 => ?_
   refine WL_r (Rd_move rfl) rfl ?_
   refine WL_r (Rd_move rfl) rfl ?_
   refine WL_r (Rd_len_sv rfl rfl ud22) rfl ?_
   refine WL_r (Rd_lssN rfl rfl) rfl ?_
   refine WL_end hK9 ?_
   refine WC_cond rfl (fun hc1 => ?_) (fun hc1 => ?_)
   ·try simp only [dz, ne_eq] at hc1
    refine WC_skip ?_
    refine Ps_next hK8 ?_
    refine WC_seq fun K10 hK10 => ?_
    refine WC_block ?_
    refine WC_seq fun K11 hK11 => ?_
    refine WC_draw mix [X] (fun i => ([2, 2, 2, 2, 2, 2, 2, 2, 2] : List Nat).getD i 0) ?_
    refine WJ_tp 0 rfl (Rd_move rfl) rfl (hp _ _) ?_
    refine WJ_tp 1 rfl (Rd_move rfl) rfl (hp _ _) ?_
    refine WJ_tp 2 rfl (Rd_index_sv i' rfl rfl ud22 sz24 (hA := hS) (hi := by omega)) rfl (hp _ _) ?_
    refine WJ_tk 3 (Rd_loadg_sv (f := ePr) (i := i') (y := l.getD i' (0, 0)) rfl tk24 (hA := hS) (hl := at_G (0, 0) (by omega))) hp ?_ rfl (by kernel_rfl) rfl rfl rfl
    refine WJ_tp 4 rfl (Rd_move rfl) rfl (hp _ _) ?_
    refine WJ_tp 5 rfl (Rd_move rfl) rfl (hp _ _) ?_
    refine WJ_tp 6 rfl (Rd_index_sv i' rfl rfl ud22 sz24 (hA := hS') (hi := by omega)) rfl (hp _ _) ?_
    refine WJ_tk 7 (Rd_loadg_sv (f := ePr) (i := i') (y := l'.getD i' (0, 0)) rfl tk24 (hA := hS') (hl := at_G (0, 0) (by omega))) hp ?_ rfl (by kernel_rfl) rfl rfl rfl
    refine WJ_tp 8 rfl (Rd_valE (v := .bool (decide (¬ (l.getD i' (0, 0)) = (l'.getD i' (0, 0))))) (Rd_neS (xs := ePr (l.getD i' (0, 0))) (ys := ePr (l'.getD i' (0, 0))) rfl rfl fls24 (EqL.sc tk3 rfl rfl (Eqs_int ud3 _ _) (EqL.sc tk3 rfl rfl (Eqs_int ud3 _ _) EqL.nil))) (congrArg Value.bool (by rw [pr_dec]; simp))) rfl (hp _ _) ?_
    refine WJ_done (by kernel_rfl) ?_
    refine Ps_next hK11 ?_
    refine WC_cond rfl (fun hc2 => ?_) (fun hc2 => ?_)
    ·try simp only [dz, ne_eq] at hc2
     refine WC_sr fun K12 hK12 => ?_
     refine WL_r (Rd_assign rfl) rfl ?_
     refine WL_end hK12 ?_
     refine WC_ret ?_
     first | exact hret.goE () (Rs1 rfl rfl) (bF (ne_len hc0)) | exact hret.goE () (Rs1 rfl rfl) (bF (ne_at (z := (0, 0)) hc2)) | exact hret.goE () (Rs1 rfl rfl) (bT (eq_take hi.2 (by omega)))
    ·try simp only [dz, ne_eq] at hc2
     refine WC_skip ?_
     refine Ps_next hK10 ?_
     refine WC_region ?_
     refine WL_r (Rd_move rfl) rfl ?_
     refine WL_r (Rd_addN (j := 1) rfl rfl) rfl ?_
     refine WL_r (Rd_assign rfl) rfl ?_
     refine WL_nil ?_
     refine Ps_wkB (hK7 (i' + 1) (⟨by omega, take_step hi.2 (by omega) (by omega) hc2⟩) (by omega))
   ·try simp only [dz, ne_eq] at hc1
    obtain rfl : i' = l.length := by omega
    refine WC_exit ?_
    refine Ps_next hK5 ?_
    refine WC_sr fun K13 hK13 => ?_
    refine WL_r (Rd_assign rfl) rfl ?_
    refine WL_end hK13 ?_
    refine WC_ret ?_
    first | exact hret.goE () (Rs1 rfl rfl) (bF (ne_len hc0)) | exact hret.goE () (Rs1 rfl rfl) (bF (ne_at (z := (0, 0)) hc2)) | exact hret.goE () (Rs1 rfl rfl) (bT (eq_take hi.2 (by omega)))

theorem keptP_ct {X : Asn} {v v' : Value} {l l' : List Pr} {ao ao' : Option Addr} {cap cap' : Nat} (hS : Sv [X] v 2 ePr l ao cap := by assumption) (hS' : Sv [X] v' 2 ePr l' ao' cap' := by assumption) (hl : l.length ≤ 900000000000 := by omega) (hl' : l'.length ≤ 900000000000 := by omega) : Ct Try.prog 23 [v, v'] [X] (fun _ : Unit => .bool (decide (l = lentX mkPr l'))) (fun _ => [X]) := by
 refine Ct_body (n := 9) Try.func23 rfl rfl rfl fun F w0 Q hret hnorm hp => ?_
 change WC _ _ _ _ _ _ _ (_ :: F)
 refine WC_sr fun K1 hK1 => ?_
 refine WL_r (Rd_assign rfl) rfl ?_
 refine WL_end hK1 ?_
 refine WC_sr fun K2 hK2 => ?_
 refine WL_r (Rd_move rfl) rfl ?_
 refine WL_r (Rd_move rfl) rfl ?_
 refine WL_ac (Ac_call cf16 rfl (hs := lentP_ct (X := X) (l := l') (hS := hS'))) rfl rfl rfl ?_
 rintro _ _ ⟨⟨a7, cap7⟩, rfl, hA⟩
 simp only [List.cons_append, List.nil_append] at hA
 replace hA := hA.symm
 subst hA
 refine WL_fact (fun w h => arr_facts (a := a7) (cap := cap7) (e := 2) (T := 24) (f := ePr) (l := (lentX mkPr l')) hasA h) (fun hSwf => ?_)
 have hSw : Sv [arr a7 cap7 2 24 ePr (lentX mkPr l')] (sl a7 (lentX mkPr l').length cap7) 2 ePr (lentX mkPr l') (a7.map fun g => ⟨g, 0, none⟩) cap7 := Sv_own' encPr hSwf.1 hSwf.2
 refine WL_ac (Ac_call cf26 rfl (hs := Ct.un0 (Xs := [arr a7 cap7 2 24 ePr (lentX mkPr l'), X]) (sameP_ct (X := sep [arr a7 cap7 2 24 ePr (lentX mkPr l'), X]) (l := l) (l' := (lentX mkPr l')) (hS := hS.pk hasA) (hS' := hSw.pk hasA)))) rfl rfl rfl ?_
 rintro _ _ ⟨⟨⟩, rfl, hA⟩
 simp only [List.cons_append, List.nil_append] at hA
 replace hA := hA.symm
 subst hA
 refine WL_r (Rd_assign rfl) rfl ?_
 refine WL_end hK2 ?_
 refine WC_ret ?_
 exact hret.gf () (Rs1 rfl rfl)

theorem overP_ct {l : List Pr} {a : Option Nat} {cap : Nat} (hl : l.length ≤ 900000000000 := by omega) : Ct Try.prog 25 [sl a l.length cap] [arr a cap 2 24 ePr l] (fun _ : Unit => .tuple #[]) (fun _ => [arr a cap 2 24 ePr (overG mkPr l.length)]) := by
 refine Ct_body (n := 15) Try.func25 rfl rfl rfl fun F w0 Q hret hnorm hp => ?_
 change WC _ _ _ _ _ _ _ (_ :: F)
 refine WC_sr fun K1 hK1 => ?_
 refine WL_r (Rd_assign rfl) rfl ?_
 refine WL_end hK1 ?_
 refine WC_block ?_
 rw [show arr a cap 2 24 ePr l = arr a cap 2 24 ePr (ovl (fun i => mkPr 7 (i + 3)) l 0) from by rw [ovl_0]]
 refine WC_loopK (σ := Nat) (fun i' => [(2, .int .i64 ((i' : Nat) : Int))]) (fun i' => [arr a cap 2 24 ePr (ovl (fun i => mkPr 7 (i + 3)) l i')]) (fun i' => i' ≤ l.length) (fun i' => l.length - i') (0) [0] kpA (by (try dsimp only); repeat (first | with_reducible exact Gv.nil | (with_reducible apply Gv.cons; · (repeat (first | with_reducible exact Ext.here | with_reducible apply Ext.there))))) ?_ ?_ Sub.refl ?_
 ·exact Nat.zero_le _
 ·(try dsimp only); exact (Wk.cons lkA Wk.nil)
 ·rintro i' hi K2 hK2
  simp only [List.cons_append, List.nil_append]
  have hol := ovl_len (fun i => mkPr 7 (i + 3)) hi
  refine WC_seq fun K3 hK3 => ?_
  refine WC_sr fun K4 hK4 => ?_
  refine WL_r (Rd_move rfl) rfl ?_
  refine WL_r (Rd_move rfl) rfl ?_
  refine WL_r (Rd_len rfl rfl ud22) rfl ?_
  refine WL_r (Rd_lssN rfl rfl) rfl ?_
  refine WL_end hK4 ?_
  refine WC_cond rfl (fun hc0 => ?_) (fun hc0 => ?_)
  ·try simp only [dz, ne_eq] at hc0
   refine WC_some (a := a) hasA (by omega) (fun gb hgb hcp => ?_)
   subst hgb
   refine WC_skip ?_
   refine Ps_next hK3 ?_
   refine WC_seq fun K5 hK5 => ?_
   refine WC_block ?_
   refine WC_region ?_
   refine WL_r (Rd_move rfl) rfl ?_
   refine WL_r (Rd_move rfl) rfl ?_
   refine WL_r (Rd_move rfl) rfl ?_
   refine WL_r (Rd_addN (j := 3) rfl rfl) rfl ?_
   refine WL_ac (Ac_call cf39 rfl (hs := markP_7 (i := i' + 3))) rfl rfl rfl ?_
   rintro _ _ ⟨⟨⟩, rfl, hA⟩
   simp only [List.cons_append, List.nil_append] at hA
   replace hA := hA.symm
   subst hA
   refine WL_r (Rd_index i' rfl rfl ud22 sz24 (hj := by omega)) rfl ?_
   refine WL_ac0 (Ac_storeg_arr (mkPr 7 (i' + 3)) rfl rfl sz24 (i := i') (h1 := encPr.one _)) rfl rfl ?_
   rintro _ _ rfl
   rw [ovl_set (fun i => mkPr 7 (i + 3)) (by omega)]
   refine WL_nil ?_
   refine Ps_next hK5 ?_
   refine WC_region ?_
   refine WL_r (Rd_move rfl) rfl ?_
   refine WL_r (Rd_addN (j := 1) rfl rfl) rfl ?_
   refine WL_r (Rd_assign rfl) rfl ?_
   refine WL_nil ?_
   refine Ps_wkB (hK2 (i' + 1) (by omega) (by omega))
  ·try simp only [dz, ne_eq] at hc0
   obtain rfl : i' = l.length := by omega
   rw [ovl_all]
   rw [show mks (fun i => mkPr 7 (i + 3)) 0 l.length = overG mkPr l.length from rfl]
   refine WC_exit ?_
   exact hnorm.go () (Rs0 rfl)

theorem apartP_ct {X : Asn} {v : Value} {ps : List (PG Pr)} {ao : Option Addr} {cap : Nat} (hS : Sv [X] v 1 ePG ps ao cap := by assumption) (hn : ps.length ≤ 100000000 := by omega) (hb : ∀ p ∈ ps, p.l.length ≤ 900000000000 := by assumption) : Ct Try.prog 27 [v] [X, star (FPG 24 2 ePr) ps] (fun _ : Unit => .bool true) (fun _ => [X]) := by
 refine Ct_body (n := 116) Try.func27 rfl rfl rfl fun F w0 Q hret hnorm hp => ?_
 change WC _ _ _ _ _ _ _ (_ :: _ :: F)
 refine WC_sr fun K1 hK1 => ?_
 refine WL_r (Rd_assign rfl) rfl ?_
 refine WL_end hK1 ?_
 refine WC_seq fun K2 hK2 => ?_
 refine WC_sr fun K3 hK3 => ?_
 refine WL_r (Rd_assign rfl) rfl ?_
 refine WL_end hK3 ?_
 refine WC_block ?_
 rw [show star (FPG 24 2 ePr) ps = star (FPG 24 2 ePr) (mkdG mkPr ps 0) from by rw [mkdG_0]]
 refine WC_loopK (σ := Nat) (fun k => [(3, .int .i64 ((k : Nat) : Int))]) (fun k => [star (FPG 24 2 ePr) (mkdG mkPr ps k)]) (fun k => k ≤ ps.length) (fun k => ps.length - k) (0) [0, 2, 5, 6, 7, 8, 9, 10, 11, 37, 38, 39, 40, 41, 42, 43, 44, 45, 46, 47, 48, 49, 50, 51, 52, 53, 54, 55, 56, 57, 58, 59, 60, 61, 62, 63, 64, 65, 66, 67, 68, 69, 70, 71, 72, 73, 74, 75, 76, 77, 78, 79, 80, 81, 82, 83, 84, 85, 86, 87, 88, 89, 90, 91, 92, 93, 94, 95, 96, 97, 98, 99, 100, 101, 102, 103, 104, 105, 106, 107, 108, 109, 110, 111, 112, 113, 114, 115] kpA (by (try dsimp only); repeat (first | with_reducible exact Gv.nil | (with_reducible apply Gv.cons; · (repeat (first | with_reducible exact Ext.here | with_reducible apply Ext.there))))) ?_ ?_ Sub.refl ?_
 ·exact Nat.zero_le _
 ·(try dsimp only); exact (Wk.cons lkA Wk.nil)
 ·rintro k hk K4 hK4
  simp only [List.cons_append, List.nil_append]
  refine WC_seq fun K5 hK5 => ?_
  refine WC_sr fun K6 hK6 => ?_
  refine WL_r (Rd_move rfl) rfl ?_
  refine WL_r (Rd_move rfl) rfl ?_
  refine WL_r (Rd_len_sv rfl rfl ud45) rfl ?_
  refine WL_r (Rd_lssN rfl rfl) rfl ?_
  refine WL_end hK6 ?_
  refine WC_cond rfl (fun hc0 => ?_) (fun hc0 => ?_)
  ·try simp only [dz, ne_eq] at hc0
   obtain ⟨⟨pa, pc, pl⟩, hpk⟩ : ∃ p, ps[k]? = some p := ⟨_, List.getElem?_eq_getElem (by omega)⟩
   have hpb := hb _ (List.mem_of_getElem? hpk)
   dsimp only at hpb
   refine WC_open (FPG 24 2 ePr) (mkdG mkPr ps k) k (x := ⟨pa, pc, pl⟩) (by rw [mkdG_at hpk, if_neg (by omega)]) ?_
   rw [show FPG 24 2 ePr ⟨pa, pc, pl⟩ = arr pa pc 2 24 ePr pl from rfl]
   refine WC_skip ?_
   refine Ps_next hK5 ?_
   refine WC_seq fun K7 hK7 => ?_
   refine WC_block ?_
   refine WC_sr fun K8 hK8 => ?_
   refine WL_r (Rd_assign rfl) rfl ?_
   refine WL_end hK8 ?_
   refine WC_block ?_
   rw [show arr pa pc 2 24 ePr pl = arr pa pc 2 24 ePr (ovl (mkPr (k + 1)) pl 0) from by rw [ovl_0]]
   refine WC_loopK (σ := Nat) (fun i' => [(4, .int .i64 ((i' : Nat) : Int))]) (fun i' => [arr pa pc 2 24 ePr (ovl (mkPr (k + 1)) pl i')]) (fun i' => i' ≤ pl.length) (fun i' => pl.length - i') (0) [0, 2, 3, 5, 6, 7, 8, 9, 10, 11, 12, 13, 14, 15, 16, 17, 37, 38, 39, 40, 41, 42, 43, 44, 45, 46, 47, 48, 49, 50, 51, 52, 53, 54, 55, 56, 57, 58, 59, 60, 61, 62, 63, 64, 65, 66, 67, 68, 69, 70, 71, 72, 73, 74, 75, 76, 77, 78, 79, 80, 81, 82, 83, 84, 85, 86, 87, 88, 89, 90, 91, 92, 93, 94, 95, 96, 97, 98, 99, 100, 101, 102, 103, 104, 105, 106, 107, 108, 109, 110, 111, 112, 113, 114, 115] kpA (by (try dsimp only); repeat (first | with_reducible exact Gv.nil | (with_reducible apply Gv.cons; · (repeat (first | with_reducible exact Ext.here | with_reducible apply Ext.there))))) ?_ ?_ Sub.refl ?_
   ·exact Nat.zero_le _
   ·(try dsimp only); exact (Wk.cons lkA Wk.nil)
   ·rintro i' hi K9 hK9
    simp only [List.cons_append, List.nil_append]
    have hol := ovl_len (mkPr (k + 1)) hi
    refine WC_seq fun K10 hK10 => ?_
    refine WC_sr fun K11 hK11 => ?_
    refine WL_r (Rd_move rfl) rfl ?_
    refine WL_r (Rd_move rfl) rfl ?_
    refine WL_r (Rd_move rfl) rfl ?_
    refine WL_r (Rd_index_sv k rfl rfl ud45 sz22 (hA := hS) (hi := by omega)) rfl ?_
    refine WL_r (Rd_load_sv (i := k) (j := 0) (u := sl pa pl.length pc) rfl tk22 (hA := hS) (hl := hpk)) rfl ?_
    refine WL_r (Rd_len rfl rfl ud22) rfl ?_
    refine WL_r (Rd_lssN rfl rfl) rfl ?_
    refine WL_end hK11 ?_
    refine WC_cond rfl (fun hc1 => ?_) (fun hc1 => ?_)
    ·try simp only [dz, ne_eq] at hc1
     refine WC_some (a := pa) hasA (by omega) (fun gb hgb hcp => ?_)
     subst hgb
     refine WC_skip ?_
     refine Ps_next hK10 ?_
     refine WC_seq fun K12 hK12 => ?_
     refine WC_block ?_
     refine WC_drawA mix (fun i => ([2, 2, 2, 2, 2, 2, 2, 2, 1, 2, 0] : List Nat).getD i 0) ?_
     refine WJ_tp 0 rfl (Rd_move rfl) rfl (hp _ _) ?_
     refine WJ_tp 1 rfl (Rd_move rfl) rfl (hp _ _) ?_
     refine WJ_tp 2 rfl (Rd_index_sv k rfl rfl ud45 sz22 (hA := hS) (hi := by omega)) rfl (hp _ _) ?_
     refine WJ_tk 3 (Rd_load_sv (i := k) (j := 0) (u := sl (some gb) pl.length pc) rfl tk22 (hA := hS) (hl := hpk)) hp ?_ rfl (by kernel_rfl) rfl rfl rfl
     refine WJ_tp 4 rfl (Rd_move rfl) rfl (hp _ _) ?_
     refine WJ_tp 5 rfl (Rd_move rfl) rfl (hp _ _) ?_
     refine WJ_tp 6 rfl (Rd_addN (j := 1) rfl rfl) rfl (hp _ _) ?_
     refine WJ_tp 7 rfl (Rd_move rfl) rfl (hp _ _) ?_
     refine WJ_all (rs := [8]) (by kernel_rfl) rfl ?_
     refine WI_one ?_
     refine WI_ac rfl (Ac_call cf39 rfl (hs := markP_ct (k := k + 1) (i := i'))) rfl rfl rfl rfl ?_
     rintro _ _ ⟨⟨⟩, rfl, hA⟩
     simp only [List.cons_append, List.nil_append] at hA
     replace hA := hA.symm
     subst hA
     refine ⟨(fun _ => subF), ?_⟩
     refine WJ_tp 9 rfl (Rd_index _ rfl rfl ud22 sz24) rfl (hp _ _) ?_
     refine WJ_all (rs := [10]) (by kernel_rfl) rfl ?_
     refine WI_one ?_
     refine WI_ac0 rfl (Ac_storeg_arr (mkPr (k + 1) i') rfl rfl sz24 (i := i') (h1 := encPr.one _)) rfl rfl rfl ?_
     rintro _ _ rfl
     rw [ovl_set (mkPr (k + 1)) (by omega)]
     refine ⟨(fun h => by cases h), ?_⟩
     refine WJ_done (by kernel_rfl) ?_
     refine Ps_next hK12 ?_
     refine WC_region ?_
     refine WL_r (Rd_move rfl) rfl ?_
     refine WL_r (Rd_addN (j := 1) rfl rfl) rfl ?_
     refine WL_r (Rd_assign rfl) rfl ?_
     refine WL_nil ?_
     refine Ps_wkB (hK9 (i' + 1) (by omega) (by omega))
    ·try simp only [dz, ne_eq] at hc1
     obtain rfl : i' = pl.length := by omega
     rw [ovl_all]
     rw [show arr pa pc 2 24 ePr (mks (mkPr (k + 1)) 0 pl.length) = FPG 24 2 ePr (mkPG mkPr k ⟨pa, pc, pl⟩) from rfl]
     refine WC_shut (FPG 24 2 ePr) (mkdG mkPr ps k) k (mkPG mkPr k ⟨pa, pc, pl⟩) (by rw [mkdG_len]; omega) ?_
     rw [mkdG_set hpk]
     refine WC_exit ?_
     refine Ps_next hK7 ?_
     refine WC_region ?_
     refine WL_r (Rd_move rfl) rfl ?_
     refine WL_r (Rd_addN (j := 1) rfl rfl) rfl ?_
     refine WL_r (Rd_assign rfl) rfl ?_
     refine WL_nil ?_
     refine Ps_wkB (hK4 (k + 1) (by omega) (by omega))
  ·try simp only [dz, ne_eq] at hc0
   obtain rfl : k = ps.length := by omega
   rw [show star (FPG 24 2 ePr) (mkdG mkPr ps ps.length) = star (FPG 24 2 ePr) ((mkdG mkPr ps ps.length).drop 0) from rfl]
   refine WC_imp (fun w h => sat_nil (e := 1) (T := 22) (f := eQI) h) ?_
   refine WC_exit ?_
   refine Ps_next hK2 ?_
   refine WC_sr fun K13 hK13 => ?_
   refine WL_r (Rd_assign (v := sl none 0 0) rfl) rfl ?_
   refine WL_nilarr eQI 1 22 ?_
   refine WL_end hK13 ?_
   refine WC_seq fun K14 hK14 => ?_
   refine WC_sr fun K15 hK15 => ?_
   refine WL_r (Rd_assign rfl) rfl ?_
   refine WL_end hK15 ?_
   refine WC_block ?_
   refine WC_star0 (FQG 24 2 ePr mkPr) ?_
   refine WC_loopK (σ := Nat × (List QI) × (Option Nat) × Nat) (fun ⟨k, qs, go, gc⟩ => [(5, sl go qs.length gc), (6, .int .i64 ((k : Nat) : Int))]) (fun ⟨k, qs, go, gc⟩ => [star (FQG 24 2 ePr mkPr) qs, star (FPG 24 2 ePr) ((mkdG mkPr ps ps.length).drop k), arr go gc 1 22 eQI qs]) (fun ⟨k, qs, go, gc⟩ => k ≤ ps.length ∧ qs.length = k ∧ QOkG ps qs) (fun ⟨k, qs, go, gc⟩ => ps.length - k) ⟨0, [], none, 0⟩ [0, 2, 9, 10, 11, 68, 69, 70, 71, 72, 73, 74, 75, 76, 77, 78, 79, 80, 81, 82, 83, 84, 85, 86, 87, 88, 89, 90, 91, 92, 93, 94, 95, 96, 97, 98, 99, 100, 101, 102, 103, 104, 105, 106, 107, 108, 109, 110, 111, 112, 113, 114, 115] kpA (by (try dsimp only); repeat (first | with_reducible exact Gv.nil | (with_reducible apply Gv.cons; · (repeat (first | with_reducible exact Ext.here | with_reducible apply Ext.there))))) ?_ ?_ Sub.refl ?_
   ·exact ⟨Nat.zero_le _, rfl, QOkG_nil⟩
   ·(try dsimp only); exact (Wk.cons lkA (Wk.cons lkA Wk.nil))
   ·rintro ⟨k, qs, go, gc⟩ ⟨hk, hql, hQ⟩ K16 hK16
    simp only [List.cons_append, List.nil_append]
    refine WC_seq fun K17 hK17 => ?_
    refine WC_sr fun K18 hK18 => ?_
    refine WL_r (Rd_move rfl) rfl ?_
    refine WL_r (Rd_move rfl) rfl ?_
    refine WL_r (Rd_len_sv rfl rfl ud45) rfl ?_
    refine WL_r (Rd_lssN rfl rfl) rfl ?_
    refine WL_end hK18 ?_
    refine WC_cond rfl (fun hc2 => ?_) (fun hc2 => ?_)
    ·try simp only [dz, ne_eq] at hc2
     obtain ⟨⟨pa, pc, pl⟩, hpk⟩ : ∃ p, ps[k]? = some p := ⟨_, List.getElem?_eq_getElem (by omega)⟩
     have hpb := hb _ (List.mem_of_getElem? hpk)
     dsimp only at hpb
     refine WC_drop (FPG 24 2 ePr) (mkdG mkPr ps ps.length) k (x := mkPG mkPr k ⟨pa, pc, pl⟩) (mkdG_all hpk) ?_
     rw [show FPG 24 2 ePr (mkPG mkPr k ⟨pa, pc, pl⟩) = arr pa pc 2 24 ePr (mks (mkPr (k + 1)) 0 pl.length) from rfl]
     refine WC_fact (fun w h => arr_facts (a := pa) (cap := pc) (e := 2) (T := 24) (f := ePr) (l := (mks (mkPr (k + 1)) 0 pl.length)) hasA h) (fun hpf => ?_)
     rw [mks_len] at hpf
     refine WC_imp (fun w h => apk_start h) ?_
     refine WC_skip ?_
     refine Ps_next hK17 ?_
     refine WC_seq fun K19 hK19 => ?_
     refine WC_block ?_
     refine WC_sr fun K20 hK20 => ?_
     refine WL_r (Rd_move rfl) rfl ?_
     refine WL_r (Rd_move rfl) rfl ?_
     refine WL_r (Rd_index_sv k rfl rfl ud45 sz22 (hA := hS) (hi := by omega)) rfl ?_
     refine WL_r (Rd_load_sv (i := k) (j := 0) (u := sl pa pl.length pc) rfl tk22 (hA := hS) (hl := hpk)) rfl ?_
     refine WL_r (Rd_assign rfl) rfl ?_
     refine WL_end hK20 ?_
     refine WC_seq fun K21 hK21 => ?_
     refine WC_sr fun K22 hK22 => ?_
     refine WL_r (Rd_assign rfl) rfl ?_
     refine WL_end hK22 ?_
     refine WC_block ?_
     rw [show apk pa pc pa pc 2 24 ePr (mks (mkPr (k + 1)) 0 pl.length) (mks (mkPr (k + 1)) 0 pl.length) = apk pa pc pa pc 2 24 ePr (mks (mkPr (k + 1)) 0 pl.length) (mks (mkPr (k + 1)) 0 (pl.length + 0)) from rfl]
     refine WC_loopK (σ := Nat × (Option Nat) × Nat) (fun ⟨i', a', c'⟩ => [(7, sl a' (pl.length + i') c'), (8, .int .i64 ((i' : Nat) : Int))]) (fun ⟨i', a', c'⟩ => [apk pa pc a' c' 2 24 ePr (mks (mkPr (k + 1)) 0 pl.length) (mks (mkPr (k + 1)) 0 (pl.length + i'))]) (fun ⟨i', a', c'⟩ => i' ≤ 70) (fun ⟨i', a', c'⟩ => 70 - i') ⟨0, pa, pc⟩ [0, 2, 5, 6, 9, 10, 11, 37, 38, 39, 40, 41, 42, 43, 44, 45, 46, 64, 65, 66, 67, 68, 69, 70, 71, 72, 73, 74, 75, 76, 77, 78, 79, 80, 81, 82, 83, 84, 85, 86, 87, 88, 89, 90, 91, 92, 93, 94, 95, 96, 97, 98, 99, 100, 101, 102, 103, 104, 105, 106, 107, 108, 109, 110, 111, 112, 113, 114, 115] kpA (by (try dsimp only); repeat (first | with_reducible exact Gv.nil | (with_reducible apply Gv.cons; · (repeat (first | with_reducible exact Ext.here | with_reducible apply Ext.there))))) ?_ ?_ Sub.refl ?_
     ·exact Nat.zero_le _
     ·(try dsimp only); exact (Wk.cons lkA (Wk.cons lkA Wk.nil))
     ·rintro ⟨i', a', c'⟩ hi K23 hK23
      simp only [List.cons_append, List.nil_append]
      have hml := mks_len (mkPr (k + 1)) 0 (pl.length + i')
      refine WC_seq fun K24 hK24 => ?_
      refine WC_sr fun K25 hK25 => ?_
      refine WL_r (Rd_move rfl) rfl ?_
      refine WL_r (Rd_lssN (j := 70) rfl rfl) rfl ?_
      refine WL_end hK25 ?_
      refine WC_cond rfl (fun hc3 => ?_) (fun hc3 => ?_)
      ·try simp only [dz, ne_eq] at hc3
       refine WC_skip ?_
       refine Ps_next hK24 ?_
       refine WC_seq fun K26 hK26 => ?_
       refine WC_block ?_
       refine WC_region ?_
       refine WL_r (Rd_move rfl) rfl ?_
       refine WL_r (Rd_move rfl) rfl ?_
       refine WL_r (Rd_addN (j := 1) rfl rfl) rfl ?_
       refine WL_r (Rd_move rfl) rfl ?_
       refine WL_r (Rd_move rfl) rfl ?_
       refine WL_r (Rd_index_sv k rfl rfl ud45 sz22 (hA := hS) (hi := by omega)) rfl ?_
       refine WL_r (Rd_load_sv (i := k) (j := 0) (u := sl pa pl.length pc) rfl tk22 (hA := hS) (hl := hpk)) rfl ?_
       refine WL_r (Rd_len rfl rfl ud22) rfl ?_
       refine WL_r (Rd_move rfl) rfl ?_
       refine WL_r (Rd_addN rfl rfl) rfl ?_
       refine WL_ac (Ac_call cf39 rfl (hs := markP_ct (k := k + 1) (i := pl.length + i'))) rfl rfl rfl ?_
       rintro _ _ ⟨⟨⟩, rfl, hA⟩
       simp only [List.cons_append, List.nil_append] at hA
       replace hA := hA.symm
       subst hA
       refine WL_ac (Ac_bs1 (xs := ePr (mkPr (k + 1) (pl.length + i'))) rfl ud22 zr24 sz24 (hl := encPr.len _)) rfl rfl rfl ?_
       rintro _ _ ⟨b62, rfl, rfl⟩
       refine WL_ac (Ac_apk1 (l := (mks (mkPr (k + 1)) 0 pl.length)) (l' := (mks (mkPr (k + 1)) 0 (pl.length + i'))) encPr (mkPr (k + 1) (pl.length + i')) rfl rfl ud22 ud22 el24 (mks_pre _ _ _) (hlen := by rw [mks_len])) rfl rfl rfl ?_
       rintro _ _ ⟨a63, cap63, rfl, rfl⟩
       rw [mks_len, mks_one, Nat.add_assoc]
       refine WL_r (Rd_assign rfl) rfl ?_
       refine WL_nil ?_
       refine Ps_next hK26 ?_
       refine WC_region ?_
       refine WL_r (Rd_move rfl) rfl ?_
       refine WL_r (Rd_addN (j := 1) rfl rfl) rfl ?_
       refine WL_r (Rd_assign rfl) rfl ?_
       refine WL_nil ?_
       refine Ps_wkB (hK23 ⟨i' + 1, a63, cap63⟩ (by dsimp only; omega) (by dsimp only; omega))
      ·try simp only [dz, ne_eq] at hc3
       obtain rfl : i' = 70 := by omega
       refine WC_fact (fun w h => apk_factsN (a := pa) (cap := pc) (a' := a') (cap' := c') (e := 2) (T := 24) (f := ePr) (l := (mks (mkPr (k + 1)) 0 pl.length)) (l' := (mks (mkPr (k + 1)) 0 (pl.length + 70))) h) (fun hqf => ?_)
       rw [mks_len] at hqf
       have hq1 : a' ≠ none := fun e => by have := congrArg List.length (hqf.1 e); rw [mks_len] at this; simp at this
       have hq2 : pl.length + 70 ≤ c' := hqf.2
       have hq3 : pa = none → pl.length = 0 := fun e => by have := congrArg List.length (hpf.1 e); rw [mks_len] at this; exact this
       have hq4 : pl.length ≤ pc := hpf.2
       rw [show apk pa pc a' c' 2 24 ePr (mks (mkPr (k + 1)) 0 pl.length) (mks (mkPr (k + 1)) 0 (pl.length + 70)) = FQG 24 2 ePr mkPr ⟨pa, pc, a', c', pl.length, k⟩ from rfl]
       refine WC_snoc (FQG 24 2 ePr mkPr) qs ⟨pa, pc, a', c', pl.length, k⟩ ?_
       refine WC_exit ?_
       refine Ps_next hK21 ?_
       refine WC_region ?_
       refine WL_r (Rd_move rfl) rfl ?_
       refine WL_r (Rd_move rfl) rfl ?_
       refine WL_ac (Ac_bs1 (xs := [sl a' (pl.length + 70) c']) rfl ud45 zr22 sz22) rfl rfl rfl ?_
       rintro _ _ ⟨b66, rfl, rfl⟩
       refine WL_ac (Ac_append1 (f := eQI) encQI ⟨pa, pc, a', c', pl.length, k⟩ rfl rfl ud45 ud45 el22) rfl rfl rfl ?_
       rintro _ _ ⟨a67, cap67, rfl, rfl⟩
       refine WL_r (Rd_assign rfl) rfl ?_
       refine WL_nil ?_
       refine Ps_next hK19 ?_
       refine WC_region ?_
       refine WL_r (Rd_move rfl) rfl ?_
       refine WL_r (Rd_addN (j := 1) rfl rfl) rfl ?_
       refine WL_r (Rd_assign rfl) rfl ?_
       refine WL_nil ?_
       refine Ps_wkB (hK16 ⟨k + 1, qs ++ [⟨pa, pc, a', c', pl.length, k⟩], a67, cap67⟩ (⟨by (try dsimp only); omega, by (try dsimp only); rw [List.length_append, List.length_singleton]; omega, QOkG_snoc hQ (p := ⟨pa, pc, pl⟩) (by rw [hql]; exact hpk) (by (try dsimp only); omega) hq1 hq2 hq3 hq4 rfl rfl rfl⟩) (by (try dsimp only); omega))
    ·try simp only [dz, ne_eq] at hc2
     obtain rfl : k = ps.length := by omega
     refine WC_exit ?_
     refine Ps_next hK14 ?_
     refine WC_seq fun K27 hK27 => ?_
     refine WC_sr fun K28 hK28 => ?_
     refine WL_r (Rd_assign rfl) rfl ?_
     refine WL_end hK28 ?_
     refine WC_block ?_
     refine WC_loopK (σ := Nat) (fun k2 => [(9, .int .i64 ((k2 : Nat) : Int))]) (fun k2 => []) (fun k2 => k2 ≤ ps.length) (fun k2 => ps.length - k2) (0) [0, 5] kpA (by (try dsimp only); repeat (first | with_reducible exact Gv.nil | (with_reducible apply Gv.cons; · (repeat (first | with_reducible exact Ext.here | with_reducible apply Ext.there))))) ?_ ?_ Sub.refl ?_
     ·exact Nat.zero_le _
     ·(try dsimp only); exact (Wk.cons lkA Wk.nil)
     ·rintro k2 hk2 K29 hK29
      simp only [List.cons_append, List.nil_append]
      refine WC_seq fun K30 hK30 => ?_
      refine WC_sr fun K31 hK31 => ?_
      refine WL_r (Rd_move rfl) rfl ?_
      refine WL_r (Rd_move rfl) rfl ?_
      refine WL_r (Rd_len_sv rfl rfl ud45) rfl ?_
      refine WL_r (Rd_lssN rfl rfl) rfl ?_
      refine WL_end hK31 ?_
      refine WC_cond rfl (fun hc4 => ?_) (fun hc4 => ?_)
      ·try simp only [dz, ne_eq] at hc4
       refine WC_some (a := go) hasA (by omega) (fun gb hgb hcg => ?_)
       subst hgb
       obtain ⟨q, hq⟩ : ∃ q, qs[k2]? = some q := ⟨_, List.getElem?_eq_getElem (by omega)⟩
       obtain ⟨hqj, hqa, hqc, hqn, hqm, ⟨qa, qcp, ql⟩, hpk, hea, hec, hel⟩ := hQ k2 q hq
       dsimp only at hea hec hel
       have hpb := hb _ (List.mem_of_getElem? hpk)
       dsimp only at hpb
       have hsn := Sv.star (F := FQG 24 2 ePr mkPr) k2 hq (Sv_FQGn (T := 24) (g := mkPr) encPr hqa hqc)
       have hse := Sv.star (F := FQG 24 2 ePr mkPr) k2 hq (Sv_FQGe (T := 24) (g := mkPr) encPr hqn hqm)
       rw [hqj] at hsn hse
       have hse' := hse
       rw [hea, hec, hel] at hse'
       refine WC_skip ?_
       refine Ps_next hK30 ?_
       refine WC_seq fun K32 hK32 => ?_
       refine WC_block ?_
       refine WC_sr fun K33 hK33 => ?_
       refine WL_r (Rd_assign rfl) rfl ?_
       refine WL_end hK33 ?_
       refine WC_block ?_
       refine WC_loopK (σ := Nat) (fun i2 => [(10, .int .i64 ((i2 : Nat) : Int))]) (fun i2 => []) (fun i2 => i2 ≤ q.n + 70) (fun i2 => q.n + 70 - i2) (0) [0, 5, 9, 68, 69, 70, 71, 72, 73] kpA (by (try dsimp only); repeat (first | with_reducible exact Gv.nil | (with_reducible apply Gv.cons; · (repeat (first | with_reducible exact Ext.here | with_reducible apply Ext.there))))) ?_ ?_ Sub.refl ?_
       ·exact Nat.zero_le _
       ·(try dsimp only); exact (Wk.cons lkA Wk.nil)
       ·rintro i2 hi2 K34 hK34
        simp only [List.cons_append, List.nil_append]
        refine WC_seq fun K35 hK35 => ?_
        refine WC_sr fun K36 hK36 => ?_
        refine WL_r (Rd_move rfl) rfl ?_
        refine WL_r (Rd_move rfl) rfl ?_
        refine WL_r (Rd_move rfl) rfl ?_
        refine WL_r (Rd_index k2 rfl rfl ud45 sz22 (hi := by omega)) rfl ?_
        refine WL_r (Rd_load_arr (f := eQI) (i := k2) (j := 0) rfl tk22 (hl := hq)) rfl ?_
        refine WL_r (Rd_len rfl rfl ud22) rfl ?_
        refine WL_r (Rd_lssN rfl rfl) rfl ?_
        refine WL_end hK36 ?_
        refine WC_cond rfl (fun hc5 => ?_) (fun hc5 => ?_)
        ·try simp only [dz, ne_eq] at hc5
         refine WC_skip ?_
         refine Ps_next hK35 ?_
         refine WC_seq fun K37 hK37 => ?_
         refine WC_block ?_
         refine WC_sr fun K38 hK38 => ?_
         refine WL_r (Rd_move rfl) rfl ?_
         refine WL_r (Rd_addN (j := 1) rfl rfl) rfl ?_
         refine WL_r (Rd_move rfl) rfl ?_
         refine WL_ac (Ac_call cf39 rfl (hs := markP_ct (k := k2 + 1) (i := i2))) rfl rfl rfl ?_
         rintro _ _ ⟨⟨⟩, rfl, hA⟩
         simp only [List.cons_append, List.nil_append] at hA
         replace hA := hA.symm
         subst hA
         refine WL_ac (Ac_alloc zr24) rfl rfl rfl ?_
         rintro _ _ ⟨b11, rfl, rfl⟩
         refine WL_ac0 (Ac_store (ys := ePr (mkPr (k2 + 1) i2)) rfl rfl sz24 (h1 := encPr.one (mkPr (k2 + 1) i2)) (hv := rfl) (hr := rfl)) rfl rfl ?_
         rintro _ _ rfl
         refine WL_end hK38 ?_
         refine WC_seq fun K39 hK39 => ?_
         refine WC_drawA mix (fun i => ([2, 2, 2, 2, 2, 2, 2, 2, 2, 2, 2, 2, 2, 2, 2, 2, 2, 2, 2, 2, 2, 2, 2, 2, 2, 2, 2, 2, 2] : List Nat).getD i 0) ?_
         refine WJ_tp 0 rfl (Rd_move rfl) rfl (hp _ _) ?_
         refine WJ_tp 1 rfl (Rd_move rfl) rfl (hp _ _) ?_
         refine WJ_tp 2 rfl (Rd_index k2 rfl rfl ud45 sz22 (hi := by omega)) rfl (hp _ _) ?_
         refine WJ_tk 3 (Rd_load_arr (f := eQI) (i := k2) (j := 0) rfl tk22 (hl := hq)) hp ?_ rfl (by kernel_rfl) rfl rfl rfl
         refine WJ_tp 4 rfl (Rd_move rfl) rfl (hp _ _) ?_
         refine WJ_tp 5 rfl (Rd_index_sv i2 rfl rfl ud22 sz24 (hA := hsn) (hi := by rw [mks_len]; omega)) rfl (hp _ _) ?_
         refine WJ_tk 6 (Rd_loadg_sv (f := ePr) (i := i2) (y := mkPr (k2 + 1) (0 + i2)) rfl tk24 (hA := hsn) (hl := mks_at (by omega))) hp ?_ rfl (by kernel_rfl) rfl rfl rfl
         refine WJ_tk 7 (Rd_loadg (vs := ePr (mkPr (k2 + 1) i2)) rfl tk24) hp ?_ rfl (by kernel_rfl) rfl rfl rfl
         refine WJ_tp 8 rfl (Rd_valE (v := .bool false) (Rd_neS (xs := ePr (mkPr (k2 + 1) (0 + i2))) (ys := ePr (mkPr (k2 + 1) i2)) rfl rfl fls24 (EqL.sc tk3 rfl rfl (Eqs_int ud3 _ _) (EqL.sc tk3 rfl rfl (Eqs_int ud3 _ _) EqL.nil))) (congrArg Value.bool (by rw [pr_dec, Nat.zero_add]; simp))) rfl (hp _ _) ?_
         refine WJ_tp 9 rfl (Rd_move rfl) rfl (hp _ _) ?_
         refine WJ_tp 10 rfl (Rd_move rfl) rfl (hp _ _) ?_
         refine WJ_tp 11 rfl (Rd_move rfl) rfl (hp _ _) ?_
         refine WJ_tp 12 rfl (Rd_move rfl) rfl (hp _ _) ?_
         refine WJ_tp 13 rfl (Rd_index_sv k2 rfl rfl ud45 sz22 (hA := hS) (hi := by omega)) rfl (hp _ _) ?_
         refine WJ_tk 14 (Rd_load_sv (i := k2) (j := 0) (u := sl qa ql.length qcp) rfl tk22 (hA := hS) (hl := hpk)) hp ?_ rfl (by kernel_rfl) rfl rfl rfl
         refine WJ_tp 15 rfl (Rd_len rfl rfl ud22) rfl (hp _ _) ?_
         refine WJ_tp 16 rfl (Rd_lssN rfl rfl) rfl (hp _ _) ?_
         refine WJ_tp 17 rfl (Rd_move rfl) rfl (hp _ _) ?_
         refine WJ_bool 104 rfl (fun hg40 => ?_) (fun hg40 => ?_)
         ·try simp only [dz, ne_eq] at hg40
          refine WJ_tp 18 rfl (Rd_move rfl) rfl (hp _ _) ?_
          refine WJ_tp 19 rfl (Rd_move rfl) rfl (hp _ _) ?_
          refine WJ_tp 20 rfl (Rd_index_sv k2 rfl rfl ud45 sz22 (hA := hS) (hi := by omega)) rfl (hp _ _) ?_
          refine WJ_tk 21 (Rd_load_sv (i := k2) (j := 0) (u := sl qa ql.length qcp) rfl tk22 (hA := hS) (hl := hpk)) hp ?_ rfl (by kernel_rfl) rfl rfl rfl
          refine WJ_tp 22 rfl (Rd_move rfl) rfl (hp _ _) ?_
          refine WJ_tp 23 rfl (Rd_index_sv i2 rfl rfl ud22 sz24 (hA := hse') (hi := by rw [mks_len]; omega)) rfl (hp _ _) ?_
          refine WJ_tk 24 (Rd_loadg_sv (f := ePr) (i := i2) (y := mkPr (k2 + 1) (0 + i2)) rfl tk24 (hA := hse') (hl := mks_at (by omega))) hp ?_ rfl (by kernel_rfl) rfl rfl rfl
          refine WJ_tk 25 (Rd_loadg (vs := ePr (mkPr (k2 + 1) i2)) rfl tk24) hp ?_ rfl (by kernel_rfl) rfl rfl rfl
          refine WJ_tp 26 rfl (Rd_valE (v := .bool false) (Rd_neS (xs := ePr (mkPr (k2 + 1) (0 + i2))) (ys := ePr (mkPr (k2 + 1) i2)) rfl rfl fls24 (EqL.sc tk3 rfl rfl (Eqs_int ud3 _ _) (EqL.sc tk3 rfl rfl (Eqs_int ud3 _ _) EqL.nil))) (congrArg Value.bool (by rw [pr_dec, Nat.zero_add]; simp))) rfl (hp _ _) ?_
          refine WJ_tp 27 rfl (Rd_pickT rfl rfl) rfl (hp _ _) ?_
          refine WJ_tp 28 rfl (Rd_pickF rfl rfl) rfl (hp _ _) ?_
          refine WJ_done (by kernel_rfl) ?_
          refine Ps_next hK39 ?_
          refine WC_condF rfl ?_
          refine WC_skip ?_
          refine Ps_next hK37 ?_
          refine WC_region ?_
          refine WL_r (Rd_move rfl) rfl ?_
          refine WL_r (Rd_addN (j := 1) rfl rfl) rfl ?_
          refine WL_r (Rd_assign rfl) rfl ?_
          refine WL_nil ?_
          refine Ps_wkB (hK34 (i2 + 1) (by omega) (by omega))
         ·try simp only [dz, ne_eq] at hg40
          refine WJ_skip 18 rfl (by kernel_rfl) rfl rfl rfl (hp _ _) ?_
          refine WJ_skip 19 rfl (by kernel_rfl) rfl rfl rfl (hp _ _) ?_
          refine WJ_skip 20 rfl (by kernel_rfl) rfl rfl rfl (hp _ _) ?_
          refine WJ_skip 21 rfl (by kernel_rfl) rfl rfl rfl (hp _ _) ?_
          refine WJ_skip 22 rfl (by kernel_rfl) rfl rfl rfl (hp _ _) ?_
          refine WJ_skip 23 rfl (by kernel_rfl) rfl rfl rfl (hp _ _) ?_
          refine WJ_skip 24 rfl (by kernel_rfl) rfl rfl rfl (hp _ _) ?_
          refine WJ_skip 25 rfl (by kernel_rfl) rfl rfl rfl (hp _ _) ?_
          refine WJ_skip 26 rfl (by kernel_rfl) rfl rfl rfl (hp _ _) ?_
          refine WJ_tp 27 rfl (Rd_pickF rfl rfl) rfl (hp _ _) ?_
          refine WJ_tp 28 rfl (Rd_pickF rfl rfl) rfl (hp _ _) ?_
          refine WJ_done (by kernel_rfl) ?_
          refine Ps_next hK39 ?_
          refine WC_condF rfl ?_
          refine WC_skip ?_
          refine Ps_next hK37 ?_
          refine WC_region ?_
          refine WL_r (Rd_move rfl) rfl ?_
          refine WL_r (Rd_addN (j := 1) rfl rfl) rfl ?_
          refine WL_r (Rd_assign rfl) rfl ?_
          refine WL_nil ?_
          refine Ps_wkB (hK34 (i2 + 1) (by omega) (by omega))
        ·try simp only [dz, ne_eq] at hc5
         refine WC_exit ?_
         refine Ps_next hK32 ?_
         refine WC_region ?_
         refine WL_r (Rd_move rfl) rfl ?_
         refine WL_r (Rd_addN (j := 1) rfl rfl) rfl ?_
         refine WL_r (Rd_assign rfl) rfl ?_
         refine WL_nil ?_
         refine Ps_wkB (hK29 (k2 + 1) (by omega) (by omega))
      ·try simp only [dz, ne_eq] at hc4
       refine WC_exit ?_
       refine Ps_next hK27 ?_
       refine WC_sr fun K41 hK41 => ?_
       refine WL_r (Rd_assign rfl) rfl ?_
       refine WL_end hK41 ?_
       refine WC_ret ?_
       exact hret.gf () (Rs1 rfl rfl)
end Go.Proofs.Ytilmiikfjcdllaa
/-
  A script of calls over pairs and floats, in plain words, and as it is handed in; what was answered so far. (Conditions: none; generic over the program.)
-/
set_option maxRecDepth 20000
namespace Go.HyM
open Go.SL Go.ShM Go.RowKit Go.Fl Go.ChangeShapes Go.WideShapes
structure PV where
  l : List Pr
  ao : Option Addr
  cap : Nat
def PV.v (q : PV) : Value := .slice q.ao q.l.length q.cap
structure FV where
  l : List Nat
  ao : Option Addr
  cap : Nat
def FV.v (q : FV) : Value := .slice q.ao q.l.length q.cap
structure HQ where
  call : Int
  A : PV
  F : FV
  k : Int
def eHQ (q : HQ) : List Value := [.int .i64 q.call, q.A.v, q.F.v, .int .i64 q.k]
theorem encHQ : Enc eHQ 4 := ⟨fun _ => rfl, fun q v hv => by
  simp only [eHQ, List.mem_cons, List.not_mem_nil, or_false] at hv
  rcases hv with rfl | rfl | rfl | rfl <;> rfl⟩
def OKh (W : World) (N : Nat) (q : HQ) : Prop := (Sv [old W] q.A.v 2 ePr q.A.l q.A.ao q.A.cap ∧ q.A.l.length ≤ N) ∧ Sv [old W] q.F.v 1 eF q.F.l q.F.ao q.F.cap ∧ q.F.l.length ≤ N ∧ ∀ x ∈ q.F.l, x < 2 ^ 64
section
variable {H : Type} {enc : TypeId × Value → H} {P : Program} {W : World} {base : Nat} {sp : Nat → Bool} {hd : Bool} {m : DataW H → Nat} {N : Nat}
theorem fit_pr (c : List Value) (h : Fits enc P W base sp hd m N [.int .i64, .int .i64] c) : ∃ a : Pr, c = ePr a ∧ True := by
  simp only [Fits] at h
  obtain ⟨i, _, rfl, _, j, _, rfl, _, rfl⟩ := h
  exact ⟨(i, j), rfl, trivial⟩
theorem fit_hq (hm : Meas m) {tP tF : TypeId} {q : Nat} (hkP : cks P q tP = some [.int .i64, .int .i64]) (hzP : P.cellsOf tP = 2) (htF : P.underlying tF = some (.float .f64)) (hzF : P.cellsOf tF = 1) (c : List Value) (h : Fits enc P W base sp hd m N [.int .i64, .slice tP, .slice tF, .int .i64] c) :
    ∃ a : HQ, c = eHQ a ∧ OKh W N a := by
  simp only [Fits] at h
  obtain ⟨call, _, rfl, _, v, _, rfl, hv, v2, _, rfl, hv2, k, _, rfl, _, rfl⟩ := h
  obtain ⟨l, ao, cap, h1, _, h3, _⟩ := hv.typed hm hkP (f := ePr) fit_pr
  rw [hzP] at h1
  obtain ⟨l2, ao2, cap2, g1, _, g3, g4⟩ := hv2
  rw [hzF] at g1
  obtain ⟨L, rfl, hL⟩ := SL.typed (f := eF) (Φ := fun x => x < 2 ^ 64) (l := l2) (fun c hc => by
    obtain ⟨n', y, hy, _⟩ := g4 c hc
    exact el_fl htF n' c y hy)
  have g5 := Sv.typed g1
  have e1 := h1.val
  have e2 := g5.val
  subst e1; subst e2
  exact ⟨⟨call, ⟨l, ao, cap⟩, ⟨L, ao2, cap2⟩, k⟩, rfl, ⟨h1, h3⟩, g5, by simpa using g3, hL⟩
theorem open_hqs (hm : Meas m) {t tO tP tF : TypeId} {q : Nat} {v : Value} {d : DataW H} {ps : List MemPlace} {r : Reach} {b0 : Nat} (ht : P.underlying t = some (.slice tO)) (hval : Value.okWide P W r b0 t v) (h : DataW.Trod enc P W base sp hd t v d ps)
    (hk : cks P (q + 1) t = some [.slice tO]) (hkO : cks P q tO = some [.int .i64, .slice tP, .slice tF, .int .i64]) (hzO : P.cellsOf tO = 4) (hkP : cks P q tP = some [.int .i64, .int .i64]) (hzP : P.cellsOf tP = 2) (htF : P.underlying tF = some (.float .f64)) (hzF : P.cellsOf tF = 1) (hN : m d ≤ N) :
    ∃ (qs : List HQ) (ao : Option Addr) (cap : Nat), Sv [old W] v 4 eHQ qs ao cap ∧ (∀ q ∈ qs, OKh W N q) ∧ qs.length ≤ N := by
  obtain ⟨a0, len, cap0, rfl⟩ := okWide_slice ht hval
  obtain ⟨fuel, hf⟩ := h
  have hfit := cks_fits hm (q + 1) t _ fuel _ _ hk hf hN
  simp only [Fits, Value.cells] at hfit
  obtain ⟨v', _, e, hv, rfl⟩ := hfit
  simp only [List.cons.injEq, and_true] at e
  subst e
  obtain ⟨l, ao, cap, h1, h2, h3, h4⟩ := hv.typed hm hkO (fit_hq hm hkP hzP htF hzF)
  rw [hzO] at h1
  exact ⟨l, ao, cap, h1, h4, h3⟩
end
def POk (ps : List (PG Pr)) : Prop := ∀ p ∈ ps, (p.a = none → p.l = []) ∧ p.l.length ≤ p.cap ∧ p.l.length ≤ 900000000
theorem POk_nil : POk [] := fun p h => by cases h
theorem POk_snoc {ps : List (PG Pr)} {p : PG Pr} (h : POk ps) (h1 : p.a = none → p.l = []) (h2 : p.l.length ≤ p.cap) (h3 : p.l.length ≤ 900000000) : POk (ps ++ [p]) := fun x hx => by
  rcases List.mem_append.1 hx with q | q
  · exact h x q
  · rw [List.mem_singleton] at q; subst q; exact ⟨h1, h2, h3⟩
structure HKs where
  ps : List (PG Pr)
  pa : Option Nat
  pc : Nat
  ws : List (PG Pr)
  wa : Option Nat
  wc : Nat
structure HK (s : HKs) (n : Nat) : Prop where
  eD : s.ps.map (·.l) = s.ws.map (·.l)
  dp : POk s.ps
  dw : POk s.ws
  lD : s.ps.length ≤ n
theorem HK_0 : HK ⟨[], none, 0, [], none, 0⟩ 0 := ⟨rfl, POk_nil, POk_nil, Nat.le_refl _⟩
theorem HK.up {s : HKs} {n m : Nat} (h : HK s n) (hm : n ≤ m) : HK s m := ⟨h.eD, h.dp, h.dw, Nat.le_trans h.lD hm⟩
theorem HK.lenD {s : HKs} {n : Nat} (h : HK s n) : s.ps.length = s.ws.length := by have := congrArg List.length h.eD; simpa using this
theorem HK.atD {s : HKs} {n i : Nat} {p q : PG Pr} (h : HK s n) (hp : s.ps[i]? = some p) (hq : s.ws[i]? = some q) : p.l = q.l := by
  have := congrArg (fun x => x[i]?) h.eD
  simp only [List.getElem?_map, hp, hq, Option.map_some, Option.some.injEq] at this
  exact this
theorem HK.put {s : HKs} {n m : Nat} {p q : PG Pr} {pa wa : Option Nat} {pc wc : Nat} (h : HK s n) (hm : n < m) (he : p.l = q.l) (h1 : p.a = none → p.l = []) (h2 : p.l.length ≤ p.cap) (h3 : p.l.length ≤ 900000000) (h4 : q.a = none → q.l = []) (h5 : q.l.length ≤ q.cap) : HK ⟨s.ps ++ [p], pa, pc, s.ws ++ [q], wa, wc⟩ m :=
  ⟨by rw [List.map_append, List.map_append, h.eD]; simp [he], POk_snoc h.dp h1 h2 h3, POk_snoc h.dw h4 h5 (by rw [← he]; exact h3), by have := h.lD; simp; omega⟩
theorem Rd_ptP {T : TypeId} {ps : List (PG Pr)} (h : POk ps) {i : Nat} {p : PG Pr} (hp : ps[i]? = some p) : Sv [star (FPG T 2 ePr) ps] (sl p.a p.l.length p.cap) 2 ePr p.l (p.a.map fun g => ⟨g, 0, none⟩) p.cap := by
  obtain ⟨h1, h2, _⟩ := h p (List.mem_of_getElem? hp)
  exact Sv.star (F := FPG T 2 ePr) i hp (Sv_own' (T := T) encPr h1 h2)
theorem las4 (l : List Pr) (fl : List Nat) : ¬ mayP l ∨ (mayP l ∧ ¬ goodL (lookP l) fl.length) ∨ (mayP l ∧ goodL (lookP l) fl.length ∧ oddsOk fl = false) ∨ (mayP l ∧ goodL (lookP l) fl.length ∧ oddsOk fl = true) := by
  by_cases h : mayP l
  · by_cases g : goodL (lookP l) fl.length
    · cases o : oddsOk fl
      · exact .inr (.inr (.inl ⟨h, g, rfl⟩))
      · exact .inr (.inr (.inr ⟨h, g, rfl⟩))
    · exact .inr (.inl ⟨h, g⟩)
  · exact .inl h
theorem last_NN {l : List Pr} {fl : List Nat} {k : Int} (hU : ∀ x ∈ fl, U x) : NN (lastP l fl k) := by
  unfold lastP tailM
  exact tailF_nn (lasT_un l (begP_un _) hU) _ _ (Nat.le_add_left _ _)
theorem NN_0 : NN 0 := Nat.zero_le _
end Go.HyM
namespace Go.Proofs.Ytilmiikfjcdllaa
open Go.RowKit Go.SL Go.ShM Go.HyM Go.Fl Go.SvM
set_option maxHeartbeats 1000000
set_option maxRecDepth 20000
set_option linter.all false
theorem cf17 : cfn Try.prog 17 = true := by kernel_rfl
theorem cf19 : cfn Try.prog 19 = true := by kernel_rfl
theorem cf20 : cfn Try.prog 20 = true := by kernel_rfl
theorem cf21 : cfn Try.prog 21 = true := by kernel_rfl
theorem cf22 : cfn Try.prog 22 = true := by kernel_rfl
theorem cf23 : cfn Try.prog 23 = true := by kernel_rfl
theorem cf24 : cfn Try.prog 24 = true := by kernel_rfl
theorem cf25 : cfn Try.prog 25 = true := by kernel_rfl
theorem cf27 : cfn Try.prog 27 = true := by kernel_rfl
theorem fo47_0 : fo Try.prog 47 0 = some (0, 3) := by kernel_rfl
theorem fo47_1 : fo Try.prog 47 1 = some (1, 22) := by kernel_rfl
theorem fo47_2 : fo Try.prog 47 2 = some (2, 34) := by kernel_rfl
theorem fo47_3 : fo Try.prog 47 3 = some (3, 3) := by kernel_rfl
theorem sz47 : sz Try.prog 47 = some 4 := by kernel_rfl
theorem tk34 : tk Try.prog 34 = some none := by kernel_rfl
theorem tk47 : tk Try.prog 47 = some (some 4) := by kernel_rfl
theorem ud44 : Try.prog.underlying 44 = some (.slice 47) := by kernel_rfl
theorem zr47 : zr Try.prog 47 = some [.int .i64 0, .slice none 0 0, .slice none 0 0, .int .i64 0] := by kernel_rfl
theorem mat_le (l : List Pr) : (matM (sizeM (lookP l)) (lookP l)).length ≤ 900000000 := by
  have h := (matM_ok (sizeM (lookP l)) (lookP_ok l) rfl).2.1
  have := sizeM_le (lookP l)
  omega

theorem Calls_ct {W : World} {v : Value} {qs : List HQ} {ao : Option Addr} {cap : Nat} (hS : Sv [old W] v 4 eHQ qs ao cap) (hQ : ∀ q ∈ qs, OKh W 1048576 q) (hn : qs.length ≤ 1048576) : Ct Try.prog 7 [v] [old W] (fun _ : Unit => .bool true) (fun _ => [old W]) := by
 refine Ct_body (n := 223) Try.func7 rfl rfl rfl fun F w0 Q hret hnorm hp => ?_
 change WC _ _ _ _ _ _ _ (_ :: F)
 refine WC_sr fun K1 hK1 => ?_
 refine WL_r (Rd_assign rfl) rfl ?_
 refine WL_end hK1 ?_
 refine WC_seq fun K2 hK2 => ?_
 refine WC_sr fun K3 hK3 => ?_
 refine WL_ac (Ac_call cf8 rfl (hs := lives_ct)) rfl rfl rfl ?_
 rintro _ _ ⟨⟨⟩, rfl, hA⟩
 simp only [List.cons_append, List.nil_append] at hA
 replace hA := hA.symm
 subst hA
 refine WL_r (Rd_not rfl) rfl ?_
 refine WL_end hK3 ?_
 refine WC_condF rfl ?_
 refine WC_skip ?_
 refine Ps_next hK2 ?_
 refine WC_sr fun K4 hK4 => ?_
 refine WL_r (Rd_assign (v := sl none 0 0) rfl) rfl ?_
 refine WL_r (Rd_assign (v := sl none 0 0) rfl) rfl ?_
 refine WL_end hK4 ?_
 refine WC_seq fun K5 hK5 => ?_
 refine WC_sr fun K6 hK6 => ?_
 refine WL_r (Rd_assign rfl) rfl ?_
 refine WL_end hK6 ?_
 refine WC_block ?_
 refine WC_star0 (FPG 24 2 ePr) ?_
 refine WC_star0 (FPG 24 2 ePr) ?_
 refine WC_imp (fun w h => sat_nil (α := PG Pr) (e := 1) (T := 22) (f := ePG) h) ?_
 refine WC_imp (fun w h => sat_nil (α := PG Pr) (e := 1) (T := 22) (f := ePG) h) ?_
 refine WC_loopK (σ := Nat × HKs) (fun ⟨i, s⟩ => [(3, sl s.pa s.ps.length s.pc), (4, sl s.wa s.ws.length s.wc), (5, .int .i64 ((i : Nat) : Int))]) (fun ⟨i, s⟩ => [star (FPG 24 2 ePr) s.ps, arr s.pa s.pc 1 22 ePG s.ps, star (FPG 24 2 ePr) s.ws, arr s.wa s.wc 1 22 ePG s.ws]) (fun ⟨i, s⟩ => i ≤ qs.length ∧ HK s (2 * i)) (fun ⟨i, s⟩ => qs.length - i) ⟨0, ⟨[], none, 0, [], none, 0⟩⟩ [0, 26, 205, 206, 207, 208, 209, 210, 211, 212, 213, 214, 215, 216, 217, 218, 219, 220, 221, 222] kpA (by (try dsimp only); repeat (first | with_reducible exact Gv.nil | (with_reducible apply Gv.cons; · (repeat (first | with_reducible exact Ext.here | with_reducible apply Ext.there))))) ?_ ?_ Sub.refl ?_
 ·exact ⟨Nat.zero_le _, HK_0⟩
 ·(try dsimp only); exact (Wk.cons lkA (Wk.cons lkA (Wk.cons lkA Wk.nil)))
 ·rintro ⟨i, s⟩ ⟨hi, hB⟩ K7 hK7
  simp only [List.cons_append, List.nil_append]
  refine WC_seq fun K8 hK8 => ?_
  refine WC_sr fun K9 hK9 => ?_
  refine WL_r (Rd_move rfl) rfl ?_
  refine WL_r (Rd_move rfl) rfl ?_
  refine WL_r (Rd_len_sv rfl rfl ud44) rfl ?_
  refine WL_r (Rd_lssN rfl rfl) rfl ?_
  refine WL_end hK9 ?_
  refine WC_cond rfl (fun hc1 => ?_) (fun hc1 => ?_)
  ·try simp only [dz, ne_eq] at hc1
   obtain ⟨q, hqi⟩ := at_i (l := qs) (i := i) (by omega)
   obtain ⟨⟨hqA, hqAn⟩, hqF, hqFn, hqw⟩ := hQ q (List.mem_of_getElem? hqi)
   have hAl := lentX_len mkPr q.A.l
   have hFl := lentF_len q.F.l
   have hml : (matM (sizeM (lookP q.A.l)) (lookP q.A.l)).length ≤ 900000000 := mat_le q.A.l
   refine WC_skip ?_
   refine Ps_next hK8 ?_
   refine WC_seq fun K10 hK10 => ?_
   refine WC_block ?_
   refine WC_sr fun K11 hK11 => ?_
   refine WL_r (Rd_move rfl) rfl ?_
   refine WL_r (Rd_move rfl) rfl ?_
   refine WL_r (Rd_index_sv i rfl rfl ud44 sz47 (hA := hS) (hi := by omega)) rfl ?_
   refine WL_r (Rd_loadg_sv (f := eHQ) (i := i) (y := q) rfl tk47 (hA := hS) (hl := hqi)) rfl ?_
   refine WL_ac (Ac_alloc zr47) rfl rfl rfl ?_
   rintro _ _ ⟨b6, rfl, rfl⟩
   refine WL_ac0 (Ac_store (ys := eHQ q) rfl rfl sz47 (h1 := encHQ.one q) (hv := rfl) (hr := rfl)) rfl rfl ?_
   rintro _ _ rfl
   refine WL_end hK11 ?_
   refine WC_sr fun K12 hK12 => ?_
   refine WL_r (Rd_assign rfl) rfl ?_
   refine WL_end hK12 ?_
   refine WC_block ?_
   refine WC_loopK (σ := Nat × HKs) (fun ⟨k, s⟩ => [(3, sl s.pa s.ps.length s.pc), (4, sl s.wa s.ws.length s.wc), (7, .int .i64 ((k : Nat) : Int))]) (fun ⟨k, s⟩ => [star (FPG 24 2 ePr) s.ps, arr s.pa s.pc 1 22 ePG s.ps, star (FPG 24 2 ePr) s.ws, arr s.wa s.wc 1 22 ePG s.ws]) (fun ⟨k, s⟩ => k ≤ 2 ∧ HK s (2 * i + k)) (fun ⟨k, s⟩ => 2 - k) ⟨0, s⟩ [0, 5, 6, 26, 29, 30, 31, 32, 33, 34, 35, 36, 37, 38, 205, 206, 207, 208, 209, 210, 211, 212, 213, 214, 215, 216, 217, 218, 219, 220, 221, 222] kpA (by (try dsimp only); repeat (first | with_reducible exact Gv.nil | (with_reducible apply Gv.cons; · (repeat (first | with_reducible exact Ext.here | with_reducible apply Ext.there))))) ?_ ?_ Sub.refl ?_
   ·exact ⟨Nat.zero_le _, hB⟩
   ·(try dsimp only); exact (Wk.cons lkA (Wk.cons lkA (Wk.cons lkA Wk.nil)))
   ·rintro ⟨k, s⟩ ⟨hk, hB⟩ K13 hK13
    simp only [List.cons_append, List.nil_append]
    have hlD := hB.lenD
    have hlp := hB.lD
    refine WC_seq fun K14 hK14 => ?_
    refine WC_sr fun K15 hK15 => ?_
    refine WL_r (Rd_move rfl) rfl ?_
    refine WL_r (Rd_lssN (j := 2) rfl rfl) rfl ?_
    refine WL_end hK15 ?_
    refine WC_cond rfl (fun hc2 => ?_) (fun hc2 => ?_)
    ·try simp only [dz, ne_eq] at hc2
     refine WC_skip ?_
     refine Ps_next hK14 ?_
     refine WC_seq fun K16 hK16 => ?_
     refine WC_block ?_
     refine WC_sr fun K17 hK17 => ?_
     refine WL_r (Rd_fieldAddr rfl fo47_1) rfl ?_
     refine WL_r (Rd_load rfl tk22 (v := q.A.v)) rfl ?_
     refine WL_ac (Ac_call cf16 rfl (hs := lentP_ct (X := old W) (l := q.A.l) (hS := hqA))) rfl rfl rfl ?_
     rintro _ _ ⟨⟨a8, c8⟩, rfl, hA⟩
     simp only [List.cons_append, List.nil_append] at hA
     replace hA := hA.symm
     subst hA
     refine WL_fact (fun w h => arr_facts (a := a8) (cap := c8) (e := 2) (T := 24) (f := ePr) (l := (lentX mkPr q.A.l)) hasA h) (fun h8f => ?_)
     have h8c := h8f.2
     have h8 : Sv [arr a8 c8 2 24 ePr (lentX mkPr q.A.l)] (sl a8 (lentX mkPr q.A.l).length c8) 2 ePr (lentX mkPr q.A.l) (a8.map fun g => ⟨g, 0, none⟩) c8 := Sv_own' encPr h8f.1 h8f.2
     have h8s : Sv [arr a8 c8 2 24 ePr (lentX mkPr q.A.l)] (sl a8 q.A.l.length c8) 2 ePr q.A.l (a8.map fun g => ⟨g, 0, none⟩) c8 := Sv_pre encPr (List.prefix_append _ _) h8f.1 h8f.2
     refine WL_r (Rd_assign rfl) rfl ?_
     refine WL_end hK17 ?_
     refine WC_sr fun K18 hK18 => ?_
     refine WL_r (Rd_fieldAddr rfl fo47_2) rfl ?_
     refine WL_r (Rd_load rfl tk34 (v := q.F.v)) rfl ?_
     refine WL_ac (Ac_call cf17 rfl (hs := lentF_ct (X := old W) (l := q.F.l) hqF (by omega))) rfl rfl rfl ?_
     rintro _ _ ⟨⟨a9, c9⟩, rfl, hA⟩
     simp only [List.cons_append, List.nil_append] at hA
     replace hA := hA.symm
     subst hA
     refine WL_fact (fun w h => arr_facts (a := a9) (cap := c9) (e := 1) (T := 35) (f := eF) (l := (lentF q.F.l)) hasA h) (fun h9f => ?_)
     have h9c := h9f.2
     have h9 : Sv [arr a9 c9 1 35 eF (lentF q.F.l)] (sl a9 (lentF q.F.l).length c9) 1 eF (lentF q.F.l) (a9.map fun g => ⟨g, 0, none⟩) c9 := Sv_own' encF h9f.1 h9f.2
     have h9s : Sv [arr a9 c9 1 35 eF (lentF q.F.l)] (sl a9 q.F.l.length c9) 1 eF q.F.l (a9.map fun g => ⟨g, 0, none⟩) c9 := Sv_pre encF (List.prefix_append _ _) h9f.1 h9f.2
     refine WL_r (Rd_assign rfl) rfl ?_
     refine WL_end hK18 ?_
     refine WC_sr fun K19 hK19 => ?_
     refine WL_r (Rd_assign rfl) rfl ?_
     refine WL_end hK19 ?_
     refine WC_seq fun K20 hK20 => ?_
     refine WC_sr fun K21 hK21 => ?_
     refine WL_r (Rd_fieldAddr rfl fo47_0) rfl ?_
     refine WL_r (Rd_load rfl tk3 (v := .int .i64 q.call)) rfl ?_
     refine WL_end hK21 ?_
     refine WC_meet (B0 := [star (FPG 24 2 ePr) s.ps, arr s.pa s.pc 1 22 ePG s.ps, star (FPG 24 2 ePr) s.ws, arr s.wa s.wc 1 22 ePG s.ws]) (σ := HKs) (fun s2 => [(3, sl s2.pa s2.ps.length s2.pc), (4, sl s2.wa s2.ws.length s2.wc), (10, .bool true)]) (fun s2 => [star (FPG 24 2 ePr) s2.ps, arr s2.pa s2.pc 1 22 ePG s2.ps, star (FPG 24 2 ePr) s2.ws, arr s2.wa s2.wc 1 22 ePG s2.ws]) (fun s2 => HK s2 (2 * i + k + 1)) [0, 2, 5, 6, 7, 8, 9, 25, 26, 29, 30, 31, 32, 33, 34, 35, 36, 37, 38, 39, 40, 41, 42, 43, 44, 45, 46, 47, 48, 49, 50, 178, 179, 180, 181, 182, 183, 184, 185, 186, 187, 188, 189, 190, 191, 192, 193, 194, 196, 197, 198, 199, 200, 201, 202, 203, 204, 205, 206, 207, 208, 209, 210, 211, 212, 213, 214, 215, 216, 217, 218, 219, 220, 221, 222] kpA (by (try dsimp only); repeat (first | with_reducible exact Gv.nil | (with_reducible apply Gv.cons; · (repeat (first | with_reducible exact Ext.here | with_reducible apply Ext.there))))) ?_ ?_
     ·intro hK22
      refine WC_block ?_
      refine WC_sr fun K23 hK23 => ?_
      refine WL_r (Rd_eql rfl rfl) rfl ?_
      refine WL_r (Rd_assign rfl) rfl ?_
      refine WL_end hK23 ?_
      refine WC_cond rfl (fun hc3 => ?_) (fun hc3 => ?_)
      ·try simp only [dz, ne_eq] at hc3
       by_cases hm : mayP q.A.l
       ·skip
        refine WC_sr fun K24 hK24 => ?_
        refine WL_r (Rd_move rfl) rfl ?_
        refine WL_r (Rd_fieldAddr rfl fo47_1) rfl ?_
        refine WL_r (Rd_load rfl tk22 (v := q.A.v)) rfl ?_
        refine WL_r (Rd_len_sv rfl rfl ud22 (hA := hqA)) rfl ?_
        refine WL_r (Rd_slice_hi q.A.l.length rfl rfl ud22 sz24 (hi := by omega)) rfl ?_
        refine WL_ac (Ac_call cf9 rfl (hs := Look_ok (X := arr a8 c8 2 24 ePr (lentX mkPr q.A.l)) (ps := q.A.l) h8s (by omega) hm)) rfl rfl rfl ?_
        rintro _ _ ⟨⟨⟩, rfl, hA⟩
        simp only [List.cons_append, List.nil_append] at hA
        replace hA := hA.symm
        subst hA
        refine WL_r (Rd_move rfl) rfl ?_
        refine WL_r (Rd_ext0 rfl) rfl ?_
        refine WL_r (Rd_ext1 rfl) rfl ?_
        refine WL_ac (Ac_alloc zr27) rfl rfl rfl ?_
        rintro _ _ ⟨b11, rfl, rfl⟩
        refine WL_ac0 (Ac_store (ys := [.int .i64 (((cntM (lookP q.A.l) Prod.fst) : Nat) : Int), .int .i64 (((cntM (lookP q.A.l) Prod.snd) : Nat) : Int), .int .i64 (((sizeM (lookP q.A.l)) : Nat) : Int)]) rfl rfl sz27 (h1 := by simp [setAt, Value.cells, Value.oneCell']) (hr := rfl)) rfl rfl ?_
        rintro _ _ rfl
        refine WL_r (Rd_assign rfl) rfl ?_
        refine WL_end hK24 ?_
        refine WC_sr fun K25 hK25 => ?_
        refine WL_r (Rd_move rfl) rfl ?_
        refine WL_r (Rd_eqlN (i := 0) (j := 230) rfl rfl) rfl ?_
        refine WL_r (Rd_move rfl) rfl ?_
        refine WL_skip rfl rfl rfl ?_
        refine WL_skip rfl rfl rfl ?_
        refine WL_skip rfl rfl rfl ?_
        refine WL_r (Rd_pickF rfl rfl) rfl ?_
        refine WL_r (Rd_move rfl) rfl ?_
        refine WL_skip rfl rfl rfl ?_
        refine WL_skip rfl rfl rfl ?_
        refine WL_skip rfl rfl rfl ?_
        refine WL_skip rfl rfl rfl ?_
        refine WL_r (Rd_pickF rfl rfl) rfl ?_
        refine WL_r (Rd_assign rfl) rfl ?_
        refine WL_end hK25 ?_
        refine WC_sr fun K26 hK26 => ?_
        refine WL_r (Rd_fieldAddr rfl fo47_1) rfl ?_
        refine WL_r (Rd_load rfl tk22 (v := q.A.v)) rfl ?_
        refine WL_ac (Ac_call cf18 rfl (hs := May_ct (X := old W) (ps := q.A.l) hqA (by omega))) rfl rfl rfl ?_
        rintro _ _ ⟨⟨⟩, rfl, hA⟩
        simp only [List.cons_append, List.nil_append] at hA
        replace hA := hA.symm
        subst hA
        rw [show decide (mayP q.A.l) = true from decide_eq_true hm]
        refine WL_end hK26 ?_
        refine WC_condT rfl ?_
        refine WC_draw mix [cl b11 27 [.int .i64 (((cntM (lookP q.A.l) Prod.fst) : Nat) : Int), .int .i64 (((cntM (lookP q.A.l) Prod.snd) : Nat) : Int), .int .i64 (((sizeM (lookP q.A.l)) : Nat) : Int)], cl b6 47 (eHQ q), old W] (fun i => ([2, 2, 2, 2, 2, 2, 1, 2, 2, 2] : List Nat).getD i 0) ?_
        refine WJ_tp 0 rfl (Rd_move rfl) rfl (hp _ _) ?_
        refine WJ_tp 1 rfl (Rd_eqlN (i := 0) (j := 0) rfl rfl) rfl (hp _ _) ?_
        refine WJ_tp 2 rfl (Rd_move rfl) rfl (hp _ _) ?_
        refine WJ_tk 3 (Rd_loadg (vs := [.int .i64 (((cntM (lookP q.A.l) Prod.fst) : Nat) : Int), .int .i64 (((cntM (lookP q.A.l) Prod.snd) : Nat) : Int), .int .i64 (((sizeM (lookP q.A.l)) : Nat) : Int)]) rfl tk27) hp ?_ rfl (by kernel_rfl) rfl rfl rfl
        refine WJ_tp 4 rfl (Rd_fieldAddr rfl fo47_1) rfl (hp _ _) ?_
        refine WJ_tk 5 (Rd_load rfl tk22 (v := q.A.v)) hp ?_ rfl (by kernel_rfl) rfl rfl rfl
        refine WJ_all (rs := [6]) (by kernel_rfl) rfl ?_
        refine WI_one ?_
        refine WI_ac rfl (Ac_call cf19 rfl (hs := Look3_ct (X := old W) (ps := q.A.l) hqA (by omega) hm)) rfl rfl rfl rfl ?_
        rintro _ _ ⟨⟨⟩, rfl, hA⟩
        simp only [List.cons_append, List.nil_append] at hA
        replace hA := hA.symm
        subst hA
        refine ⟨(fun _ => subF), ?_⟩
        refine WJ_tp 7 rfl (Rd_valE (v := .bool true) (Rd_eqS (xs := [.int .i64 (((cntM (lookP q.A.l) Prod.fst) : Nat) : Int), .int .i64 (((cntM (lookP q.A.l) Prod.snd) : Nat) : Int), .int .i64 (((sizeM (lookP q.A.l)) : Nat) : Int)]) (ys := [.int .i64 (((cntM (lookP q.A.l) Prod.fst) : Nat) : Int), .int .i64 (((cntM (lookP q.A.l) Prod.snd) : Nat) : Int), .int .i64 (((sizeM (lookP q.A.l)) : Nat) : Int)]) rfl rfl fls27 (EqL.sc tk3 rfl rfl (Eqs_int ud3 _ _) (EqL.sc tk3 rfl rfl (Eqs_int ud3 _ _) (EqL.sc tk3 rfl rfl (Eqs_int ud3 _ _) EqL.nil)))) (by simp)) rfl (hp _ _) ?_
        refine WJ_tp 8 rfl (Rd_pickT rfl rfl) rfl (hp _ _) ?_
        refine WJ_tp 9 rfl (Rd_assign rfl) rfl (hp _ _) ?_
        refine WJ_done (by kernel_rfl) ?_
        refine Ps_wkB (hK22 (s) (hB.up (by omega)))
       ·skip
        refine WC_sr fun K27 hK27 => ?_
        refine WL_r (Rd_move rfl) rfl ?_
        refine WL_r (Rd_fieldAddr rfl fo47_1) rfl ?_
        refine WL_r (Rd_load rfl tk22 (v := q.A.v)) rfl ?_
        refine WL_r (Rd_len_sv rfl rfl ud22 (hA := hqA)) rfl ?_
        refine WL_r (Rd_slice_hi q.A.l.length rfl rfl ud22 sz24 (hi := by omega)) rfl ?_
        refine WL_ac (Ac_call cf9 rfl (hs := Look_no (X := arr a8 c8 2 24 ePr (lentX mkPr q.A.l)) (ps := q.A.l) h8s (by omega) hm)) rfl rfl rfl ?_
        rintro _ _ ⟨⟨⟩, rfl, hA⟩
        simp only [List.cons_append, List.nil_append] at hA
        replace hA := hA.symm
        subst hA
        refine WL_r (Rd_move rfl) rfl ?_
        refine WL_r (Rd_ext0 rfl) rfl ?_
        refine WL_r (Rd_ext1 rfl) rfl ?_
        refine WL_ac (Ac_alloc zr27) rfl rfl rfl ?_
        rintro _ _ ⟨b11, rfl, rfl⟩
        refine WL_ac0 (Ac_store (ys := [.int .i64 0, .int .i64 0, .int .i64 0]) rfl rfl sz27 (h1 := by simp [setAt, Value.cells, Value.oneCell']) (hr := rfl)) rfl rfl ?_
        rintro _ _ rfl
        refine WL_r (Rd_assign rfl) rfl ?_
        refine WL_end hK27 ?_
        refine WC_sr fun K28 hK28 => ?_
        refine WL_r (Rd_move rfl) rfl ?_
        refine WL_r (Rd_eqlN (i := 230) (j := 230) rfl rfl) rfl ?_
        refine WL_r (Rd_move rfl) rfl ?_
        refine WL_r (Rd_loadg (vs := [.int .i64 0, .int .i64 0, .int .i64 0]) rfl tk27) rfl ?_
        refine WL_r (Rd_valE (v := .agg ([.int .i64 0, .int .i64 0, .int .i64 0] : List Value).toArray) (Rd_build pls27 rfl (hf := rfl)) rfl) rfl ?_
        refine WL_r (Rd_valE (v := .bool true) (Rd_eqS (xs := [.int .i64 0, .int .i64 0, .int .i64 0]) (ys := [.int .i64 0, .int .i64 0, .int .i64 0]) rfl rfl fls27 (EqL.sc tk3 rfl rfl (Eqs_int ud3 _ _) (EqL.sc tk3 rfl rfl (Eqs_int ud3 _ _) (EqL.sc tk3 rfl rfl (Eqs_int ud3 _ _) EqL.nil)))) (by simp)) rfl ?_
        refine WL_r (Rd_pickT rfl rfl) rfl ?_
        refine WL_r (Rd_move rfl) rfl ?_
        refine WL_r (Rd_fieldAddr rfl fo47_1) rfl ?_
        refine WL_r (Rd_load rfl tk22 (v := q.A.v)) rfl ?_
        refine WL_ac (Ac_call cf18 rfl (hs := May_ct (X := old W) (ps := q.A.l) hqA (by omega))) rfl rfl rfl ?_
        rintro _ _ ⟨⟨⟩, rfl, hA⟩
        simp only [List.cons_append, List.nil_append] at hA
        replace hA := hA.symm
        subst hA
        rw [show decide (mayP q.A.l) = false from decide_eq_false hm]
        refine WL_r (Rd_not rfl) rfl ?_
        refine WL_r (Rd_pickT rfl rfl) rfl ?_
        refine WL_r (Rd_assign rfl) rfl ?_
        refine WL_end hK28 ?_
        refine WC_sr fun K29 hK29 => ?_
        refine WL_r (Rd_fieldAddr rfl fo47_1) rfl ?_
        refine WL_r (Rd_load rfl tk22 (v := q.A.v)) rfl ?_
        refine WL_ac (Ac_call cf18 rfl (hs := May_ct (X := old W) (ps := q.A.l) hqA (by omega))) rfl rfl rfl ?_
        rintro _ _ ⟨⟨⟩, rfl, hA⟩
        simp only [List.cons_append, List.nil_append] at hA
        replace hA := hA.symm
        subst hA
        rw [show decide (mayP q.A.l) = false from decide_eq_false hm]
        refine WL_end hK29 ?_
        refine WC_condF rfl ?_
        refine WC_skip ?_
        refine Ps_wkB (hK22 (s) (hB.up (by omega)))
      ·try simp only [dz, ne_eq] at hc3
       refine WC_sr fun K30 hK30 => ?_
       refine WL_r (Rd_eql rfl rfl) rfl ?_
       refine WL_r (Rd_assign rfl) rfl ?_
       refine WL_end hK30 ?_
       refine WC_cond rfl (fun hc5 => ?_) (fun hc5 => ?_)
       ·try simp only [dz, ne_eq] at hc5
        by_cases hm : mayP q.A.l
        ·skip
         refine WC_sr fun K31 hK31 => ?_
         refine WL_r (Rd_move rfl) rfl ?_
         refine WL_r (Rd_fieldAddr rfl fo47_1) rfl ?_
         refine WL_r (Rd_load rfl tk22 (v := q.A.v)) rfl ?_
         refine WL_r (Rd_len_sv rfl rfl ud22 (hA := hqA)) rfl ?_
         refine WL_r (Rd_slice_hi q.A.l.length rfl rfl ud22 sz24 (hi := by omega)) rfl ?_
         refine WL_ac (Ac_call cf14 rfl (hs := Match_ok (X := arr a8 c8 2 24 ePr (lentX mkPr q.A.l)) (ps := q.A.l) h8s (by omega) hm)) rfl rfl rfl ?_
         rintro _ _ ⟨⟨ga, gc⟩, rfl, hA⟩
         simp only [List.cons_append, List.nil_append] at hA
         replace hA := hA.symm
         subst hA
         refine WL_fact (fun w h => arr_facts (a := ga) (cap := gc) (e := 2) (T := 24) (f := ePr) (l := (matM (sizeM (lookP q.A.l)) (lookP q.A.l))) hasA h) (fun hgf => ?_)
         refine WL_r (Rd_move rfl) rfl ?_
         refine WL_r (Rd_ext0 rfl) rfl ?_
         refine WL_r (Rd_ext1 rfl) rfl ?_
         refine WL_r (Rd_assign rfl) rfl ?_
         refine WL_r (Rd_assign rfl) rfl ?_
         refine WL_end hK31 ?_
         refine WC_sr fun K32 hK32 => ?_
         refine WL_r (Rd_assign (v := sl none 0 0) rfl) rfl ?_
         refine WL_end hK32 ?_
         refine WC_sr fun K33 hK33 => ?_
         refine WL_r (Rd_assign rfl) rfl ?_
         refine WL_end hK33 ?_
         refine WC_seq fun K34 hK34 => ?_
         refine WC_sr fun K35 hK35 => ?_
         refine WL_r (Rd_fieldAddr rfl fo47_1) rfl ?_
         refine WL_r (Rd_load rfl tk22 (v := q.A.v)) rfl ?_
         refine WL_ac (Ac_call cf18 rfl (hs := May_ct (X := old W) (ps := q.A.l) hqA (by omega))) rfl rfl rfl ?_
         rintro _ _ ⟨⟨⟩, rfl, hA⟩
         simp only [List.cons_append, List.nil_append] at hA
         replace hA := hA.symm
         subst hA
         rw [show decide (mayP q.A.l) = true from decide_eq_true hm]
         refine WL_end hK35 ?_
         refine WC_condT rfl ?_
         refine WC_sr fun K36 hK36 => ?_
         refine WL_r (Rd_fieldAddr rfl fo47_1) rfl ?_
         refine WL_r (Rd_load rfl tk22 (v := q.A.v)) rfl ?_
         refine WL_ac (Ac_call cf20 rfl (hs := Match3_ct (X := old W) (ps := q.A.l) hqA (by omega) hm)) rfl rfl rfl ?_
         rintro _ _ ⟨⟨wa, wc⟩, rfl, hA⟩
         simp only [List.cons_append, List.nil_append] at hA
         replace hA := hA.symm
         subst hA
         refine WL_fact (fun w h => arr_facts (a := wa) (cap := wc) (e := 2) (T := 24) (f := ePr) (l := (matM (sizeM (lookP q.A.l)) (lookP q.A.l))) hasA h) (fun hwf => ?_)
         refine WL_r (Rd_assign rfl) rfl ?_
         refine WL_end hK36 ?_
         refine WC_region ?_
         refine WL_r (Rd_assign rfl) rfl ?_
         refine WL_nil ?_
         refine Ps_next hK34 ?_
         refine WC_sr fun K37 hK37 => ?_
         refine WL_r (Rd_move rfl) rfl ?_
         refine WL_r (Rd_move rfl) rfl ?_
         refine WL_ac (Ac_bs1 (xs := [sl ga (matM (sizeM (lookP q.A.l)) (lookP q.A.l)).length gc]) rfl ud45 zr22 sz22) rfl rfl rfl ?_
         rintro _ _ ⟨b140, rfl, rfl⟩
         refine WL_ac (Ac_append1 (f := ePG) encPG (⟨ga, gc, (matM (sizeM (lookP q.A.l)) (lookP q.A.l))⟩ : PG Pr) rfl rfl ud45 ud45 el22) rfl rfl rfl ?_
         rintro _ _ ⟨a141, cap141, rfl, rfl⟩
         rw [show s.ps.length + 1 = (s.ps ++ [(⟨ga, gc, (matM (sizeM (lookP q.A.l)) (lookP q.A.l))⟩ : PG Pr)]).length from by simp]
         try rw [show arr ga gc 2 24 ePr (matM (sizeM (lookP q.A.l)) (lookP q.A.l)) = (FPG 24 2 ePr) (⟨ga, gc, (matM (sizeM (lookP q.A.l)) (lookP q.A.l))⟩ : PG Pr) from rfl]
         refine WL_snoc (FPG 24 2 ePr) s.ps (⟨ga, gc, (matM (sizeM (lookP q.A.l)) (lookP q.A.l))⟩ : PG Pr) ?_
         refine WL_r (Rd_assign rfl) rfl ?_
         refine WL_end hK37 ?_
         refine WC_sr fun K38 hK38 => ?_
         refine WL_r (Rd_move rfl) rfl ?_
         refine WL_r (Rd_move rfl) rfl ?_
         refine WL_ac (Ac_bs1 (xs := [sl wa (matM (sizeM (lookP q.A.l)) (lookP q.A.l)).length wc]) rfl ud45 zr22 sz22) rfl rfl rfl ?_
         rintro _ _ ⟨b144, rfl, rfl⟩
         refine WL_ac (Ac_append1 (f := ePG) encPG (⟨wa, wc, (matM (sizeM (lookP q.A.l)) (lookP q.A.l))⟩ : PG Pr) rfl rfl ud45 ud45 el22) rfl rfl rfl ?_
         rintro _ _ ⟨a145, cap145, rfl, rfl⟩
         rw [show s.ws.length + 1 = (s.ws ++ [(⟨wa, wc, (matM (sizeM (lookP q.A.l)) (lookP q.A.l))⟩ : PG Pr)]).length from by simp]
         try rw [show arr wa wc 2 24 ePr (matM (sizeM (lookP q.A.l)) (lookP q.A.l)) = (FPG 24 2 ePr) (⟨wa, wc, (matM (sizeM (lookP q.A.l)) (lookP q.A.l))⟩ : PG Pr) from rfl]
         refine WL_snoc (FPG 24 2 ePr) s.ws (⟨wa, wc, (matM (sizeM (lookP q.A.l)) (lookP q.A.l))⟩ : PG Pr) ?_
         refine WL_r (Rd_assign rfl) rfl ?_
         refine WL_end hK38 ?_
         refine WC_region ?_
         refine WL_r (Rd_move rfl) rfl ?_
         refine WL_r (Rd_move rfl) rfl ?_
         refine WL_r (Rd_eqlN (i := 0) (j := 0) rfl rfl) rfl ?_
         refine WL_r (Rd_assign rfl) rfl ?_
         refine WL_nil ?_
         refine Ps_wkB (hK22 (⟨s.ps ++ [(⟨ga, gc, (matM (sizeM (lookP q.A.l)) (lookP q.A.l))⟩ : PG Pr)], a141, cap141, s.ws ++ [(⟨wa, wc, (matM (sizeM (lookP q.A.l)) (lookP q.A.l))⟩ : PG Pr)], a145, cap145⟩) (hB.put (by omega) rfl hgf.1 hgf.2 hml hwf.1 hwf.2))
        ·skip
         refine WC_sr fun K39 hK39 => ?_
         refine WL_r (Rd_move rfl) rfl ?_
         refine WL_r (Rd_fieldAddr rfl fo47_1) rfl ?_
         refine WL_r (Rd_load rfl tk22 (v := q.A.v)) rfl ?_
         refine WL_r (Rd_len_sv rfl rfl ud22 (hA := hqA)) rfl ?_
         refine WL_r (Rd_slice_hi q.A.l.length rfl rfl ud22 sz24 (hi := by omega)) rfl ?_
         refine WL_ac (Ac_call cf14 rfl (hs := Match_no (X := arr a8 c8 2 24 ePr (lentX mkPr q.A.l)) (ps := q.A.l) h8s (by omega) hm)) rfl rfl rfl ?_
         rintro _ _ ⟨⟨⟩, rfl, hA⟩
         simp only [List.cons_append, List.nil_append] at hA
         replace hA := hA.symm
         subst hA
         refine WL_r (Rd_move rfl) rfl ?_
         refine WL_r (Rd_ext0 rfl) rfl ?_
         refine WL_r (Rd_ext1 rfl) rfl ?_
         refine WL_r (Rd_assign rfl) rfl ?_
         refine WL_r (Rd_assign rfl) rfl ?_
         refine WL_end hK39 ?_
         refine WC_sr fun K40 hK40 => ?_
         refine WL_r (Rd_assign (v := sl none 0 0) rfl) rfl ?_
         refine WL_nilarr ePr 2 24 ?_
         refine WL_nilarr ePr 2 24 ?_
         refine WL_end hK40 ?_
         refine WC_sr fun K41 hK41 => ?_
         refine WL_r (Rd_assign rfl) rfl ?_
         refine WL_end hK41 ?_
         refine WC_seq fun K42 hK42 => ?_
         refine WC_sr fun K43 hK43 => ?_
         refine WL_r (Rd_fieldAddr rfl fo47_1) rfl ?_
         refine WL_r (Rd_load rfl tk22 (v := q.A.v)) rfl ?_
         refine WL_ac (Ac_call cf18 rfl (hs := May_ct (X := old W) (ps := q.A.l) hqA (by omega))) rfl rfl rfl ?_
         rintro _ _ ⟨⟨⟩, rfl, hA⟩
         simp only [List.cons_append, List.nil_append] at hA
         replace hA := hA.symm
         subst hA
         rw [show decide (mayP q.A.l) = false from decide_eq_false hm]
         refine WL_end hK43 ?_
         refine WC_condF rfl ?_
         refine WC_skip ?_
         refine Ps_next hK42 ?_
         refine WC_sr fun K44 hK44 => ?_
         refine WL_r (Rd_move rfl) rfl ?_
         refine WL_r (Rd_move rfl) rfl ?_
         refine WL_ac (Ac_bs1 (xs := [sl none 0 0]) rfl ud45 zr22 sz22) rfl rfl rfl ?_
         rintro _ _ ⟨b140, rfl, rfl⟩
         refine WL_ac (Ac_append1 (f := ePG) encPG (⟨none, 0, []⟩ : PG Pr) rfl rfl ud45 ud45 el22) rfl rfl rfl ?_
         rintro _ _ ⟨a141, cap141, rfl, rfl⟩
         rw [show s.ps.length + 1 = (s.ps ++ [(⟨none, 0, []⟩ : PG Pr)]).length from by simp]
         try rw [show arr none 0 2 24 ePr ([] : List Pr) = (FPG 24 2 ePr) (⟨none, 0, []⟩ : PG Pr) from rfl]
         refine WL_snoc (FPG 24 2 ePr) s.ps (⟨none, 0, []⟩ : PG Pr) ?_
         refine WL_r (Rd_assign rfl) rfl ?_
         refine WL_end hK44 ?_
         refine WC_sr fun K45 hK45 => ?_
         refine WL_r (Rd_move rfl) rfl ?_
         refine WL_r (Rd_move rfl) rfl ?_
         refine WL_ac (Ac_bs1 (xs := [sl none 0 0]) rfl ud45 zr22 sz22) rfl rfl rfl ?_
         rintro _ _ ⟨b144, rfl, rfl⟩
         refine WL_ac (Ac_append1 (f := ePG) encPG (⟨none, 0, []⟩ : PG Pr) rfl rfl ud45 ud45 el22) rfl rfl rfl ?_
         rintro _ _ ⟨a145, cap145, rfl, rfl⟩
         rw [show s.ws.length + 1 = (s.ws ++ [(⟨none, 0, []⟩ : PG Pr)]).length from by simp]
         try rw [show arr none 0 2 24 ePr ([] : List Pr) = (FPG 24 2 ePr) (⟨none, 0, []⟩ : PG Pr) from rfl]
         refine WL_snoc (FPG 24 2 ePr) s.ws (⟨none, 0, []⟩ : PG Pr) ?_
         refine WL_r (Rd_assign rfl) rfl ?_
         refine WL_end hK45 ?_
         refine WC_region ?_
         refine WL_r (Rd_move rfl) rfl ?_
         refine WL_r (Rd_move rfl) rfl ?_
         refine WL_r (Rd_eqlN (i := 230) (j := 230) rfl rfl) rfl ?_
         refine WL_r (Rd_assign rfl) rfl ?_
         refine WL_nil ?_
         refine Ps_wkB (hK22 (⟨s.ps ++ [(⟨none, 0, []⟩ : PG Pr)], a141, cap141, s.ws ++ [(⟨none, 0, []⟩ : PG Pr)], a145, cap145⟩) (hB.put (by omega) rfl (fun _ => rfl) (Nat.le_refl _) (Nat.zero_le _) (fun _ => rfl) (Nat.le_refl _)))
       ·try simp only [dz, ne_eq] at hc5
        refine WC_sr fun K46 hK46 => ?_
        refine WL_r (Rd_eql rfl rfl) rfl ?_
        refine WL_r (Rd_assign rfl) rfl ?_
        refine WL_end hK46 ?_
        refine WC_cond rfl (fun hc7 => ?_) (fun hc7 => ?_)
        ·try simp only [dz, ne_eq] at hc7
         cases ho : oddsOk q.F.l
         ·skip
          refine WC_seq fun K47 hK47 => ?_
          refine WC_draw mix [cl b6 47 (eHQ q)] (fun i => ([2, 2, 2, 2, 2, 2, 2, 1, 2, 2, 2, 2, 2] : List Nat).getD i 0) ?_
          refine WJ_tp 0 rfl (Rd_move rfl) rfl (hp _ _) ?_
          refine WJ_tp 1 rfl (Rd_fieldAddr rfl fo47_2) rfl (hp _ _) ?_
          refine WJ_tk 2 (Rd_load rfl tk34 (v := q.F.v)) hp ?_ rfl (by kernel_rfl) rfl rfl rfl
          refine WJ_tp 3 rfl (Rd_len_sv rfl rfl ud34 (hA := hqF)) rfl (hp _ _) ?_
          refine WJ_tp 4 rfl (Rd_slice_hi q.F.l.length rfl rfl ud34 sz35 (hi := by omega)) rfl (hp _ _) ?_
          refine WJ_tp 5 rfl (Rd_fieldAddr rfl fo47_3) rfl (hp _ _) ?_
          refine WJ_tk 6 (Rd_load rfl tk3 (v := .int .i64 q.k)) hp ?_ rfl (by kernel_rfl) rfl rfl rfl
          refine WJ_all (rs := [7]) (by kernel_rfl) rfl ?_
          refine WI_one ?_
          refine WI_ac rfl (Ac_call cf12 rfl (hs := odds_no (X := arr a9 c9 1 35 eF (lentF q.F.l)) (l := q.F.l) (k0 := q.k) h9s (by omega) ho)) rfl rfl rfl rfl ?_
          rintro _ _ ⟨⟨⟩, rfl, hA⟩
          simp only [List.cons_append, List.nil_append] at hA
          replace hA := hA.symm
          subst hA
          refine ⟨(fun _ => subF), ?_⟩
          refine WJ_tp 8 rfl (Rd_move rfl) rfl (hp _ _) ?_
          refine WJ_tp 9 rfl (Rd_ext0 rfl) rfl (hp _ _) ?_
          refine WJ_tp 10 rfl (Rd_ext1 rfl) rfl (hp _ _) ?_
          refine WJ_tp 11 rfl (Rd_assign rfl) rfl (hp _ _) ?_
          refine WJ_tp 12 rfl (Rd_assign rfl) rfl (hp _ _) ?_
          refine WJ_done (by kernel_rfl) ?_
          refine Ps_next hK47 ?_
          refine WC_sr fun K48 hK48 => ?_
          refine WL_r (Rd_fieldAddr rfl fo47_2) rfl ?_
          refine WL_r (Rd_load rfl tk34 (v := q.F.v)) rfl ?_
          refine WL_r (Rd_fieldAddr rfl fo47_3) rfl ?_
          refine WL_r (Rd_load rfl tk3 (v := .int .i64 q.k)) rfl ?_
          refine WL_ac (Ac_call cf21 rfl (hs := odds3_no (X := old W) (l := q.F.l) (k0 := q.k) hqF (by omega) ho)) rfl rfl rfl ?_
          rintro _ _ ⟨⟨⟩, rfl, hA⟩
          simp only [List.cons_append, List.nil_append] at hA
          replace hA := hA.symm
          subst hA
          refine WL_r (Rd_move rfl) rfl ?_
          refine WL_r (Rd_ext0 rfl) rfl ?_
          refine WL_r (Rd_ext1 rfl) rfl ?_
          refine WL_r (Rd_assign rfl) rfl ?_
          refine WL_r (Rd_assign rfl) rfl ?_
          refine WL_end hK48 ?_
          refine WC_region ?_
          refine WL_r (Rd_move rfl) rfl ?_
          refine WL_r (Rd_move rfl) rfl ?_
          refine WL_r (Rd_eqlN (i := 231) (j := 231) rfl rfl) rfl ?_
          refine WL_r (Rd_move rfl) rfl ?_
          refine WL_r (Rd_move rfl) rfl ?_
          refine WL_r (Rd_move rfl) rfl ?_
          refine WL_ac (Ac_call cf13 rfl (hs := sameF_ct (x := 0) NN_0)) rfl rfl rfl ?_
          rintro _ _ ⟨⟨⟩, rfl, hA⟩
          simp only [List.cons_append, List.nil_append] at hA
          replace hA := hA.symm
          subst hA
          refine WL_r (Rd_pickT rfl rfl) rfl ?_
          refine WL_r (Rd_assign rfl) rfl ?_
          refine WL_nil ?_
          refine Ps_wkB (hK22 (s) (hB.up (by omega)))
         ·skip
          refine WC_seq fun K49 hK49 => ?_
          refine WC_draw mix [cl b6 47 (eHQ q)] (fun i => ([2, 2, 2, 2, 2, 2, 2, 1, 2, 2, 2, 2, 2] : List Nat).getD i 0) ?_
          refine WJ_tp 0 rfl (Rd_move rfl) rfl (hp _ _) ?_
          refine WJ_tp 1 rfl (Rd_fieldAddr rfl fo47_2) rfl (hp _ _) ?_
          refine WJ_tk 2 (Rd_load rfl tk34 (v := q.F.v)) hp ?_ rfl (by kernel_rfl) rfl rfl rfl
          refine WJ_tp 3 rfl (Rd_len_sv rfl rfl ud34 (hA := hqF)) rfl (hp _ _) ?_
          refine WJ_tp 4 rfl (Rd_slice_hi q.F.l.length rfl rfl ud34 sz35 (hi := by omega)) rfl (hp _ _) ?_
          refine WJ_tp 5 rfl (Rd_fieldAddr rfl fo47_3) rfl (hp _ _) ?_
          refine WJ_tk 6 (Rd_load rfl tk3 (v := .int .i64 q.k)) hp ?_ rfl (by kernel_rfl) rfl rfl rfl
          refine WJ_all (rs := [7]) (by kernel_rfl) rfl ?_
          refine WI_one ?_
          refine WI_ac rfl (Ac_call cf12 rfl (hs := odds_ok (X := arr a9 c9 1 35 eF (lentF q.F.l)) (l := q.F.l) (k0 := q.k) h9s (by omega) hqw ho)) rfl rfl rfl rfl ?_
          rintro _ _ ⟨⟨⟩, rfl, hA⟩
          simp only [List.cons_append, List.nil_append] at hA
          replace hA := hA.symm
          subst hA
          refine ⟨(fun _ => subF), ?_⟩
          refine WJ_tp 8 rfl (Rd_move rfl) rfl (hp _ _) ?_
          refine WJ_tp 9 rfl (Rd_ext0 rfl) rfl (hp _ _) ?_
          refine WJ_tp 10 rfl (Rd_ext1 rfl) rfl (hp _ _) ?_
          refine WJ_tp 11 rfl (Rd_assign rfl) rfl (hp _ _) ?_
          refine WJ_tp 12 rfl (Rd_assign rfl) rfl (hp _ _) ?_
          refine WJ_done (by kernel_rfl) ?_
          refine Ps_next hK49 ?_
          refine WC_sr fun K50 hK50 => ?_
          refine WL_r (Rd_fieldAddr rfl fo47_2) rfl ?_
          refine WL_r (Rd_load rfl tk34 (v := q.F.v)) rfl ?_
          refine WL_r (Rd_fieldAddr rfl fo47_3) rfl ?_
          refine WL_r (Rd_load rfl tk3 (v := .int .i64 q.k)) rfl ?_
          refine WL_ac (Ac_call cf21 rfl (hs := odds3_ok (X := old W) (l := q.F.l) (k0 := q.k) hqF (by omega) hqw ho)) rfl rfl rfl ?_
          rintro _ _ ⟨⟨⟩, rfl, hA⟩
          simp only [List.cons_append, List.nil_append] at hA
          replace hA := hA.symm
          subst hA
          refine WL_r (Rd_move rfl) rfl ?_
          refine WL_r (Rd_ext0 rfl) rfl ?_
          refine WL_r (Rd_ext1 rfl) rfl ?_
          refine WL_r (Rd_assign rfl) rfl ?_
          refine WL_r (Rd_assign rfl) rfl ?_
          refine WL_end hK50 ?_
          refine WC_region ?_
          refine WL_r (Rd_move rfl) rfl ?_
          refine WL_r (Rd_move rfl) rfl ?_
          refine WL_r (Rd_eqlN (i := 0) (j := 0) rfl rfl) rfl ?_
          refine WL_r (Rd_move rfl) rfl ?_
          refine WL_r (Rd_move rfl) rfl ?_
          refine WL_r (Rd_move rfl) rfl ?_
          refine WL_ac (Ac_call cf13 rfl (hs := sameF_ct (x := oddsP q.F.l q.k) (odds_NN (oddsOk_U hqw ho)))) rfl rfl rfl ?_
          rintro _ _ ⟨⟨⟩, rfl, hA⟩
          simp only [List.cons_append, List.nil_append] at hA
          replace hA := hA.symm
          subst hA
          refine WL_r (Rd_pickT rfl rfl) rfl ?_
          refine WL_r (Rd_assign rfl) rfl ?_
          refine WL_nil ?_
          refine Ps_wkB (hK22 (s) (hB.up (by omega)))
        ·try simp only [dz, ne_eq] at hc7
         rcases las4 q.A.l q.F.l with hm | ⟨hm, hg⟩ | ⟨hm, hg, ho⟩ | ⟨hm, hg, ho⟩
         ·skip
          refine WC_seq fun K51 hK51 => ?_
          refine WC_draw mix [cl b6 47 (eHQ q)] (fun i => ([2, 2, 2, 2, 2, 2, 2, 2, 2, 2, 2, 2, 1, 2, 2, 2, 2, 2] : List Nat).getD i 0) ?_
          refine WJ_tp 0 rfl (Rd_move rfl) rfl (hp _ _) ?_
          refine WJ_tp 1 rfl (Rd_fieldAddr rfl fo47_1) rfl (hp _ _) ?_
          refine WJ_tk 2 (Rd_load rfl tk22 (v := q.A.v)) hp ?_ rfl (by kernel_rfl) rfl rfl rfl
          refine WJ_tp 3 rfl (Rd_len_sv rfl rfl ud22 (hA := hqA)) rfl (hp _ _) ?_
          refine WJ_tp 4 rfl (Rd_slice_hi q.A.l.length rfl rfl ud22 sz24 (hi := by omega)) rfl (hp _ _) ?_
          refine WJ_tp 5 rfl (Rd_move rfl) rfl (hp _ _) ?_
          refine WJ_tp 6 rfl (Rd_fieldAddr rfl fo47_2) rfl (hp _ _) ?_
          refine WJ_tk 7 (Rd_load rfl tk34 (v := q.F.v)) hp ?_ rfl (by kernel_rfl) rfl rfl rfl
          refine WJ_tp 8 rfl (Rd_len_sv rfl rfl ud34 (hA := hqF)) rfl (hp _ _) ?_
          refine WJ_tp 9 rfl (Rd_slice_hi q.F.l.length rfl rfl ud34 sz35 (hi := by omega)) rfl (hp _ _) ?_
          refine WJ_tp 10 rfl (Rd_fieldAddr rfl fo47_3) rfl (hp _ _) ?_
          refine WJ_tk 11 (Rd_load rfl tk3 (v := .int .i64 q.k)) hp ?_ rfl (by kernel_rfl) rfl rfl rfl
          refine WJ_all (rs := [12]) (by kernel_rfl) rfl ?_
          refine WI_one ?_
          refine WI_ac rfl (Ac_call cf11 rfl (hs := Ct.un0 (Xs := [arr a8 c8 2 24 ePr (lentX mkPr q.A.l), arr a9 c9 1 35 eF (lentF q.F.l)]) (lasts_no1 (X := sep [arr a8 c8 2 24 ePr (lentX mkPr q.A.l), arr a9 c9 1 35 eF (lentF q.F.l)]) (ps := q.A.l) (fl := q.F.l) (k0 := q.k) (h8s.pk Has.here) (h9s.pk (Has.there Has.here)) (by omega) (by omega) hm))) rfl rfl rfl rfl ?_
          rintro _ _ ⟨⟨⟩, rfl, hA⟩
          simp only [List.cons_append, List.nil_append] at hA
          replace hA := hA.symm
          subst hA
          refine ⟨(fun _ => subF), ?_⟩
          refine WJ_tp 13 rfl (Rd_move rfl) rfl (hp _ _) ?_
          refine WJ_tp 14 rfl (Rd_ext0 rfl) rfl (hp _ _) ?_
          refine WJ_tp 15 rfl (Rd_ext1 rfl) rfl (hp _ _) ?_
          refine WJ_tp 16 rfl (Rd_assign rfl) rfl (hp _ _) ?_
          refine WJ_tp 17 rfl (Rd_assign rfl) rfl (hp _ _) ?_
          refine WJ_done (by kernel_rfl) ?_
          refine Ps_next hK51 ?_
          refine WC_sr fun K52 hK52 => ?_
          refine WL_r (Rd_fieldAddr rfl fo47_1) rfl ?_
          refine WL_r (Rd_load rfl tk22 (v := q.A.v)) rfl ?_
          refine WL_r (Rd_fieldAddr rfl fo47_2) rfl ?_
          refine WL_r (Rd_load rfl tk34 (v := q.F.v)) rfl ?_
          refine WL_r (Rd_fieldAddr rfl fo47_3) rfl ?_
          refine WL_r (Rd_load rfl tk3 (v := .int .i64 q.k)) rfl ?_
          refine WL_ac (Ac_call cf22 rfl (hs := lasts3_no1 (X := old W) (ps := q.A.l) (fl := q.F.l) (k0 := q.k) hqA hqF (by omega) (by omega) hm)) rfl rfl rfl ?_
          rintro _ _ ⟨⟨⟩, rfl, hA⟩
          simp only [List.cons_append, List.nil_append] at hA
          replace hA := hA.symm
          subst hA
          refine WL_r (Rd_move rfl) rfl ?_
          refine WL_r (Rd_ext0 rfl) rfl ?_
          refine WL_r (Rd_ext1 rfl) rfl ?_
          refine WL_r (Rd_assign rfl) rfl ?_
          refine WL_r (Rd_assign rfl) rfl ?_
          refine WL_end hK52 ?_
          refine WC_region ?_
          refine WL_r (Rd_move rfl) rfl ?_
          refine WL_r (Rd_move rfl) rfl ?_
          refine WL_r (Rd_eqlN (i := 230) (j := 230) rfl rfl) rfl ?_
          refine WL_r (Rd_move rfl) rfl ?_
          refine WL_r (Rd_move rfl) rfl ?_
          refine WL_r (Rd_move rfl) rfl ?_
          refine WL_ac (Ac_call cf13 rfl (hs := sameF_ct (x := 0) NN_0)) rfl rfl rfl ?_
          rintro _ _ ⟨⟨⟩, rfl, hA⟩
          simp only [List.cons_append, List.nil_append] at hA
          replace hA := hA.symm
          subst hA
          refine WL_r (Rd_pickT rfl rfl) rfl ?_
          refine WL_r (Rd_assign rfl) rfl ?_
          refine WL_nil ?_
          refine Ps_wkB (hK22 (s) (hB.up (by omega)))
         ·skip
          refine WC_seq fun K53 hK53 => ?_
          refine WC_draw mix [cl b6 47 (eHQ q)] (fun i => ([2, 2, 2, 2, 2, 2, 2, 2, 2, 2, 2, 2, 1, 2, 2, 2, 2, 2] : List Nat).getD i 0) ?_
          refine WJ_tp 0 rfl (Rd_move rfl) rfl (hp _ _) ?_
          refine WJ_tp 1 rfl (Rd_fieldAddr rfl fo47_1) rfl (hp _ _) ?_
          refine WJ_tk 2 (Rd_load rfl tk22 (v := q.A.v)) hp ?_ rfl (by kernel_rfl) rfl rfl rfl
          refine WJ_tp 3 rfl (Rd_len_sv rfl rfl ud22 (hA := hqA)) rfl (hp _ _) ?_
          refine WJ_tp 4 rfl (Rd_slice_hi q.A.l.length rfl rfl ud22 sz24 (hi := by omega)) rfl (hp _ _) ?_
          refine WJ_tp 5 rfl (Rd_move rfl) rfl (hp _ _) ?_
          refine WJ_tp 6 rfl (Rd_fieldAddr rfl fo47_2) rfl (hp _ _) ?_
          refine WJ_tk 7 (Rd_load rfl tk34 (v := q.F.v)) hp ?_ rfl (by kernel_rfl) rfl rfl rfl
          refine WJ_tp 8 rfl (Rd_len_sv rfl rfl ud34 (hA := hqF)) rfl (hp _ _) ?_
          refine WJ_tp 9 rfl (Rd_slice_hi q.F.l.length rfl rfl ud34 sz35 (hi := by omega)) rfl (hp _ _) ?_
          refine WJ_tp 10 rfl (Rd_fieldAddr rfl fo47_3) rfl (hp _ _) ?_
          refine WJ_tk 11 (Rd_load rfl tk3 (v := .int .i64 q.k)) hp ?_ rfl (by kernel_rfl) rfl rfl rfl
          refine WJ_all (rs := [12]) (by kernel_rfl) rfl ?_
          refine WI_one ?_
          refine WI_ac rfl (Ac_call cf11 rfl (hs := Ct.un0 (Xs := [arr a8 c8 2 24 ePr (lentX mkPr q.A.l), arr a9 c9 1 35 eF (lentF q.F.l)]) (lasts_no2 (X := sep [arr a8 c8 2 24 ePr (lentX mkPr q.A.l), arr a9 c9 1 35 eF (lentF q.F.l)]) (ps := q.A.l) (fl := q.F.l) (k0 := q.k) (h8s.pk Has.here) (h9s.pk (Has.there Has.here)) (by omega) (by omega) hm hg))) rfl rfl rfl rfl ?_
          rintro _ _ ⟨⟨⟩, rfl, hA⟩
          simp only [List.cons_append, List.nil_append] at hA
          replace hA := hA.symm
          subst hA
          refine ⟨(fun _ => subF), ?_⟩
          refine WJ_tp 13 rfl (Rd_move rfl) rfl (hp _ _) ?_
          refine WJ_tp 14 rfl (Rd_ext0 rfl) rfl (hp _ _) ?_
          refine WJ_tp 15 rfl (Rd_ext1 rfl) rfl (hp _ _) ?_
          refine WJ_tp 16 rfl (Rd_assign rfl) rfl (hp _ _) ?_
          refine WJ_tp 17 rfl (Rd_assign rfl) rfl (hp _ _) ?_
          refine WJ_done (by kernel_rfl) ?_
          refine Ps_next hK53 ?_
          refine WC_sr fun K54 hK54 => ?_
          refine WL_r (Rd_fieldAddr rfl fo47_1) rfl ?_
          refine WL_r (Rd_load rfl tk22 (v := q.A.v)) rfl ?_
          refine WL_r (Rd_fieldAddr rfl fo47_2) rfl ?_
          refine WL_r (Rd_load rfl tk34 (v := q.F.v)) rfl ?_
          refine WL_r (Rd_fieldAddr rfl fo47_3) rfl ?_
          refine WL_r (Rd_load rfl tk3 (v := .int .i64 q.k)) rfl ?_
          refine WL_ac (Ac_call cf22 rfl (hs := lasts3_no2 (X := old W) (ps := q.A.l) (fl := q.F.l) (k0 := q.k) hqA hqF (by omega) (by omega) hm hg)) rfl rfl rfl ?_
          rintro _ _ ⟨⟨⟩, rfl, hA⟩
          simp only [List.cons_append, List.nil_append] at hA
          replace hA := hA.symm
          subst hA
          refine WL_r (Rd_move rfl) rfl ?_
          refine WL_r (Rd_ext0 rfl) rfl ?_
          refine WL_r (Rd_ext1 rfl) rfl ?_
          refine WL_r (Rd_assign rfl) rfl ?_
          refine WL_r (Rd_assign rfl) rfl ?_
          refine WL_end hK54 ?_
          refine WC_region ?_
          refine WL_r (Rd_move rfl) rfl ?_
          refine WL_r (Rd_move rfl) rfl ?_
          refine WL_r (Rd_eqlN (i := 230) (j := 230) rfl rfl) rfl ?_
          refine WL_r (Rd_move rfl) rfl ?_
          refine WL_r (Rd_move rfl) rfl ?_
          refine WL_r (Rd_move rfl) rfl ?_
          refine WL_ac (Ac_call cf13 rfl (hs := sameF_ct (x := 0) NN_0)) rfl rfl rfl ?_
          rintro _ _ ⟨⟨⟩, rfl, hA⟩
          simp only [List.cons_append, List.nil_append] at hA
          replace hA := hA.symm
          subst hA
          refine WL_r (Rd_pickT rfl rfl) rfl ?_
          refine WL_r (Rd_assign rfl) rfl ?_
          refine WL_nil ?_
          refine Ps_wkB (hK22 (s) (hB.up (by omega)))
         ·skip
          refine WC_seq fun K55 hK55 => ?_
          refine WC_draw mix [cl b6 47 (eHQ q)] (fun i => ([2, 2, 2, 2, 2, 2, 2, 2, 2, 2, 2, 2, 1, 2, 2, 2, 2, 2] : List Nat).getD i 0) ?_
          refine WJ_tp 0 rfl (Rd_move rfl) rfl (hp _ _) ?_
          refine WJ_tp 1 rfl (Rd_fieldAddr rfl fo47_1) rfl (hp _ _) ?_
          refine WJ_tk 2 (Rd_load rfl tk22 (v := q.A.v)) hp ?_ rfl (by kernel_rfl) rfl rfl rfl
          refine WJ_tp 3 rfl (Rd_len_sv rfl rfl ud22 (hA := hqA)) rfl (hp _ _) ?_
          refine WJ_tp 4 rfl (Rd_slice_hi q.A.l.length rfl rfl ud22 sz24 (hi := by omega)) rfl (hp _ _) ?_
          refine WJ_tp 5 rfl (Rd_move rfl) rfl (hp _ _) ?_
          refine WJ_tp 6 rfl (Rd_fieldAddr rfl fo47_2) rfl (hp _ _) ?_
          refine WJ_tk 7 (Rd_load rfl tk34 (v := q.F.v)) hp ?_ rfl (by kernel_rfl) rfl rfl rfl
          refine WJ_tp 8 rfl (Rd_len_sv rfl rfl ud34 (hA := hqF)) rfl (hp _ _) ?_
          refine WJ_tp 9 rfl (Rd_slice_hi q.F.l.length rfl rfl ud34 sz35 (hi := by omega)) rfl (hp _ _) ?_
          refine WJ_tp 10 rfl (Rd_fieldAddr rfl fo47_3) rfl (hp _ _) ?_
          refine WJ_tk 11 (Rd_load rfl tk3 (v := .int .i64 q.k)) hp ?_ rfl (by kernel_rfl) rfl rfl rfl
          refine WJ_all (rs := [12]) (by kernel_rfl) rfl ?_
          refine WI_one ?_
          refine WI_ac rfl (Ac_call cf11 rfl (hs := Ct.un0 (Xs := [arr a8 c8 2 24 ePr (lentX mkPr q.A.l), arr a9 c9 1 35 eF (lentF q.F.l)]) (lasts_no3 (X := sep [arr a8 c8 2 24 ePr (lentX mkPr q.A.l), arr a9 c9 1 35 eF (lentF q.F.l)]) (ps := q.A.l) (fl := q.F.l) (k0 := q.k) (h8s.pk Has.here) (h9s.pk (Has.there Has.here)) (by omega) (by omega) hm hg ho))) rfl rfl rfl rfl ?_
          rintro _ _ ⟨⟨⟩, rfl, hA⟩
          simp only [List.cons_append, List.nil_append] at hA
          replace hA := hA.symm
          subst hA
          refine ⟨(fun _ => subF), ?_⟩
          refine WJ_tp 13 rfl (Rd_move rfl) rfl (hp _ _) ?_
          refine WJ_tp 14 rfl (Rd_ext0 rfl) rfl (hp _ _) ?_
          refine WJ_tp 15 rfl (Rd_ext1 rfl) rfl (hp _ _) ?_
          refine WJ_tp 16 rfl (Rd_assign rfl) rfl (hp _ _) ?_
          refine WJ_tp 17 rfl (Rd_assign rfl) rfl (hp _ _) ?_
          refine WJ_done (by kernel_rfl) ?_
          refine Ps_next hK55 ?_
          refine WC_sr fun K56 hK56 => ?_
          refine WL_r (Rd_fieldAddr rfl fo47_1) rfl ?_
          refine WL_r (Rd_load rfl tk22 (v := q.A.v)) rfl ?_
          refine WL_r (Rd_fieldAddr rfl fo47_2) rfl ?_
          refine WL_r (Rd_load rfl tk34 (v := q.F.v)) rfl ?_
          refine WL_r (Rd_fieldAddr rfl fo47_3) rfl ?_
          refine WL_r (Rd_load rfl tk3 (v := .int .i64 q.k)) rfl ?_
          refine WL_ac (Ac_call cf22 rfl (hs := lasts3_no3 (X := old W) (ps := q.A.l) (fl := q.F.l) (k0 := q.k) hqA hqF (by omega) (by omega) hm hg ho)) rfl rfl rfl ?_
          rintro _ _ ⟨⟨⟩, rfl, hA⟩
          simp only [List.cons_append, List.nil_append] at hA
          replace hA := hA.symm
          subst hA
          refine WL_r (Rd_move rfl) rfl ?_
          refine WL_r (Rd_ext0 rfl) rfl ?_
          refine WL_r (Rd_ext1 rfl) rfl ?_
          refine WL_r (Rd_assign rfl) rfl ?_
          refine WL_r (Rd_assign rfl) rfl ?_
          refine WL_end hK56 ?_
          refine WC_region ?_
          refine WL_r (Rd_move rfl) rfl ?_
          refine WL_r (Rd_move rfl) rfl ?_
          refine WL_r (Rd_eqlN (i := 231) (j := 231) rfl rfl) rfl ?_
          refine WL_r (Rd_move rfl) rfl ?_
          refine WL_r (Rd_move rfl) rfl ?_
          refine WL_r (Rd_move rfl) rfl ?_
          refine WL_ac (Ac_call cf13 rfl (hs := sameF_ct (x := 0) NN_0)) rfl rfl rfl ?_
          rintro _ _ ⟨⟨⟩, rfl, hA⟩
          simp only [List.cons_append, List.nil_append] at hA
          replace hA := hA.symm
          subst hA
          refine WL_r (Rd_pickT rfl rfl) rfl ?_
          refine WL_r (Rd_assign rfl) rfl ?_
          refine WL_nil ?_
          refine Ps_wkB (hK22 (s) (hB.up (by omega)))
         ·skip
          refine WC_seq fun K57 hK57 => ?_
          refine WC_draw mix [cl b6 47 (eHQ q)] (fun i => ([2, 2, 2, 2, 2, 2, 2, 2, 2, 2, 2, 2, 1, 2, 2, 2, 2, 2] : List Nat).getD i 0) ?_
          refine WJ_tp 0 rfl (Rd_move rfl) rfl (hp _ _) ?_
          refine WJ_tp 1 rfl (Rd_fieldAddr rfl fo47_1) rfl (hp _ _) ?_
          refine WJ_tk 2 (Rd_load rfl tk22 (v := q.A.v)) hp ?_ rfl (by kernel_rfl) rfl rfl rfl
          refine WJ_tp 3 rfl (Rd_len_sv rfl rfl ud22 (hA := hqA)) rfl (hp _ _) ?_
          refine WJ_tp 4 rfl (Rd_slice_hi q.A.l.length rfl rfl ud22 sz24 (hi := by omega)) rfl (hp _ _) ?_
          refine WJ_tp 5 rfl (Rd_move rfl) rfl (hp _ _) ?_
          refine WJ_tp 6 rfl (Rd_fieldAddr rfl fo47_2) rfl (hp _ _) ?_
          refine WJ_tk 7 (Rd_load rfl tk34 (v := q.F.v)) hp ?_ rfl (by kernel_rfl) rfl rfl rfl
          refine WJ_tp 8 rfl (Rd_len_sv rfl rfl ud34 (hA := hqF)) rfl (hp _ _) ?_
          refine WJ_tp 9 rfl (Rd_slice_hi q.F.l.length rfl rfl ud34 sz35 (hi := by omega)) rfl (hp _ _) ?_
          refine WJ_tp 10 rfl (Rd_fieldAddr rfl fo47_3) rfl (hp _ _) ?_
          refine WJ_tk 11 (Rd_load rfl tk3 (v := .int .i64 q.k)) hp ?_ rfl (by kernel_rfl) rfl rfl rfl
          refine WJ_all (rs := [12]) (by kernel_rfl) rfl ?_
          refine WI_one ?_
          refine WI_ac rfl (Ac_call cf11 rfl (hs := Ct.un0 (Xs := [arr a8 c8 2 24 ePr (lentX mkPr q.A.l), arr a9 c9 1 35 eF (lentF q.F.l)]) (lasts_ok (X := sep [arr a8 c8 2 24 ePr (lentX mkPr q.A.l), arr a9 c9 1 35 eF (lentF q.F.l)]) (ps := q.A.l) (fl := q.F.l) (k0 := q.k) (h8s.pk Has.here) (h9s.pk (Has.there Has.here)) (by omega) (by omega) hm hg hqw ho))) rfl rfl rfl rfl ?_
          rintro _ _ ⟨⟨⟩, rfl, hA⟩
          simp only [List.cons_append, List.nil_append] at hA
          replace hA := hA.symm
          subst hA
          refine ⟨(fun _ => subF), ?_⟩
          refine WJ_tp 13 rfl (Rd_move rfl) rfl (hp _ _) ?_
          refine WJ_tp 14 rfl (Rd_ext0 rfl) rfl (hp _ _) ?_
          refine WJ_tp 15 rfl (Rd_ext1 rfl) rfl (hp _ _) ?_
          refine WJ_tp 16 rfl (Rd_assign rfl) rfl (hp _ _) ?_
          refine WJ_tp 17 rfl (Rd_assign rfl) rfl (hp _ _) ?_
          refine WJ_done (by kernel_rfl) ?_
          refine Ps_next hK57 ?_
          refine WC_sr fun K58 hK58 => ?_
          refine WL_r (Rd_fieldAddr rfl fo47_1) rfl ?_
          refine WL_r (Rd_load rfl tk22 (v := q.A.v)) rfl ?_
          refine WL_r (Rd_fieldAddr rfl fo47_2) rfl ?_
          refine WL_r (Rd_load rfl tk34 (v := q.F.v)) rfl ?_
          refine WL_r (Rd_fieldAddr rfl fo47_3) rfl ?_
          refine WL_r (Rd_load rfl tk3 (v := .int .i64 q.k)) rfl ?_
          refine WL_ac (Ac_call cf22 rfl (hs := lasts3_ok (X := old W) (ps := q.A.l) (fl := q.F.l) (k0 := q.k) hqA hqF (by omega) (by omega) hm hg hqw ho)) rfl rfl rfl ?_
          rintro _ _ ⟨⟨⟩, rfl, hA⟩
          simp only [List.cons_append, List.nil_append] at hA
          replace hA := hA.symm
          subst hA
          refine WL_r (Rd_move rfl) rfl ?_
          refine WL_r (Rd_ext0 rfl) rfl ?_
          refine WL_r (Rd_ext1 rfl) rfl ?_
          refine WL_r (Rd_assign rfl) rfl ?_
          refine WL_r (Rd_assign rfl) rfl ?_
          refine WL_end hK58 ?_
          refine WC_region ?_
          refine WL_r (Rd_move rfl) rfl ?_
          refine WL_r (Rd_move rfl) rfl ?_
          refine WL_r (Rd_eqlN (i := 0) (j := 0) rfl rfl) rfl ?_
          refine WL_r (Rd_move rfl) rfl ?_
          refine WL_r (Rd_move rfl) rfl ?_
          refine WL_r (Rd_move rfl) rfl ?_
          refine WL_ac (Ac_call cf13 rfl (hs := sameF_ct (x := lastP (lookP q.A.l) q.F.l q.k) (last_NN (oddsOk_U hqw ho)))) rfl rfl rfl ?_
          rintro _ _ ⟨⟨⟩, rfl, hA⟩
          simp only [List.cons_append, List.nil_append] at hA
          replace hA := hA.symm
          subst hA
          refine WL_r (Rd_pickT rfl rfl) rfl ?_
          refine WL_r (Rd_assign rfl) rfl ?_
          refine WL_nil ?_
          refine Ps_wkB (hK22 (s) (hB.up (by omega)))
     ·rintro s2 hB2
      simp only [List.cons_append, List.nil_append]
      refine Ps_next hK20 ?_
      refine WC_seq fun K59 hK59 => ?_
      refine WC_sr fun K60 hK60 => ?_
      refine WL_r (Rd_move rfl) rfl ?_
      refine WL_r (Rd_not rfl) rfl ?_
      refine WL_r (Rd_move rfl) rfl ?_
      refine WL_r (Rd_move rfl) rfl ?_
      refine WL_r (Rd_fieldAddr rfl fo47_1) rfl ?_
      refine WL_r (Rd_load rfl tk22 (v := q.A.v)) rfl ?_
      refine WL_ac (Ac_call cf23 rfl (hs := Ct.un0 (Xs := [arr a8 c8 2 24 ePr (lentX mkPr q.A.l), old W]) (keptP_ct (X := sep [arr a8 c8 2 24 ePr (lentX mkPr q.A.l), old W]) (l := (lentX mkPr q.A.l)) (l' := q.A.l) (hS := h8.pk hasA) (hS' := hqA.pk hasA)))) rfl rfl rfl ?_
      rintro _ _ ⟨⟨⟩, rfl, hA⟩
      simp only [List.cons_append, List.nil_append] at hA
      replace hA := hA.symm
      subst hA
      rw [decide_eq_true (rfl : (lentX mkPr q.A.l) = (lentX mkPr q.A.l))]
      refine WL_r (Rd_not rfl) rfl ?_
      refine WL_r (Rd_pickF rfl rfl) rfl ?_
      refine WL_r (Rd_move rfl) rfl ?_
      refine WL_r (Rd_move rfl) rfl ?_
      refine WL_r (Rd_fieldAddr rfl fo47_2) rfl ?_
      refine WL_r (Rd_load rfl tk34 (v := q.F.v)) rfl ?_
      refine WL_ac (Ac_call cf24 rfl (hs := Ct.un0 (Xs := [arr a9 c9 1 35 eF (lentF q.F.l), old W]) (keptF_ct (X := sep [arr a9 c9 1 35 eF (lentF q.F.l), old W]) (l := q.F.l) (h9.pk hasA) (hqF.pk hasA) (by omega)))) rfl rfl rfl ?_
      rintro _ _ ⟨⟨⟩, rfl, hA⟩
      simp only [List.cons_append, List.nil_append] at hA
      replace hA := hA.symm
      subst hA
      refine WL_r (Rd_not rfl) rfl ?_
      refine WL_r (Rd_pickF rfl rfl) rfl ?_
      refine WL_end hK60 ?_
      refine WC_condF rfl ?_
      refine WC_skip ?_
      refine Ps_next hK59 ?_
      refine WC_sr fun K61 hK61 => ?_
      refine WL_r (Rd_move rfl) rfl ?_
      refine WL_ac (Ac_call cf25 rfl (hs := overP_ct (l := (lentX mkPr q.A.l)) (a := a8) (cap := c8))) rfl rfl rfl ?_
      rintro _ _ ⟨⟨⟩, rfl, hA⟩
      simp only [List.cons_append, List.nil_append] at hA
      replace hA := hA.symm
      subst hA
      refine WL_end hK61 ?_
      refine WC_sr fun K62 hK62 => ?_
      refine WL_r (Rd_assign rfl) rfl ?_
      refine WL_end hK62 ?_
      refine WC_block ?_
      refine WC_loopK (σ := Nat × (List Nat)) (fun ⟨j, fl2⟩ => [(25, .int .i64 ((j : Nat) : Int))]) (fun ⟨j, fl2⟩ => [arr a9 c9 1 35 eF fl2]) (fun ⟨j, fl2⟩ => j ≤ (lentF q.F.l).length ∧ fl2.length = (lentF q.F.l).length) (fun ⟨j, fl2⟩ => (lentF q.F.l).length - j) ⟨0, (lentF q.F.l)⟩ [0, 2, 3, 4, 5, 6, 7, 8, 9, 10, 11, 12, 13, 14, 15, 16, 17, 18, 19, 20, 21, 22, 23, 24, 26, 29, 30, 31, 32, 33, 34, 35, 36, 37, 38, 39, 40, 41, 42, 43, 44, 45, 46, 47, 48, 49, 50, 51, 52, 53, 54, 55, 56, 57, 58, 59, 60, 61, 62, 63, 64, 65, 66, 67, 68, 69, 70, 71, 72, 73, 74, 75, 76, 77, 78, 79, 80, 81, 82, 83, 84, 85, 86, 87, 88, 89, 90, 91, 92, 93, 94, 95, 96, 97, 98, 99, 100, 101, 102, 103, 104, 105, 106, 107, 108, 109, 110, 111, 112, 113, 114, 115, 116, 117, 118, 119, 120, 121, 122, 123, 124, 125, 126, 127, 128, 129, 130, 131, 132, 133, 134, 135, 136, 137, 138, 139, 140, 141, 142, 143, 144, 145, 146, 147, 148, 149, 150, 151, 152, 153, 154, 155, 156, 157, 158, 159, 160, 161, 162, 163, 164, 165, 166, 167, 168, 169, 170, 171, 172, 173, 174, 175, 176, 177, 178, 179, 180, 181, 182, 183, 184, 185, 186, 187, 188, 189, 190, 191, 192, 193, 194, 205, 206, 207, 208, 209, 210, 211, 212, 213, 214, 215, 216, 217, 218, 219, 220, 221, 222] kpA (by (try dsimp only); repeat (first | with_reducible exact Gv.nil | (with_reducible apply Gv.cons; · (repeat (first | with_reducible exact Ext.here | with_reducible apply Ext.there))))) ?_ ?_ Sub.refl ?_
      ·exact ⟨Nat.zero_le _, rfl⟩
      ·(try dsimp only); exact (Wk.cons lkA Wk.nil)
      ·rintro ⟨j, fl2⟩ ⟨hj, hfl2⟩ K63 hK63
       simp only [List.cons_append, List.nil_append]
       refine WC_seq fun K64 hK64 => ?_
       refine WC_sr fun K65 hK65 => ?_
       refine WL_r (Rd_move rfl) rfl ?_
       refine WL_r (Rd_move rfl) rfl ?_
       refine WL_r (Rd_len rfl rfl ud34) rfl ?_
       refine WL_r (Rd_lssN rfl rfl) rfl ?_
       refine WL_end hK65 ?_
       refine WC_cond rfl (fun hc9 => ?_) (fun hc9 => ?_)
       ·try simp only [dz, ne_eq] at hc9
        refine WC_some (a := a9) hasA (by omega) (fun gb hgb hcp => ?_)
        subst hgb
        obtain ⟨y, hy⟩ := at_i (l := fl2) (i := j) (by omega)
        refine WC_skip ?_
        refine Ps_next hK64 ?_
        refine WC_seq fun K66 hK66 => ?_
        refine WC_block ?_
        refine WC_region ?_
        refine WL_r (Rd_move rfl) rfl ?_
        refine WL_r (Rd_move rfl) rfl ?_
        refine WL_r (Rd_index j rfl rfl ud34 sz35 (hj := by omega)) rfl ?_
        refine WL_ac0 (Ac_store_arr 4617315517961601024 rfl rfl sz35 (i := j) (j := 0) (hl := hy)) rfl rfl ?_
        rintro _ _ rfl
        refine WL_nil ?_
        refine Ps_next hK66 ?_
        refine WC_region ?_
        refine WL_r (Rd_move rfl) rfl ?_
        refine WL_r (Rd_addN (j := 1) rfl rfl) rfl ?_
        refine WL_r (Rd_assign rfl) rfl ?_
        refine WL_nil ?_
        refine Ps_wkB (hK63 ⟨j + 1, fl2.set j 4617315517961601024⟩ (⟨by (try dsimp only); omega, by (try dsimp only); rw [List.length_set]; exact hfl2⟩) (by (try dsimp only); omega))
       ·try simp only [dz, ne_eq] at hc9
        refine WC_exit ?_
        refine Ps_next hK16 ?_
        refine WC_region ?_
        refine WL_r (Rd_move rfl) rfl ?_
        refine WL_r (Rd_addN (j := 1) rfl rfl) rfl ?_
        refine WL_r (Rd_assign rfl) rfl ?_
        refine WL_nil ?_
        refine Ps_wkB (hK13 ⟨k + 1, s2⟩ (⟨by (try dsimp only); omega, hB2⟩) (by (try dsimp only); omega))
    ·try simp only [dz, ne_eq] at hc2
     refine WC_exit ?_
     refine Ps_next hK10 ?_
     refine WC_region ?_
     refine WL_r (Rd_move rfl) rfl ?_
     refine WL_r (Rd_addN (j := 1) rfl rfl) rfl ?_
     refine WL_r (Rd_assign rfl) rfl ?_
     refine WL_nil ?_
     refine Ps_wkB (hK7 ⟨i + 1, s⟩ (⟨by (try dsimp only); omega, hB.up (by (try dsimp only); omega)⟩) (by (try dsimp only); omega))
  ·try simp only [dz, ne_eq] at hc1
   have hlD := hB.lenD
   have hlp := hB.lD
   refine WC_fact (fun w h => arr_facts (a := s.pa) (cap := s.pc) (e := 1) (T := 22) (f := ePG) (l := s.ps) hasA h) (fun hSpf => ?_)
   have hSp : Sv [arr s.pa s.pc 1 22 ePG s.ps] (sl s.pa s.ps.length s.pc) 1 ePG s.ps (s.pa.map fun g => ⟨g, 0, none⟩) s.pc := Sv_own' encPG hSpf.1 hSpf.2
   refine WC_fact (fun w h => arr_facts (a := s.wa) (cap := s.wc) (e := 1) (T := 22) (f := ePG) (l := s.ws) hasA h) (fun hSwf => ?_)
   have hSw : Sv [arr s.wa s.wc 1 22 ePG s.ws] (sl s.wa s.ws.length s.wc) 1 ePG s.ws (s.wa.map fun g => ⟨g, 0, none⟩) s.wc := Sv_own' encPG hSwf.1 hSwf.2
   refine WC_exit ?_
   refine Ps_next hK5 ?_
   refine WC_seq fun K67 hK67 => ?_
   refine WC_sr fun K68 hK68 => ?_
   refine WL_r (Rd_assign rfl) rfl ?_
   refine WL_end hK68 ?_
   refine WC_block ?_
   refine WC_loopK (σ := Nat) (fun j => [(26, .int .i64 ((j : Nat) : Int))]) (fun j => []) (fun j => j ≤ s.ps.length) (fun j => s.ps.length - j) (0) [3, 4, 221, 222] kpA (by (try dsimp only); repeat (first | with_reducible exact Gv.nil | (with_reducible apply Gv.cons; · (repeat (first | with_reducible exact Ext.here | with_reducible apply Ext.there))))) ?_ ?_ Sub.refl ?_
   ·exact Nat.zero_le _
   ·(try dsimp only); exact (Wk.cons lkA Wk.nil)
   ·rintro j hj K69 hK69
    simp only [List.cons_append, List.nil_append]
    refine WC_seq fun K70 hK70 => ?_
    refine WC_sr fun K71 hK71 => ?_
    refine WL_r (Rd_move rfl) rfl ?_
    refine WL_r (Rd_move rfl) rfl ?_
    refine WL_r (Rd_len rfl rfl ud45) rfl ?_
    refine WL_r (Rd_lssN rfl rfl) rfl ?_
    refine WL_end hK71 ?_
    refine WC_cond rfl (fun hc10 => ?_) (fun hc10 => ?_)
    ·try simp only [dz, ne_eq] at hc10
     obtain ⟨p, hpp⟩ := at_i (l := s.ps) (i := j) (by omega)
     obtain ⟨p2, hp2⟩ := at_i (l := s.ws) (i := j) (by omega)
     have hpb := (hB.dp p (List.mem_of_getElem? hpp)).2.2
     refine WC_skip ?_
     refine Ps_next hK70 ?_
     refine WC_seq fun K72 hK72 => ?_
     refine WC_block ?_
     refine WC_seq fun K73 hK73 => ?_
     refine WC_drawA mix (fun i => ([2, 2, 2, 2, 2, 2, 2, 2, 1, 2] : List Nat).getD i 0) ?_
     refine WJ_tp 0 rfl (Rd_move rfl) rfl (hp _ _) ?_
     refine WJ_tp 1 rfl (Rd_move rfl) rfl (hp _ _) ?_
     refine WJ_tp 2 rfl (Rd_index_sv j rfl rfl ud45 sz22 (hA := hSp) (hi := by omega)) rfl (hp _ _) ?_
     refine WJ_tk 3 (Rd_load_sv (f := ePG) (i := j) (j := 0) (u := sl p.a p.l.length p.cap) rfl tk22 (hA := hSp) (hl := hpp)) hp ?_ rfl (by kernel_rfl) rfl rfl rfl
     refine WJ_tp 4 rfl (Rd_move rfl) rfl (hp _ _) ?_
     refine WJ_tp 5 rfl (Rd_move rfl) rfl (hp _ _) ?_
     refine WJ_tp 6 rfl (Rd_index_sv j rfl rfl ud45 sz22 (hA := hSw) (hi := by omega)) rfl (hp _ _) ?_
     refine WJ_tk 7 (Rd_load_sv (f := ePG) (i := j) (j := 0) (u := sl p2.a p2.l.length p2.cap) rfl tk22 (hA := hSw) (hl := hp2)) hp ?_ rfl (by kernel_rfl) rfl rfl rfl
     refine WJ_all (rs := [8]) (by kernel_rfl) rfl ?_
     refine WI_one ?_
     refine WI_ac rfl (Ac_call cf26 rfl (hs := Ct.un0 (Xs := [star (FPG 24 2 ePr) s.ps, star (FPG 24 2 ePr) s.ws]) (sameP_ct (X := sep [star (FPG 24 2 ePr) s.ps, star (FPG 24 2 ePr) s.ws]) (l := p.l) (l' := p2.l) (hS := (Rd_ptP hB.dp hpp).pk hasA) (hS' := (Rd_ptP hB.dw hp2).pk hasA)))) rfl rfl rfl rfl ?_
     rintro _ _ ⟨⟨⟩, rfl, hA⟩
     simp only [List.cons_append, List.nil_append] at hA
     replace hA := hA.symm
     subst hA
     rw [decide_eq_true (hB.atD hpp hp2)]
     refine ⟨(fun _ => subF), ?_⟩
     refine WJ_tp 9 rfl (Rd_not rfl) rfl (hp _ _) ?_
     refine WJ_done (by kernel_rfl) ?_
     refine Ps_next hK73 ?_
     refine WC_condF rfl ?_
     refine WC_skip ?_
     refine Ps_next hK72 ?_
     refine WC_region ?_
     refine WL_r (Rd_move rfl) rfl ?_
     refine WL_r (Rd_addN (j := 1) rfl rfl) rfl ?_
     refine WL_r (Rd_assign rfl) rfl ?_
     refine WL_nil ?_
     refine Ps_wkB (hK69 (j + 1) (by omega) (by omega))
    ·try simp only [dz, ne_eq] at hc10
     refine WC_exit ?_
     refine Ps_next hK67 ?_
     refine WC_sr fun K74 hK74 => ?_
     refine WL_r (Rd_move rfl) rfl ?_
     refine WL_ac (Ac_call cf27 rfl (hs := apartP_ct (X := arr s.pa s.pc 1 22 ePG s.ps) (ps := s.ps) (hS := hSp) (hn := by omega) (hb := fun p h => by have := (hB.dp p h).2.2; omega))) rfl rfl rfl ?_
     rintro _ _ ⟨⟨⟩, rfl, hA⟩
     simp only [List.cons_append, List.nil_append] at hA
     replace hA := hA.symm
     subst hA
     refine WL_r (Rd_assign rfl) rfl ?_
     refine WL_end hK74 ?_
     refine WC_ret ?_
     exact hret.gf () (Rs1 rfl rfl)
end Go.Proofs.Ytilmiikfjcdllaa
