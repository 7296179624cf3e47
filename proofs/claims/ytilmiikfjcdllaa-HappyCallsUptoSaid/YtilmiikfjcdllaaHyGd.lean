/-
  Contracts of functions that the claim reaches, or the logic and the plain laws that they rest on, or the row over them. (Conditions: none beyond the statement.)
-/
import Derived.Test.YtilmiikfjcdllaaHyGc
import Derived.Test.YtilmiikfjcdllaaHyLa
import Derived.Test.YtilmiikfjcdllaaLibE
import Derived.Test.YtilmiikfjcdllaaLibA
set_option linter.all false
namespace Go.Proofs.Ytilmiikfjcdllaa
open Go.RowKit Go.SL Go.ShM Go.HyM Go.Fl Go.SvM
set_option maxHeartbeats 1000000
set_option maxRecDepth 20000
set_option linter.all false
theorem cf38 : cfn Try.prog 38 = true := by kernel_rfl
theorem cf53 : cfn Try.prog 53 = true := by kernel_rfl
theorem m1_ct {b9 : Nat} {p q : Pr}  : Ct Try.prog 38 [.agg (ePr q).toArray, .pointer (some ⟨b9, 0, none⟩)] [cl b9 24 (ePr p)] (fun _ : Unit => .bool (delB p q)) (fun _ => [cl b9 24 (ePr p)]) := by
 refine Ct_body (n := 16) Try.func38 rfl rfl rfl fun F w0 Q hret hnorm hp => ?_
 change WC _ _ _ _ _ _ _ (_ :: F)
 refine WC_sr fun K1 hK1 => ?_
 refine WL_ac (Ac_box (xs := ePr q) rfl rfl) rfl rfl rfl ?_
 rintro _ _ ⟨b2, rfl, rfl⟩
 refine WL_r (Rd_assign rfl) rfl ?_
 refine WL_end hK1 ?_
 refine WC_sr fun K2 hK2 => ?_
 refine WL_r (Rd_fieldAddr rfl fo24_0) rfl ?_
 refine WL_r (Rd_load rfl tk3 (v := .int .i64 q.1)) rfl ?_
 refine WL_r (Rd_fieldAddr rfl fo24_0) rfl ?_
 refine WL_r (Rd_load rfl tk3 (v := .int .i64 p.1)) rfl ?_
 refine WL_r (Rd_leq rfl rfl) rfl ?_
 refine WL_r (Rd_move rfl) rfl ?_
 refine WL_bool 9 rfl (fun hg3 => ?_) (fun hg3 => ?_)
 ·try simp only [dz, ne_eq] at hg3
  refine WL_skip rfl rfl rfl ?_
  refine WL_skip rfl rfl rfl ?_
  refine WL_skip rfl rfl rfl ?_
  refine WL_skip rfl rfl rfl ?_
  refine WL_skip rfl rfl rfl ?_
  refine WL_r (Rd_pickT rfl rfl) rfl ?_
  refine WL_r (Rd_assign rfl) rfl ?_
  refine WL_end hK2 ?_
  refine WC_ret ?_
  exact hret.gfE () (Rs1 rfl rfl) (by unfold delB; first | (simp_all; done) | (congr 1; grind))
 ·try simp only [dz, ne_eq] at hg3
  refine WL_r (Rd_fieldAddr rfl fo24_1) rfl ?_
  refine WL_r (Rd_load rfl tk3 (v := .int .i64 q.2)) rfl ?_
  refine WL_r (Rd_fieldAddr rfl fo24_1) rfl ?_
  refine WL_r (Rd_load rfl tk3 (v := .int .i64 p.2)) rfl ?_
  refine WL_r (Rd_eql rfl rfl) rfl ?_
  refine WL_r (Rd_pickF rfl rfl) rfl ?_
  refine WL_r (Rd_assign rfl) rfl ?_
  refine WL_end hK2 ?_
  refine WC_ret ?_
  exact hret.gfE () (Rs1 rfl rfl) (by unfold delB; first | (simp_all; done) | (congr 1; grind))

theorem idxP_ct {X : Asn} {v : Value} {l : List Pr} {ao : Option Addr} {cap b9 : Nat} {p : Pr} (hS : Sv [X] v 2 ePr l ao cap) (hn : l.length ≤ 900000000000) (hpl : p ∈ l) : Ct Try.prog 53 [v, .func (.func 38) #[] #[.pointer (some ⟨b9, 0, none⟩)]] [X, cl b9 24 (ePr p)] (fun g : {i : Nat // FstD l p i} => .int .i64 ((g.1 : Nat) : Int)) (fun g => [X, cl b9 24 (ePr p)]) := by
 refine Ct_body (n := 19) Try.func53 rfl rfl rfl fun F w0 Q hret hnorm hp => ?_
 change WC _ _ _ _ _ _ _ (_ :: _ :: F)
 refine WC_sr fun K1 hK1 => ?_
 refine WL_r (Rd_assign rfl) rfl ?_
 refine WL_end hK1 ?_
 refine WC_seq fun K2 hK2 => ?_
 refine WC_sr fun K3 hK3 => ?_
 refine WL_r (Rd_move rfl) rfl ?_
 refine WL_r (Rd_len_sv rfl rfl ud22) rfl ?_
 refine WL_r (Rd_move rfl) rfl ?_
 refine WL_end hK3 ?_
 refine WC_block ?_
 refine WC_loopK (σ := Nat) (fun i => [(8, .int .i64 ((i : Nat) : Int))]) (fun i => []) (fun i => i ≤ l.length ∧ (∀ y ∈ l.take i, delB p y = false)) (fun i => l.length - i) (0) [0, 1, 7] kpA (by (try dsimp only); repeat (first | with_reducible exact Gv.nil | (with_reducible apply Gv.cons; · (repeat (first | with_reducible exact Ext.here | with_reducible apply Ext.there))))) ?_ ?_ Sub.refl ?_
 ·exact ⟨Nat.zero_le _, fun y h => by simp at h⟩
 ·(try dsimp only); exact (Wk.cons lkA Wk.nil)
 ·rintro i ⟨hi, hal⟩ K4 hK4
  simp only [List.cons_append, List.nil_append]
  refine WC_sr fun K5 hK5 => ?_
  refine WL_r (Rd_lssN rfl rfl) rfl ?_
  refine WL_end hK5 ?_
  refine WC_seq fun K6 hK6 => ?_
  refine WC_cond rfl (fun hc0 => ?_) (fun hc0 => ?_)
  ·try simp only [dz, ne_eq] at hc0
   obtain ⟨y, hy⟩ : ∃ y, l[i]? = some y := ⟨_, List.getElem?_eq_getElem (by omega)⟩
   refine WC_skip ?_
   refine Ps_next hK6 ?_
   refine WC_seq fun K7 hK7 => ?_
   refine WC_block ?_
   refine WC_sr fun K8 hK8 => ?_
   refine WL_r (Rd_move rfl) rfl ?_
   refine WL_r (Rd_assign rfl) rfl ?_
   refine WL_end hK8 ?_
   refine WC_sr fun K9 hK9 => ?_
   refine WL_r (Rd_move rfl) rfl ?_
   refine WL_r (Rd_move rfl) rfl ?_
   refine WL_r (Rd_move rfl) rfl ?_
   refine WL_r (Rd_index_sv i rfl rfl ud22 sz24 (hA := hS) (hi := by omega)) rfl ?_
   refine WL_r (Rd_loadg_sv (f := ePr) (i := i) (y := y) rfl tk24 (hA := hS) (hl := hy)) rfl ?_
   refine WL_ac (Ac_callv rfl cf38 rfl rfl rfl rfl (hs := m1_ct (b9 := b9) (p := p) (q := y))) rfl rfl rfl ?_
   rintro _ _ ⟨⟨⟩, rfl, hA⟩
   simp only [List.cons_append, List.nil_append] at hA
   replace hA := hA.symm
   subst hA
   refine WL_end hK9 ?_
   refine WC_cond rfl (fun hc1 => ?_) (fun hc1 => ?_)
   ·try simp only [dz, ne_eq] at hc1
    refine WC_sr fun K10 hK10 => ?_
    refine WL_r (Rd_move rfl) rfl ?_
    refine WL_r (Rd_assign rfl) rfl ?_
    refine WL_end hK10 ?_
    refine WC_ret ?_
    exact hret.gf ⟨i, by omega, hal, fun z hz => by rw [hy] at hz; cases hz; first | assumption | simp_all⟩ (Rs1 rfl rfl)
   ·try simp only [dz, ne_eq] at hc1
    refine WC_skip ?_
    refine Ps_next hK7 ?_
    refine WC_region ?_
    refine WL_r (Rd_addN (j := 1) rfl rfl) rfl ?_
    refine WL_r (Rd_move rfl) rfl ?_
    refine WL_nil ?_
    refine Ps_wkB (hK4 (i + 1) (⟨by omega, del_snoc hy hal (by first | assumption | simp_all)⟩) (by omega))
  ·try simp only [dz, ne_eq] at hc0
   obtain rfl : i = l.length := by omega
   rw [List.take_length] at hal
   exact absurd (hal p hpl) (by rw [delB_self]; decide)

theorem delP_ct {l : List Pr} {gb cap b9 : Nat} {p : Pr} (hpl : p ∈ l) (hn : l.length ≤ 100000000) : Ct Try.prog 36 [sl (some gb) l.length cap, .func (.func 38) #[] #[.pointer (some ⟨b9, 0, none⟩)]] [arr (some gb) cap 2 24 ePr l, cl b9 24 (ePr p)] (fun _ : Unit => sl (some gb) (leftP l p).length cap) (fun _ => [arr (some gb) cap 2 24 ePr (leftP l p), cl b9 24 (ePr p)]) := by
 refine Ct_body (n := 42) Try.func36 rfl rfl rfl fun F w0 Q hret hnorm hp => ?_
 change WC _ _ _ _ _ _ _ (_ :: _ :: F)
 refine WC_sr fun K1 hK1 => ?_
 refine WL_r (Rd_assign (v := sl none 0 0) rfl) rfl ?_
 refine WL_end hK1 ?_
 refine WC_sr fun K2 hK2 => ?_
 refine WL_r (Rd_move rfl) rfl ?_
 refine WL_r (Rd_move rfl) rfl ?_
 refine WL_fact (fun w h => arr_facts (a := (some gb)) (cap := cap) (e := 2) (T := 24) (f := ePr) (l := l) hasA h) (fun hLf => ?_)
 have hL : Sv [arr (some gb) cap 2 24 ePr l] (sl (some gb) (l).length cap) 2 ePr l (((some gb) : Option Nat).map fun g => ⟨g, 0, none⟩) cap := Sv_own' encPr hLf.1 hLf.2
 refine WL_ac (Ac_call cf53 rfl (hs := idxP_ct (X := arr (some gb) cap 2 24 ePr l) (l := l) (b9 := b9) (p := p) hL (by omega) hpl)) rfl rfl rfl ?_
 rintro _ _ ⟨⟨i0, hi0⟩, rfl, hA⟩
 simp only [List.cons_append, List.nil_append] at hA
 replace hA := hA.symm
 subst hA
 have hi1 := hi0.lt
 rw [show (⟨i0, hi0⟩ : {i : Nat // FstD l p i}).1 = i0 from rfl]
 refine WL_r (Rd_assign rfl) rfl ?_
 refine WL_end hK2 ?_
 refine WC_seq fun K3 hK3 => ?_
 refine WC_sr fun K4 hK4 => ?_
 refine WL_r (Rd_move rfl) rfl ?_
 refine WL_r (Rd_valE (v := .bool false) (Rd_eql rfl rfl) (by simp only [Value.bool.injEq, decide_eq_false_iff_not]; omega)) rfl ?_
 refine WL_end hK4 ?_
 refine WC_condF rfl ?_
 refine WC_skip ?_
 refine Ps_next hK3 ?_
 refine WC_seq fun K5 hK5 => ?_
 refine WC_sr fun K6 hK6 => ?_
 refine WL_r (Rd_move rfl) rfl ?_
 refine WL_r (Rd_addN (j := 1) rfl rfl) rfl ?_
 refine WL_r (Rd_assign rfl) rfl ?_
 refine WL_end hK6 ?_
 refine WC_block ?_
 refine WC_loopK (σ := Nat × Nat × (List Pr)) (fun ⟨j, i, A⟩ => [(5, .int .i64 ((i : Nat) : Int)), (6, .int .i64 ((j : Nat) : Int))]) (fun ⟨j, i, A⟩ => [arr (some gb) cap 2 24 ePr A]) (fun ⟨j, i, A⟩ => HalfD l p j i A) (fun ⟨j, i, A⟩ => l.length - j) ⟨i0 + 1, i0, l⟩ [0, 1, 4, 36, 37, 38, 39, 40, 41] kpA (by (try dsimp only); repeat (first | with_reducible exact Gv.nil | (with_reducible apply Gv.cons; · (repeat (first | with_reducible exact Ext.here | with_reducible apply Ext.there))))) ?_ ?_ Sub.refl ?_
 ·exact half_beg hi0
 ·(try dsimp only); exact (Wk.cons lkA (Wk.cons lkA Wk.nil))
 ·rintro ⟨j, i, A⟩ hH K7 hK7
  simp only [List.cons_append, List.nil_append]
  refine WC_seq fun K8 hK8 => ?_
  refine WC_sr fun K9 hK9 => ?_
  refine WL_r (Rd_move rfl) rfl ?_
  refine WL_r (Rd_move rfl) rfl ?_
  refine WL_r (Rd_len rfl rfl ud22) rfl ?_
  refine WL_r (Rd_lssN rfl rfl) rfl ?_
  refine WL_end hK9 ?_
  refine WC_cond rfl (fun hc1 => ?_) (fun hc1 => ?_)
  ·try simp only [dz, ne_eq] at hc1
   obtain ⟨y, hy⟩ : ∃ y, l[j]? = some y := ⟨_, List.getElem?_eq_getElem (by omega)⟩
   have hyA := (half_at hH (by omega)).trans hy
   have hHl := hH.len
   have hHij := hH.ij
   refine WC_skip ?_
   refine Ps_next hK8 ?_
   refine WC_seq fun K10 hK10 => ?_
   refine WC_block ?_
   refine WC_sr fun K11 hK11 => ?_
   refine WL_r (Rd_move rfl) rfl ?_
   refine WL_r (Rd_move rfl) rfl ?_
   refine WL_r (Rd_index j rfl rfl ud22 sz24 (hj := by omega)) rfl ?_
   refine WL_r (Rd_loadg_arr (f := ePr) (i := j) (y := y) rfl tk24 (hl := hyA)) rfl ?_
   refine WL_ac (Ac_alloc zr24) rfl rfl rfl ?_
   rintro _ _ ⟨b7, rfl, rfl⟩
   refine WL_ac0 (Ac_store (ys := ePr y) rfl rfl sz24 (h1 := encPr.one y) (hv := rfl) (hr := rfl)) rfl rfl ?_
   rintro _ _ rfl
   refine WL_end hK11 ?_
   refine WC_sr fun K12 hK12 => ?_
   refine WL_r (Rd_move rfl) rfl ?_
   refine WL_r (Rd_loadg (vs := ePr y) rfl tk24) rfl ?_
   refine WL_ac (Ac_callv rfl cf38 rfl rfl rfl rfl (hs := m1_ct (b9 := b9) (p := p) (q := y))) rfl rfl rfl ?_
   rintro _ _ ⟨⟨⟩, rfl, hA⟩
   simp only [List.cons_append, List.nil_append] at hA
   replace hA := hA.symm
   subst hA
   refine WL_r (Rd_not rfl) rfl ?_
   refine WL_end hK12 ?_
   refine WC_cond rfl (fun hc2 => ?_) (fun hc2 => ?_)
   ·try simp only [dz, ne_eq] at hc2
    have hHy := half_yes hH hy (by first | assumption | simp_all)
    refine WC_sr fun K13 hK13 => ?_
    refine WL_r (Rd_move rfl) rfl ?_
    refine WL_r (Rd_move rfl) rfl ?_
    refine WL_r (Rd_loadg (vs := ePr y) rfl tk24) rfl ?_
    refine WL_r (Rd_index i rfl rfl ud22 sz24 (hj := by omega)) rfl ?_
    refine WL_ac0 (Ac_storeg_arr y rfl rfl sz24 (i := i) (hl := by omega) (h1 := encPr.one y)) rfl rfl ?_
    rintro _ _ rfl
    refine WL_end hK13 ?_
    refine WC_region ?_
    refine WL_r (Rd_move rfl) rfl ?_
    refine WL_r (Rd_addN (j := 1) rfl rfl) rfl ?_
    refine WL_r (Rd_assign rfl) rfl ?_
    refine WL_nil ?_
    refine Ps_next hK10 ?_
    refine WC_region ?_
    refine WL_r (Rd_move rfl) rfl ?_
    refine WL_r (Rd_addN (j := 1) rfl rfl) rfl ?_
    refine WL_r (Rd_assign rfl) rfl ?_
    refine WL_nil ?_
    refine Ps_wkB (hK7 ⟨j + 1, i + 1, A.set i y⟩ (hHy) (by (try dsimp only); omega))
   ·try simp only [dz, ne_eq] at hc2
    have hHy := half_no hH hy (by first | assumption | simp_all)
    refine WC_skip ?_
    refine Ps_next hK10 ?_
    refine WC_region ?_
    refine WL_r (Rd_move rfl) rfl ?_
    refine WL_r (Rd_addN (j := 1) rfl rfl) rfl ?_
    refine WL_r (Rd_assign rfl) rfl ?_
    refine WL_nil ?_
    refine Ps_wkB (hK7 ⟨j + 1, i, A⟩ (hHy) (by (try dsimp only); omega))
  ·try simp only [dz, ne_eq] at hc1
   obtain rfl : j = l.length := by have := hH.jl; omega
   have hHl := hH.len
   have hHij := hH.ij
   refine WC_exit ?_
   refine Ps_next hK5 ?_
   refine WC_sr fun K14 hK14 => ?_
   refine WL_r (Rd_move rfl) rfl ?_
   refine WL_r (Rd_move rfl) rfl ?_
   refine WL_r (Rd_slice_lo i rfl rfl ud22 sz24 rfl (by omega) (by omega)) rfl ?_
   refine WL_ac0 (Ac_clear (f := ePr) (l := A) i (0, 0) rfl ud22 zr24 rfl rfl (by decide) (by repeat (first | with_reducible exact Ext.here | with_reducible apply Ext.there)) (by omega)) rfl rfl ?_
   rintro _ _ rfl
   refine WL_end hK14 ?_
   refine WC_sr fun K15 hK15 => ?_
   refine WL_r (Rd_move rfl) rfl ?_
   refine WL_r (Rd_move rfl) rfl ?_
   obtain ⟨he1, he2⟩ := half_end hH
   refine WL_cut ?_
   rw [he1, he2]
   refine WL_r (Rd_slice_hi (leftP l p).length rfl rfl ud22 sz24 (hi := by omega)) rfl ?_
   refine WL_r (Rd_assign rfl) rfl ?_
   refine WL_end hK15 ?_
   refine WC_ret ?_
   exact hret.gf () (Rs1 rfl rfl)

theorem cloneP_ct {X : Asn} {v : Value} {l : List Pr} {ao : Option Addr} {cap : Nat} (hS : Sv [X] v 2 ePr l ao cap) (hn : l.length ≤ 100000000) : Ct Try.prog 37 [v] [X] (fun g : Option Nat × Nat => sl g.1 l.length g.2) (fun g => [X, arr g.1 g.2 2 24 ePr l]) := by
 refine Ct_body (n := 8) Try.func37 rfl rfl rfl fun F w0 Q hret hnorm hp => ?_
 change WC _ _ _ _ _ _ _ (_ :: F)
 have hv0 := hS.val
 subst hv0
 refine WC_sr fun K1 hK1 => ?_
 refine WL_r (Rd_assign (v := sl none 0 0) rfl) rfl ?_
 refine WL_end hK1 ?_
 refine WC_seq fun K2 hK2 => ?_
 refine WC_sr fun K3 hK3 => ?_
 refine WL_r (Rd_move rfl) rfl ?_
 refine WL_r (Rd_seq rfl rfl ud22) rfl ?_
 refine WL_end hK3 ?_
 refine WC_cond rfl (fun hc0 => ?_) (fun hc0 => ?_)
 ·try simp only [dz, ne_eq] at hc0
  have hnil := sv_nilB hS hc0
  subst hnil
  refine WC_imp (fun w h => sat_nil (e := 2) (T := 24) (f := ePr) h) ?_
  refine WC_sr fun K4 hK4 => ?_
  refine WL_r (Rd_assign (v := sl none 0 0) rfl) rfl ?_
  refine WL_end hK4 ?_
  refine WC_ret ?_
  first | exact hret.go (none, 0) (Rs1 rfl rfl) | exact hret.go (a7, cap7) (Rs1 rfl rfl)
 ·try simp only [dz, ne_eq] at hc0
  refine WC_skip ?_
  refine Ps_next hK2 ?_
  refine WC_sr fun K5 hK5 => ?_
  refine WL_ac (Ac_bsL (f := ePr) (zs := [.int .i64 0, .int .i64 0]) (bs := []) [] encPr ud22 zr24 sz24 rfl (by kernel_rfl) (by rfl) (by rfl) (by rfl) (by rfl)) rfl rfl rfl ?_
  rintro _ _ ⟨b5, rfl, rfl⟩
  refine WL_r (Rd_move rfl) rfl ?_
  refine WL_ac (Ac_appendS (f := ePr) encPr rfl rfl ud22 ud22 el24 (hS := hS) (hb := by simp only [List.length_nil]; omega)) rfl rfl rfl ?_
  rintro _ _ ⟨a7, cap7, rfl, rfl⟩
  rw [show ([] : List Pr).length + l.length = l.length from Nat.zero_add _, List.nil_append]
  refine WL_r (Rd_assign rfl) rfl ?_
  refine WL_end hK5 ?_
  refine WC_ret ?_
  first | exact hret.go (none, 0) (Rs1 rfl rfl) | exact hret.go (a7, cap7) (Rs1 rfl rfl)
end Go.Proofs.Ytilmiikfjcdllaa
namespace Go.Proofs.Ytilmiikfjcdllaa
open Go.RowKit Go.SL Go.ShM Go.HyM Go.Fl Go.SvM
set_option maxHeartbeats 1000000
set_option maxRecDepth 20000
set_option linter.all false
theorem cf36 : cfn Try.prog 36 = true := by kernel_rfl
theorem cf37 : cfn Try.prog 37 = true := by kernel_rfl
theorem Match_no {X : Asn} {v : Value} {ps : List Pr} {ao : Option Addr} {cap : Nat} (hS : Sv [X] v 2 ePr ps ao cap) (hn : ps.length ≤ 100000000) (hm : ¬ mayP ps) : Ct Try.prog 14 [v] [X] (fun _ : Unit => .tuple #[sl none 0 0, .int .i64 230]) (fun _ => [X]) := by
 refine Ct_body (n := 47) Try.func14 rfl rfl rfl fun F w0 Q hret hnorm hp => ?_
 change WC _ _ _ _ _ _ _ (_ :: F)
 refine WC_sr fun K1 hK1 => ?_
 refine WL_r (Rd_assign (v := sl none 0 0) rfl) rfl ?_
 refine WL_r (Rd_assign rfl) rfl ?_
 refine WL_end hK1 ?_
 refine WC_sr fun K2 hK2 => ?_
 refine WL_r (Rd_move rfl) rfl ?_
 refine WL_ac (Ac_call cf28 rfl (hs := look_no (X := X) (ps := ps) hS hn hm)) rfl rfl rfl ?_
 rintro _ _ ⟨⟨⟩, rfl, hA⟩
 simp only [List.cons_append, List.nil_append] at hA
 replace hA := hA.symm
 subst hA
 refine WL_r (Rd_move rfl) rfl ?_
 refine WL_r (Rd_ext0 rfl) rfl ?_
 refine WL_r (Rd_ext1 rfl) rfl ?_
 refine WL_r (Rd_assign rfl) rfl ?_
 refine WL_r (Rd_assign rfl) rfl ?_
 refine WL_end hK2 ?_
 refine WC_seq fun K3 hK3 => ?_
 refine WC_sr fun K4 hK4 => ?_
 refine WL_r (Rd_move rfl) rfl ?_
 refine WL_r (Rd_neqN (i := 230) (j := 0) rfl rfl) rfl ?_
 refine WL_end hK4 ?_
 refine WC_condT rfl ?_
 refine WC_sr fun K5 hK5 => ?_
 refine WL_r (Rd_move rfl) rfl ?_
 refine WL_r (Rd_assign (v := sl none 0 0) rfl) rfl ?_
 refine WL_r (Rd_assign rfl) rfl ?_
 refine WL_end hK5 ?_
 refine WC_ret ?_
 exact hret.gf () (Rs2 rfl rfl rfl)

theorem Match_ok {X : Asn} {v : Value} {ps : List Pr} {ao : Option Addr} {cap : Nat} (hS : Sv [X] v 2 ePr ps ao cap) (hn : ps.length ≤ 100000000) (hm : mayP ps) : Ct Try.prog 14 [v] [X] (fun g : Option Nat × Nat => .tuple #[sl g.1 (matM (sizeM (lookP ps)) (lookP ps)).length g.2, .int .i64 0]) (fun g => [X, arr g.1 g.2 2 24 ePr (matM (sizeM (lookP ps)) (lookP ps))]) := by
 refine Ct_body (n := 47) Try.func14 rfl rfl rfl fun F w0 Q hret hnorm hp => ?_
 change WC _ _ _ _ _ _ _ (_ :: F)
 have hpl := lookP_len ps
 have hpk := lookP_ok ps
 have hb1 := size_fst hpk
 have hb2 := cnt_le (lookP ps) Prod.fst
 refine WC_sr fun K1 hK1 => ?_
 refine WL_r (Rd_assign (v := sl none 0 0) rfl) rfl ?_
 refine WL_r (Rd_assign rfl) rfl ?_
 refine WL_end hK1 ?_
 refine WC_sr fun K2 hK2 => ?_
 refine WL_r (Rd_move rfl) rfl ?_
 refine WL_ac (Ac_call cf28 rfl (hs := look_ok (X := X) (ps := ps) hS hn hm)) rfl rfl rfl ?_
 rintro _ _ ⟨⟨ga, gc⟩, rfl, hA⟩
 simp only [List.cons_append, List.nil_append] at hA
 replace hA := hA.symm
 subst hA
 refine WL_fact (fun w h => arr_facts (a := ga) (cap := gc) (e := 2) (T := 24) (f := ePr) (l := (lookP ps)) hasA h) (fun hL0f => ?_)
 have hL0 : Sv [arr ga gc 2 24 ePr (lookP ps)] (sl ga ((lookP ps)).length gc) 2 ePr (lookP ps) ((ga : Option Nat).map fun g => ⟨g, 0, none⟩) gc := Sv_own' encPr hL0f.1 hL0f.2
 refine WL_r (Rd_move rfl) rfl ?_
 refine WL_r (Rd_ext0 rfl) rfl ?_
 refine WL_r (Rd_ext1 rfl) rfl ?_
 refine WL_r (Rd_assign rfl) rfl ?_
 refine WL_r (Rd_assign rfl) rfl ?_
 refine WL_end hK2 ?_
 refine WC_seq fun K3 hK3 => ?_
 refine WC_sr fun K4 hK4 => ?_
 refine WL_r (Rd_move rfl) rfl ?_
 refine WL_r (Rd_neqN (i := 0) (j := 0) rfl rfl) rfl ?_
 refine WL_end hK4 ?_
 refine WC_condF rfl ?_
 refine WC_skip ?_
 refine Ps_next hK3 ?_
 refine WC_sr fun K5 hK5 => ?_
 refine WL_r (Rd_assign (v := sl none 0 0) rfl) rfl ?_
 refine WL_nilarr ePr 2 24 ?_
 refine WL_end hK5 ?_
 refine WC_seq fun K6 hK6 => ?_
 refine WC_sr fun K7 hK7 => ?_
 refine WL_r (Rd_move rfl) rfl ?_
 refine WL_ac (Ac_call cf32 rfl (hs := size_ct (X := arr ga gc 2 24 ePr (lookP ps)) (l := (lookP ps)) hL0 (by omega) hpk)) rfl rfl rfl ?_
 rintro _ _ ⟨⟨⟩, rfl, hA⟩
 simp only [List.cons_append, List.nil_append] at hA
 replace hA := hA.symm
 subst hA
 refine WL_r (Rd_assign rfl) rfl ?_
 refine WL_end hK7 ?_
 refine WC_block ?_
 refine WC_loopK (σ := Nat × (List Pr) × (List Pr) × (Option Nat) × Nat × (Option Nat) × Nat) (fun ⟨w1, l, out, a4, c4, a6, c6⟩ => [(4, sl a4 l.length c4), (6, sl a6 out.length c6), (7, .int .i64 ((w1 : Nat) : Int))]) (fun ⟨w1, l, out, a4, c4, a6, c6⟩ => [arr a4 c4 2 24 ePr l, arr a6 c6 2 24 ePr out]) (fun ⟨w1, l, out, a4, c4, a6, c6⟩ => sizeM l = w1 ∧ (∀ p ∈ l, pOk p) ∧ l.length ≤ 8160 ∧ out ++ matM w1 l = (matM (sizeM (lookP ps)) (lookP ps)) ∧ out.length + w1 = sizeM (lookP ps)) (fun ⟨w1, l, out, a4, c4, a6, c6⟩ => w1) ⟨sizeM (lookP ps), (lookP ps), [], ga, gc, none, 0⟩ [2, 3, 46] kpA (by (try dsimp only); repeat (first | with_reducible exact Gv.nil | (with_reducible apply Gv.cons; · (repeat (first | with_reducible exact Ext.here | with_reducible apply Ext.there))))) ?_ ?_ Sub.refl ?_
 ·exact ⟨rfl, hpk, hpl, rfl, by simp⟩
 ·(try dsimp only); exact (Wk.cons lkA (Wk.cons lkA (Wk.cons lkA Wk.nil)))
 ·rintro ⟨w1, l, out, a4, c4, a6, c6⟩ ⟨hsz, hok, hln, hout, hol⟩ K8 hK8
  simp only [List.cons_append, List.nil_append]
  refine WC_seq fun K9 hK9 => ?_
  refine WC_sr fun K10 hK10 => ?_
  refine WL_r (Rd_move rfl) rfl ?_
  refine WL_r (Rd_gtrN (j := 0) rfl rfl) rfl ?_
  refine WL_end hK10 ?_
  refine WC_cond rfl (fun hc1 => ?_) (fun hc1 => ?_)
  ·try simp only [dz, ne_eq] at hc1
   obtain ⟨w, rfl⟩ : ∃ w, w1 = w + 1 := ⟨w1 - 1, by omega⟩
   refine WC_skip ?_
   refine Ps_next hK9 ?_
   refine WC_seq fun K11 hK11 => ?_
   refine WC_block ?_
   refine WC_sr fun K12 hK12 => ?_
   refine WL_r (Rd_move rfl) rfl ?_
   refine WL_fact (fun w h => arr_facts (a := a4) (cap := c4) (e := 2) (T := 24) (f := ePr) (l := l) hasA h) (fun hLf => ?_)
   have hL : Sv [arr a4 c4 2 24 ePr l] (sl a4 (l).length c4) 2 ePr l ((a4 : Option Nat).map fun g => ⟨g, 0, none⟩) c4 := Sv_own' encPr hLf.1 hLf.2
   refine WL_r (Rd_len rfl rfl ud22) rfl ?_
   refine WL_r (Rd_move rfl) rfl ?_
   refine WL_end hK12 ?_
   refine WC_block ?_
   refine WC_loopK (σ := Nat) (fun i => [(4, sl a4 l.length c4), (6, sl a6 out.length c6), (27, .int .i64 ((i : Nat) : Int))]) (fun i => []) (fun i => i ≤ l.length ∧ (∀ y ∈ l.take i, sizeM (leftP l y) ≠ w)) (fun i => l.length - i) (0) [2, 3, 7, 21, 22, 23, 24, 25, 26, 46] kpA (by (try dsimp only); repeat (first | with_reducible exact Gv.nil | (with_reducible apply Gv.cons; · (repeat (first | with_reducible exact Ext.here | with_reducible apply Ext.there))))) ?_ ?_ Sub.refl ?_
   ·exact ⟨Nat.zero_le _, fun y h => by simp at h⟩
   ·(try dsimp only); exact (Wk.cons lkA (Wk.cons lkA (Wk.cons lkA Wk.nil)))
   ·rintro i ⟨hi, hnot⟩ K13 hK13
    simp only [List.cons_append, List.nil_append]
    refine WC_sr fun K14 hK14 => ?_
    refine WL_r (Rd_lssN rfl rfl) rfl ?_
    refine WL_end hK14 ?_
    refine WC_seq fun K15 hK15 => ?_
    refine WC_cond rfl (fun hc2 => ?_) (fun hc2 => ?_)
    ·try simp only [dz, ne_eq] at hc2
     obtain ⟨p, hp0⟩ : ∃ p, l[i]? = some p := ⟨_, List.getElem?_eq_getElem (by omega)⟩
     have hpm := List.mem_of_getElem? hp0
     refine WC_skip ?_
     refine Ps_next hK15 ?_
     refine WC_seq fun K16 hK16 => ?_
     refine WC_block ?_
     refine WC_sr fun K17 hK17 => ?_
     refine WL_r (Rd_index_sv i rfl rfl ud22 sz24 (hA := hL) (hi := by omega)) rfl ?_
     refine WL_r (Rd_loadg_sv (f := ePr) (i := i) (y := p) rfl tk24 (hA := hL) (hl := hp0)) rfl ?_
     refine WL_ac (Ac_alloc zr24) rfl rfl rfl ?_
     rintro _ _ ⟨b9, rfl, rfl⟩
     refine WL_ac0 (Ac_store (ys := ePr p) rfl rfl sz24 (h1 := encPr.one p) (hv := rfl) (hr := rfl)) rfl rfl ?_
     rintro _ _ rfl
     refine WL_end hK17 ?_
     refine WC_sr fun K18 hK18 => ?_
     refine WL_r (Rd_move rfl) rfl ?_
     refine WL_ac (Ac_call cf37 rfl (hs := cloneP_ct (X := arr a4 c4 2 24 ePr l) (l := l) hL (by omega))) rfl rfl rfl ?_
     rintro _ _ ⟨⟨a10, c10⟩, rfl, hA⟩
     simp only [List.cons_append, List.nil_append] at hA
     replace hA := hA.symm
     subst hA
     refine WL_fact (fun w h => arr_facts (a := a10) (cap := c10) (e := 2) (T := 24) (f := ePr) (l := l) hasA h) (fun hCf => ?_)
     have hC : Sv [arr a10 c10 2 24 ePr l] (sl a10 (l).length c10) 2 ePr l ((a10 : Option Nat).map fun g => ⟨g, 0, none⟩) c10 := Sv_own' encPr hCf.1 hCf.2
     obtain ⟨gb, rfl⟩ : ∃ gb, a10 = some gb := by cases a10 with | none => exact absurd (hCf.1 rfl) (List.ne_nil_of_mem hpm) | some g => exact ⟨g, rfl⟩
     refine WL_r (Rd_makeFunc rfl rfl) rfl ?_
     refine WL_ac (Ac_call cf36 rfl (hs := delP_ct (l := l) (gb := gb) (cap := c10) (b9 := b9) (p := p) hpm (by omega))) rfl rfl rfl ?_
     rintro _ _ ⟨⟨⟩, rfl, hA⟩
     simp only [List.cons_append, List.nil_append] at hA
     replace hA := hA.symm
     subst hA
     refine WL_r (Rd_assign rfl) rfl ?_
     refine WL_end hK18 ?_
     refine WC_sr fun K19 hK19 => ?_
     refine WL_r (Rd_move rfl) rfl ?_
     refine WL_fact (fun w h => arr_facts (a := (some gb)) (cap := c10) (e := 2) (T := 24) (f := ePr) (l := (leftP l p)) hasA h) (fun hDf => ?_)
     have hD : Sv [arr (some gb) c10 2 24 ePr (leftP l p)] (sl (some gb) ((leftP l p)).length c10) 2 ePr (leftP l p) (((some gb) : Option Nat).map fun g => ⟨g, 0, none⟩) c10 := Sv_own' encPr hDf.1 hDf.2
     refine WL_ac (Ac_call cf32 rfl (hs := size_ct (X := arr (some gb) c10 2 24 ePr (leftP l p)) (l := leftP l p) hD (by have := leftP_len l p; omega) (leftP_ok hok))) rfl rfl rfl ?_
     rintro _ _ ⟨⟨⟩, rfl, hA⟩
     simp only [List.cons_append, List.nil_append] at hA
     replace hA := hA.symm
     subst hA
     refine WL_r (Rd_move rfl) rfl ?_
     refine WL_r (Rd_subN (j := 1) rfl rfl) rfl ?_
     refine WL_r (Rd_eqlN rfl rfl) rfl ?_
     refine WL_end hK19 ?_
     refine WC_cond rfl (fun hc3 => ?_) (fun hc3 => ?_)
     ·try simp only [dz, ne_eq] at hc3
      have hsz2 : sizeM (leftP l p) = w := by omega
      have hpick := pick_at hp0 hnot hsz2
      refine WC_sr fun K20 hK20 => ?_
      refine WL_r (Rd_move rfl) rfl ?_
      refine WL_r (Rd_loadg (vs := ePr p) rfl tk24) rfl ?_
      refine WL_ac (Ac_bs1 (xs := ePr p) rfl ud22 zr24 sz24 (hl := encPr.len _)) rfl rfl rfl ?_
      rintro _ _ ⟨b42, rfl, rfl⟩
      refine WL_ac (Ac_append1 (f := ePr) encPr p rfl rfl ud22 ud22 el24) rfl rfl rfl ?_
      rintro _ _ ⟨a43, cap43, rfl, rfl⟩
      rw [show out.length + 1 = (out ++ [p]).length from by rw [List.length_append]; rfl]
      refine WL_r (Rd_assign rfl) rfl ?_
      refine WL_end hK20 ?_
      refine WC_sr fun K21 hK21 => ?_
      refine WL_r (Rd_move rfl) rfl ?_
      refine WL_r (Rd_assign rfl) rfl ?_
      refine WL_end hK21 ?_
      refine WC_exit ?_
      refine Ps_next hK11 ?_
      refine WC_region ?_
      refine WL_r (Rd_move rfl) rfl ?_
      refine WL_r (Rd_subN (j := 1) rfl rfl) rfl ?_
      refine WL_r (Rd_assign rfl) rfl ?_
      refine WL_nil ?_
      refine Ps_wkB (hK8 ⟨w, leftP l p, out ++ [p], some gb, c10, a43, cap43⟩ (⟨hsz2, leftP_ok hok, Nat.le_trans (leftP_len l p) hln, mat_step hpick hout, by rw [List.length_append]; (try dsimp only); simp only [List.length_cons, List.length_nil]; omega⟩) (by (try dsimp only); omega))
     ·try simp only [dz, ne_eq] at hc3
      have hsz2 : sizeM (leftP l p) ≠ w := by omega
      refine WC_skip ?_
      refine Ps_next hK16 ?_
      refine WC_region ?_
      refine WL_r (Rd_addN (j := 1) rfl rfl) rfl ?_
      refine WL_r (Rd_move rfl) rfl ?_
      refine WL_nil ?_
      refine Ps_wkB (hK13 (i + 1) (⟨by omega, pick_snoc hp0 hnot hsz2⟩) (by omega))
    ·try simp only [dz, ne_eq] at hc2
     obtain rfl : i = l.length := by omega
     rw [List.take_length] at hnot
     exact (pick_never hok hsz hnot).elim
  ·try simp only [dz, ne_eq] at hc1
   obtain rfl : w1 = 0 := by omega
   rw [show matM 0 l = [] from rfl, List.append_nil] at hout
   subst hout
   refine WC_exit ?_
   refine Ps_next hK6 ?_
   refine WC_sr fun K22 hK22 => ?_
   refine WL_r (Rd_move rfl) rfl ?_
   refine WL_r (Rd_assign rfl) rfl ?_
   refine WL_r (Rd_assign rfl) rfl ?_
   refine WL_end hK22 ?_
   refine WC_ret ?_
   exact hret.gf (a6, c6) (Rs2 rfl rfl rfl)
end Go.Proofs.Ytilmiikfjcdllaa
/-
  Marks in memory, and rounds of marking. (Conditions: none; generic over the program.)
-/
set_option maxRecDepth 20000
namespace Go.HyM
open Go.SL Go.RowKit
section
variable {P : Program} {n : Nat} {L : List (Nat × Value)} {A : List Asn} {d : Option Tmp} {ty : TypeId} {pos : String} {af : Array Edge} {g : Option (Nat × Bool)}
theorem Rd_indexB {t et : TypeId} {x y : Operand} {kk : IntKind} {j : Int} {b : Nat} {len : Nat} (i : Nat) (hx : ev L x = some (.pointer (some ⟨b, 0, none⟩))) (hy : ev L y = some (.int kk j)) (hu : P.underlying t = some (.array len et)) (hz : sz P et = some 1) (hj : j = i) (hi : i < len) :
    Rd P n ⟨d, .indexAddr t x y, ty, pos, af, g⟩ L A (.pointer (some ⟨b, i, none⟩)) := by
  have h := Rd_indexA (P := P) (n := n) (L := L) (A := A) (d := d) (ty := ty) (pos := pos) (af := af) (g := g) i hx hy hu hz hj hi
  rwa [Nat.zero_add, Nat.mul_one] at h
end
theorem set_map {b : List Bool} {x : Int} : (b.map Value.bool).set x.toNat (.bool true) = (bSet b x).map Value.bool := by unfold bSet; rw [List.map_set]
section
variable {ps m : List Pr} {sb nb : List Bool}
end
end Go.HyM
namespace Go.Proofs.Ytilmiikfjcdllaa
open Go.RowKit Go.SL Go.ShM Go.HyM Go.Fl Go.SvM
set_option maxHeartbeats 1000000
set_option maxRecDepth 20000
set_option linter.all false
theorem ud65 : Try.prog.underlying 65 = some (.array 255 4) := by kernel_rfl
theorem zrN : zr Try.prog 65 = some ((List.replicate 255 false).map Value.bool) := by kernel_rfl

end Go.Proofs.Ytilmiikfjcdllaa
namespace Go.Proofs.Ytilmiikfjcdllaa
open Go.RowKit Go.SL Go.ShM Go.HyM Go.Fl Go.SvM
set_option maxHeartbeats 1000000
set_option maxRecDepth 20000
set_option linter.all false
theorem cf14 : cfn Try.prog 14 = true := by kernel_rfl
end Go.Proofs.Ytilmiikfjcdllaa
