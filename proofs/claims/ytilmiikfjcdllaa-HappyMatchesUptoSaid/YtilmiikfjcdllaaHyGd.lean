/-
  Contracts of functions that the claim reaches, or the logic and the plain laws that they rest on, or the row over them. (Conditions: none beyond the statement.)
-/
import Derived.Test.YtilmiikfjcdllaaHyGc
import Derived.Test.YtilmiikfjcdllaaHyLa
import Derived.Test.YtilmiikfjcdllaaLibE
import Derived.Test.YtilmiikfjcdllaaLibA
set_option linter.all false
namespace Go.Proofs.Ytilmiikfjcdllaa
open Go.RowKit Go.SL Go.ShM Go.HyM Go.Fl Go.SvM
set_option maxHeartbeats 1000000
set_option maxRecDepth 20000
set_option linter.all false
theorem cf38 : cfn Try.prog 38 = true := by kernel_rfl
theorem cf53 : cfn Try.prog 53 = true := by kernel_rfl
theorem m1_ct {b9 : Nat} {p q : Pr}  : Ct Try.prog 38 [.agg (ePr q).toArray, .pointer (some ⟨b9, 0, none⟩)] [cl b9 24 (ePr p)] (fun _ : Unit => .bool (delB p q)) (fun _ => [cl b9 24 (ePr p)]) := by
 refine Ct_body (n := 16) Try.func38 rfl rfl rfl fun F w0 Q hret hnorm hp => ?_
 change WC _ _ _ _ _ _ _ (_ :: F)
 refine WC_sr fun K1 hK1 => ?_
 refine WL_ac (Ac_box (xs := ePr q) rfl rfl) rfl rfl rfl ?_
 rintro _ _ ⟨b2, rfl, rfl⟩
 refine WL_r (Rd_assign rfl) rfl ?_
 refine WL_end hK1 ?_
 refine WC_sr fun K2 hK2 => ?_
 refine WL_r (Rd_fieldAddr rfl fo24_0) rfl ?_
 refine WL_r (Rd_load rfl tk3 (v := .int .i64 q.1)) rfl ?_
 refine WL_r (Rd_fieldAddr rfl fo24_0) rfl ?_
 refine WL_r (Rd_load rfl tk3 (v := .int .i64 p.1)) rfl ?_
 refine WL_r (Rd_leq rfl rfl) rfl ?_
 refine WL_r (Rd_move rfl) rfl ?_
 refine WL_bool 9 rfl (fun hg3 => ?_) (fun hg3 => ?_)
 ·try simp only [dz, ne_eq] at hg3
  refine WL_skip rfl rfl rfl ?_
  refine WL_skip rfl rfl rfl ?_
  refine WL_skip rfl rfl rfl ?_
  refine WL_skip rfl rfl rfl ?_
  refine WL_skip rfl rfl rfl ?_
  refine WL_r (Rd_pickT rfl rfl) rfl ?_
  refine WL_r (Rd_assign rfl) rfl ?_
  refine WL_end hK2 ?_
  refine WC_ret ?_
  exact hret.gfE () (Rs1 rfl rfl) (by unfold delB; first | (simp_all; done) | (congr 1; grind))
 ·try simp only [dz, ne_eq] at hg3
  refine WL_r (Rd_fieldAddr rfl fo24_1) rfl ?_
  refine WL_r (Rd_load rfl tk3 (v := .int .i64 q.2)) rfl ?_
  refine WL_r (Rd_fieldAddr rfl fo24_1) rfl ?_
  refine WL_r (Rd_load rfl tk3 (v := .int .i64 p.2)) rfl ?_
  refine WL_r (Rd_eql rfl rfl) rfl ?_
  refine WL_r (Rd_pickF rfl rfl) rfl ?_
  refine WL_r (Rd_assign rfl) rfl ?_
  refine WL_end hK2 ?_
  refine WC_ret ?_
  exact hret.gfE () (Rs1 rfl rfl) (by unfold delB; first | (simp_all; done) | (congr 1; grind))

theorem idxP_ct {X : Asn} {v : Value} {l : List Pr} {ao : Option Addr} {cap b9 : Nat} {p : Pr} (hS : Sv [X] v 2 ePr l ao cap) (hn : l.length ≤ 900000000000) (hpl : p ∈ l) : Ct Try.prog 53 [v, .func (.func 38) #[] #[.pointer (some ⟨b9, 0, none⟩)]] [X, cl b9 24 (ePr p)] (fun g : {i : Nat // FstD l p i} => .int .i64 ((g.1 : Nat) : Int)) (fun g => [X, cl b9 24 (ePr p)]) := by
 refine Ct_body (n := 19) Try.func53 rfl rfl rfl fun F w0 Q hret hnorm hp => ?_
 change WC _ _ _ _ _ _ _ (_ :: _ :: F)
 refine WC_sr fun K1 hK1 => ?_
 refine WL_r (Rd_assign rfl) rfl ?_
 refine WL_end hK1 ?_
 refine WC_seq fun K2 hK2 => ?_
 refine WC_sr fun K3 hK3 => ?_
 refine WL_r (Rd_move rfl) rfl ?_
 refine WL_r (Rd_len_sv rfl rfl ud22) rfl ?_
 refine WL_r (Rd_move rfl) rfl ?_
 refine WL_end hK3 ?_
 refine WC_block ?_
 refine WC_loopK (σ := Nat) (fun i => [(8, .int .i64 ((i : Nat) : Int))]) (fun i => []) (fun i => i ≤ l.length ∧ (∀ y ∈ l.take i, delB p y = false)) (fun i => l.length - i) (0) [0, 1, 7] kpA (by (try dsimp only); repeat (first | with_reducible exact Gv.nil | (with_reducible apply Gv.cons; · (repeat (first | with_reducible exact Ext.here | with_reducible apply Ext.there))))) ?_ ?_ Sub.refl ?_
 ·exact ⟨Nat.zero_le _, fun y h => by simp at h⟩
 ·(try dsimp only); exact (Wk.cons lkA Wk.nil)
 ·rintro i ⟨hi, hal⟩ K4 hK4
  simp only [List.cons_append, List.nil_append]
  refine WC_sr fun K5 hK5 => ?_
  refine WL_r (Rd_lssN rfl rfl) rfl ?_
  refine WL_end hK5 ?_
  refine WC_seq fun K6 hK6 => ?_
  refine WC_cond rfl (fun hc0 => ?_) (fun hc0 => ?_)
  ·try simp only [dz, ne_eq] at hc0
   obtain ⟨y, hy⟩ : ∃ y, l[i]? = some y := ⟨_, List.getElem?_eq_getElem (by omega)⟩
   refine WC_skip ?_
   refine Ps_next hK6 ?_
   refine WC_seq fun K7 hK7 => ?_
   refine WC_block ?_
   refine WC_sr fun K8 hK8 => ?_
   refine WL_r (Rd_move rfl) rfl ?_
   refine WL_r (Rd_assign rfl) rfl ?_
   refine WL_end hK8 ?_
   refine WC_sr fun K9 hK9 => ?_
   refine WL_r (Rd_move rfl) rfl ?_
   refine WL_r (Rd_move rfl) rfl ?_
   refine WL_r (Rd_move rfl) rfl ?_
   refine WL_r (Rd_index_sv i rfl rfl ud22 sz24 (hA := hS) (hi := by omega)) rfl ?_
   refine WL_r (Rd_loadg_sv (f := ePr) (i := i) (y := y) rfl tk24 (hA := hS) (hl := hy)) rfl ?_
   refine WL_ac (Ac_callv rfl cf38 rfl rfl rfl rfl (hs := m1_ct (b9 := b9) (p := p) (q := y))) rfl rfl rfl ?_
   rintro _ _ ⟨⟨⟩, rfl, hA⟩
   simp only [List.cons_append, List.nil_append] at hA
   replace hA := hA.symm
   subst hA
   refine WL_end hK9 ?_
   refine WC_cond rfl (fun hc1 => ?_) (fun hc1 => ?_)
   ·try simp only [dz, ne_eq] at hc1
    refine WC_sr fun K10 hK10 => ?_
    refine WL_r (Rd_move rfl) rfl ?_
    refine WL_r (Rd_assign rfl) rfl ?_
    refine WL_end hK10 ?_
    refine WC_ret ?_
    exact hret.gf ⟨i, by omega, hal, fun z hz => by rw [hy] at hz; cases hz; first | assumption | simp_all⟩ (Rs1 rfl rfl)
   ·try simp only [dz, ne_eq] at hc1
    refine WC_skip ?_
    refine Ps_next hK7 ?_
    refine WC_region ?_
    refine WL_r (Rd_addN (j := 1) rfl rfl) rfl ?_
    refine WL_r (Rd_move rfl) rfl ?_
    refine WL_nil ?_
    refine Ps_wkB (hK4 (i + 1) (⟨by omega, del_snoc hy hal (by first | assumption | simp_all)⟩) (by omega))
  ·try simp only [dz, ne_eq] at hc0
   obtain rfl : i = l.length := by omega
   rw [List.take_length] at hal
   exact absurd (hal p hpl) (by rw [delB_self]; decide)

theorem delP_ct {l : List Pr} {gb cap b9 : Nat} {p : Pr} (hpl : p ∈ l) (hn : l.length ≤ 100000000) : Ct Try.prog 36 [sl (some gb) l.length cap, .func (.func 38) #[] #[.pointer (some ⟨b9, 0, none⟩)]] [arr (some gb) cap 2 24 ePr l, cl b9 24 (ePr p)] (fun _ : Unit => sl (some gb) (leftP l p).length cap) (fun _ => [arr (some gb) cap 2 24 ePr (leftP l p), cl b9 24 (ePr p)]) := by
 refine Ct_body (n := 42) Try.func36 rfl rfl rfl fun F w0 Q hret hnorm hp => ?_
 change WC _ _ _ _ _ _ _ (_ :: _ :: F)
 refine WC_sr fun K1 hK1 => ?_
 refine WL_r (Rd_assign (v := sl none 0 0) rfl) rfl ?_
 refine WL_end hK1 ?_
 refine WC_sr fun K2 hK2 => ?_
 refine WL_r (Rd_move rfl) rfl ?_
 refine WL_r (Rd_move rfl) rfl ?_
 refine WL_fact (fun w h => arr_facts (a := (some gb)) (cap := cap) (e := 2) (T := 24) (f := ePr) (l := l) hasA h) (fun hLf => ?_)
 have hL : Sv [arr (some gb) cap 2 24 ePr l] (sl (some gb) (l).length cap) 2 ePr l (((some gb) : Option Nat).map fun g => ⟨g, 0, none⟩) cap := Sv_own' encPr hLf.1 hLf.2
 refine WL_ac (Ac_call cf53 rfl (hs := idxP_ct (X := arr (some gb) cap 2 24 ePr l) (l := l) (b9 := b9) (p := p) hL (by omega) hpl)) rfl rfl rfl ?_
 rintro _ _ ⟨⟨i0, hi0⟩, rfl, hA⟩
 simp only [List.cons_append, List.nil_append] at hA
 replace hA := hA.symm
 subst hA
 have hi1 := hi0.lt
 rw [show (⟨i0, hi0⟩ : {i : Nat // FstD l p i}).1 = i0 from rfl]
 refine WL_r (Rd_assign rfl) rfl ?_
 refine WL_end hK2 ?_
 refine WC_seq fun K3 hK3 => ?_
 refine WC_sr fun K4 hK4 => ?_
 refine WL_r (Rd_move rfl) rfl ?_
 refine WL_r (Rd_valE (v := .bool false) (Rd_eql rfl rfl) (by simp only [Value.bool.injEq, decide_eq_false_iff_not]; omega)) rfl ?_
 refine WL_end hK4 ?_
 refine WC_condF rfl ?_
 refine WC_skip ?_
 refine Ps_next hK3 ?_
 refine WC_seq fun K5 hK5 => ?_
 refine WC_sr fun K6 hK6 => ?_
 refine WL_r (Rd_move rfl) rfl ?_
 refine WL_r (Rd_addN (j := 1) rfl rfl) rfl ?_
 refine WL_r (Rd_assign rfl) rfl ?_
 refine WL_end hK6 ?_
 refine WC_block ?_
 refine WC_loopK (σ := Nat × Nat × (List Pr)) (fun ⟨j, i, A⟩ => [(5, .int .i64 ((i : Nat) : Int)), (6, .int .i64 ((j : Nat) : Int))]) (fun ⟨j, i, A⟩ => [arr (some gb) cap 2 24 ePr A]) (fun ⟨j, i, A⟩ => HalfD l p j i A) (fun ⟨j, i, A⟩ => l.length - j) ⟨i0 + 1, i0, l⟩ [0, 1, 4, 36, 37, 38, 39, 40, 41] kpA (by (try dsimp only); repeat (first | with_reducible exact Gv.nil | (with_reducible apply Gv.cons; · (repeat (first | with_reducible exact Ext.here | with_reducible apply Ext.there))))) ?_ ?_ Sub.refl ?_
 ·exact half_beg hi0
 ·(try dsimp only); exact (Wk.cons lkA (Wk.cons lkA Wk.nil))
 ·rintro ⟨j, i, A⟩ hH K7 hK7
  simp only [List.cons_append, List.nil_append]
  refine WC_seq fun K8 hK8 => ?_
  refine WC_sr fun K9 hK9 => ?_
  refine WL_r (Rd_move rfl) rfl ?_
  refine WL_r (Rd_move rfl) rfl ?_
  refine WL_r (Rd_len rfl rfl ud22) rfl ?_
  refine WL_r (Rd_lssN rfl rfl) rfl ?_
  refine WL_end hK9 ?_
  refine WC_cond rfl (fun hc1 => ?_) (fun hc1 => ?_)
  ·try simp only [dz, ne_eq] at hc1
   obtain ⟨y, hy⟩ : ∃ y, l[j]? = some y := ⟨_, List.getElem?_eq_getElem (by omega)⟩
   have hyA := (half_at hH (by omega)).trans hy
   have hHl := hH.len
   have hHij := hH.ij
   refine WC_skip ?_
   refine Ps_next hK8 ?_
   refine WC_seq fun K10 hK10 => ?_
   refine WC_block ?_
   refine WC_sr fun K11 hK11 => ?_
   refine WL_r (Rd_move rfl) rfl ?_
   refine WL_r (Rd_move rfl) rfl ?_
   refine WL_r (Rd_index j rfl rfl ud22 sz24 (hj := by omega)) rfl ?_
   refine WL_r (Rd_loadg_arr (f := ePr) (i := j) (y := y) rfl tk24 (hl := hyA)) rfl ?_
   refine WL_ac (Ac_alloc zr24) rfl rfl rfl ?_
   rintro _ _ ⟨b7, rfl, rfl⟩
   refine WL_ac0 (Ac_store (ys := ePr y) rfl rfl sz24 (h1 := encPr.one y) (hv := rfl) (hr := rfl)) rfl rfl ?_
   rintro _ _ rfl
   refine WL_end hK11 ?_
   refine WC_sr fun K12 hK12 => ?_
   refine WL_r (Rd_move rfl) rfl ?_
   refine WL_r (Rd_loadg (vs := ePr y) rfl tk24) rfl ?_
   refine WL_ac (Ac_callv rfl cf38 rfl rfl rfl rfl (hs := m1_ct (b9 := b9) (p := p) (q := y))) rfl rfl rfl ?_
   rintro _ _ ⟨⟨⟩, rfl, hA⟩
   simp only [List.cons_append, List.nil_append] at hA
   replace hA := hA.symm
   subst hA
   refine WL_r (Rd_not rfl) rfl ?_
   refine WL_end hK12 ?_
   refine WC_cond rfl (fun hc2 => ?_) (fun hc2 => ?_)
   ·try simp only [dz, ne_eq] at hc2
    have hHy := half_yes hH hy (by first | assumption | simp_all)
    refine WC_sr fun K13 hK13 => ?_
    refine WL_r (Rd_move rfl) rfl ?_
    refine WL_r (Rd_move rfl) rfl ?_
    refine WL_r (Rd_loadg (vs := ePr y) rfl tk24) rfl ?_
    refine WL_r (Rd_index i rfl rfl ud22 sz24 (hj := by omega)) rfl ?_
    refine WL_ac0 (Ac_storeg_arr y rfl rfl sz24 (i := i) (hl := by omega) (h1 := encPr.one y)) rfl rfl ?_
    rintro _ _ rfl
    refine WL_end hK13 ?_
    refine WC_region ?_
    refine WL_r (Rd_move rfl) rfl ?_
    refine WL_r (Rd_addN (j := 1) rfl rfl) rfl ?_
    refine WL_r (Rd_assign rfl) rfl ?_
    refine WL_nil ?_
    refine Ps_next hK10 ?_
    refine WC_region ?_
    refine WL_r (Rd_move rfl) rfl ?_
    refine WL_r (Rd_addN (j := 1) rfl rfl) rfl ?_
    refine WL_r (Rd_assign rfl) rfl ?_
    refine WL_nil ?_
    refine Ps_wkB (hK7 ⟨j + 1, i + 1, A.set i y⟩ (hHy) (by (try dsimp only); omega))
   ·try simp only [dz, ne_eq] at hc2
    have hHy := half_no hH hy (by first | assumption | simp_all)
    refine WC_skip ?_
    refine Ps_next hK10 ?_
    refine WC_region ?_
    refine WL_r (Rd_move rfl) rfl ?_
    refine WL_r (Rd_addN (j := 1) rfl rfl) rfl ?_
    refine WL_r (Rd_assign rfl) rfl ?_
    refine WL_nil ?_
    refine Ps_wkB (hK7 ⟨j + 1, i, A⟩ (hHy) (by (try dsimp only); omega))
  ·try simp only [dz, ne_eq] at hc1
   obtain rfl : j = l.length := by have := hH.jl; omega
   have hHl := hH.len
   have hHij := hH.ij
   refine WC_exit ?_
   refine Ps_next hK5 ?_
   refine WC_sr fun K14 hK14 => ?_
   refine WL_r (Rd_move rfl) rfl ?_
   refine WL_r (Rd_move rfl) rfl ?_
   refine WL_r (Rd_slice_lo i rfl rfl ud22 sz24 rfl (by omega) (by omega)) rfl ?_
   refine WL_ac0 (Ac_clear (f := ePr) (l := A) i (0, 0) rfl ud22 zr24 rfl rfl (by decide) (by repeat (first | with_reducible exact Ext.here | with_reducible apply Ext.there)) (by omega)) rfl rfl ?_
   rintro _ _ rfl
   refine WL_end hK14 ?_
   refine WC_sr fun K15 hK15 => ?_
   refine WL_r (Rd_move rfl) rfl ?_
   refine WL_r (Rd_move rfl) rfl ?_
   obtain ⟨he1, he2⟩ := half_end hH
   refine WL_cut ?_
   rw [he1, he2]
   refine WL_r (Rd_slice_hi (leftP l p).length rfl rfl ud22 sz24 (hi := by omega)) rfl ?_
   refine WL_r (Rd_assign rfl) rfl ?_
   refine WL_end hK15 ?_
   refine WC_ret ?_
   exact hret.gf () (Rs1 rfl rfl)

theorem cloneP_ct {X : Asn} {v : Value} {l : List Pr} {ao : Option Addr} {cap : Nat} (hS : Sv [X] v 2 ePr l ao cap) (hn : l.length ≤ 100000000) : Ct Try.prog 37 [v] [X] (fun g : Option Nat × Nat => sl g.1 l.length g.2) (fun g => [X, arr g.1 g.2 2 24 ePr l]) := by
 refine Ct_body (n := 8) Try.func37 rfl rfl rfl fun F w0 Q hret hnorm hp => ?_
 change WC _ _ _ _ _ _ _ (_ :: F)
 have hv0 := hS.val
 subst hv0
 refine WC_sr fun K1 hK1 => ?_
 refine WL_r (Rd_assign (v := sl none 0 0) rfl) rfl ?_
 refine WL_end hK1 ?_
 refine WC_seq fun K2 hK2 => ?_
 refine WC_sr fun K3 hK3 => ?_
 refine WL_r (Rd_move rfl) rfl ?_
 refine WL_r (Rd_seq rfl rfl ud22) rfl ?_
 refine WL_end hK3 ?_
 refine WC_cond rfl (fun hc0 => ?_) (fun hc0 => ?_)
 ·try simp only [dz, ne_eq] at hc0
  have hnil := sv_nilB hS hc0
  subst hnil
  refine WC_imp (fun w h => sat_nil (e := 2) (T := 24) (f := ePr) h) ?_
  refine WC_sr fun K4 hK4 => ?_
  refine WL_r (Rd_assign (v := sl none 0 0) rfl) rfl ?_
  refine WL_end hK4 ?_
  refine WC_ret ?_
  first | exact hret.go (none, 0) (Rs1 rfl rfl) | exact hret.go (a7, cap7) (Rs1 rfl rfl)
 ·try simp only [dz, ne_eq] at hc0
  refine WC_skip ?_
  refine Ps_next hK2 ?_
  refine WC_sr fun K5 hK5 => ?_
  refine WL_ac (Ac_bsL (f := ePr) (zs := [.int .i64 0, .int .i64 0]) (bs := []) [] encPr ud22 zr24 sz24 rfl (by kernel_rfl) (by rfl) (by rfl) (by rfl) (by rfl)) rfl rfl rfl ?_
  rintro _ _ ⟨b5, rfl, rfl⟩
  refine WL_r (Rd_move rfl) rfl ?_
  refine WL_ac (Ac_appendS (f := ePr) encPr rfl rfl ud22 ud22 el24 (hS := hS) (hb := by simp only [List.length_nil]; omega)) rfl rfl rfl ?_
  rintro _ _ ⟨a7, cap7, rfl, rfl⟩
  rw [show ([] : List Pr).length + l.length = l.length from Nat.zero_add _, List.nil_append]
  refine WL_r (Rd_assign rfl) rfl ?_
  refine WL_end hK5 ?_
  refine WC_ret ?_
  first | exact hret.go (none, 0) (Rs1 rfl rfl) | exact hret.go (a7, cap7) (Rs1 rfl rfl)
end Go.Proofs.Ytilmiikfjcdllaa
namespace Go.Proofs.Ytilmiikfjcdllaa
open Go.RowKit Go.SL Go.ShM Go.HyM Go.Fl Go.SvM
set_option maxHeartbeats 1000000
set_option maxRecDepth 20000
set_option linter.all false
theorem cf36 : cfn Try.prog 36 = true := by kernel_rfl
theorem cf37 : cfn Try.prog 37 = true := by kernel_rfl
theorem Match_no {X : Asn} {v : Value} {ps : List Pr} {ao : Option Addr} {cap : Nat} (hS : Sv [X] v 2 ePr ps ao cap) (hn : ps.length ≤ 100000000) (hm : ¬ mayP ps) : Ct Try.prog 14 [v] [X] (fun _ : Unit => .tuple #[sl none 0 0, .int .i64 230]) (fun _ => [X]) := by
 refine Ct_body (n := 47) Try.func14 rfl rfl rfl fun F w0 Q hret hnorm hp => ?_
 change WC _ _ _ _ _ _ _ (_ :: F)
 refine WC_sr fun K1 hK1 => ?_
 refine WL_r (Rd_assign (v := sl none 0 0) rfl) rfl ?_
 refine WL_r (Rd_assign rfl) rfl ?_
 refine WL_end hK1 ?_
 refine WC_sr fun K2 hK2 => ?_
 refine WL_r (Rd_move rfl) rfl ?_
 refine WL_ac (Ac_call cf28 rfl (hs := look_no (X := X) (ps := ps) hS hn hm)) rfl rfl rfl ?_
 rintro _ _ ⟨⟨⟩, rfl, hA⟩
 simp only [List.cons_append, List.nil_append] at hA
 replace hA := hA.symm
 subst hA
 refine WL_r (Rd_move rfl) rfl ?_
 refine WL_r (Rd_ext0 rfl) rfl ?_
 refine WL_r (Rd_ext1 rfl) rfl ?_
 refine WL_r (Rd_assign rfl) rfl ?_
 refine WL_r (Rd_assign rfl) rfl ?_
 refine WL_end hK2 ?_
 refine WC_seq fun K3 hK3 => ?_
 refine WC_sr fun K4 hK4 => ?_
 refine WL_r (Rd_move rfl) rfl ?_
 refine WL_r (Rd_neqN (i := 230) (j := 0) rfl rfl) rfl ?_
 refine WL_end hK4 ?_
 refine WC_condT rfl ?_
 refine WC_sr fun K5 hK5 => ?_
 refine WL_r (Rd_move rfl) rfl ?_
 refine WL_r (Rd_assign (v := sl none 0 0) rfl) rfl ?_
 refine WL_r (Rd_assign rfl) rfl ?_
 refine WL_end hK5 ?_
 refine WC_ret ?_
 exact hret.gf () (Rs2 rfl rfl rfl)

theorem Match_ok {X : Asn} {v : Value} {ps : List Pr} {ao : Option Addr} {cap : Nat} (hS : Sv [X] v 2 ePr ps ao cap) (hn : ps.length ≤ 100000000) (hm : mayP ps) : Ct Try.prog 14 [v] [X] (fun g : Option Nat × Nat => .tuple #[sl g.1 (matM (sizeM (lookP ps)) (lookP ps)).length g.2, .int .i64 0]) (fun g => [X, arr g.1 g.2 2 24 ePr (matM (sizeM (lookP ps)) (lookP ps))]) := by
 refine Ct_body (n := 47) Try.func14 rfl rfl rfl fun F w0 Q hret hnorm hp => ?_
 change WC _ _ _ _ _ _ _ (_ :: F)
 have hpl := lookP_len ps
 have hpk := lookP_ok ps
 have hb1 := size_fst hpk
 have hb2 := cnt_le (lookP ps) Prod.fst
 refine WC_sr fun K1 hK1 => ?_
 refine WL_r (Rd_assign (v := sl none 0 0) rfl) rfl ?_
 refine WL_r (Rd_assign rfl) rfl ?_
 refine WL_end hK1 ?_
 refine WC_sr fun K2 hK2 => ?_
 refine WL_r (Rd_move rfl) rfl ?_
 refine WL_ac (Ac_call cf28 rfl (hs := look_ok (X := X) (ps := ps) hS hn hm)) rfl rfl rfl ?_
 rintro _ _ ⟨⟨ga, gc⟩, rfl, hA⟩
 simp only [List.cons_append, List.nil_append] at hA
 replace hA := hA.symm
 subst hA
 refine WL_fact (fun w h => arr_facts (a := ga) (cap := gc) (e := 2) (T := 24) (f := ePr) (l := (lookP ps)) hasA h) (fun hL0f => ?_)
 have hL0 : Sv [arr ga gc 2 24 ePr (lookP ps)] (sl ga ((lookP ps)).length gc) 2 ePr (lookP ps) ((ga : Option Nat).map fun g => ⟨g, 0, none⟩) gc := Sv_own' encPr hL0f.1 hL0f.2
 refine WL_r (Rd_move rfl) rfl ?_
 refine WL_r (Rd_ext0 rfl) rfl ?_
 refine WL_r (Rd_ext1 rfl) rfl ?_
 refine WL_r (Rd_assign rfl) rfl ?_
 refine WL_r (Rd_assign rfl) rfl ?_
 refine WL_end hK2 ?_
 refine WC_seq fun K3 hK3 => ?_
 refine WC_sr fun K4 hK4 => ?_
 refine WL_r (Rd_move rfl) rfl ?_
 refine WL_r (Rd_neqN (i := 0) (j := 0) rfl rfl) rfl ?_
 refine WL_end hK4 ?_
 refine WC_condF rfl ?_
 refine WC_skip ?_
 refine Ps_next hK3 ?_
 refine WC_sr fun K5 hK5 => ?_
 refine WL_r (Rd_assign (v := sl none 0 0) rfl) rfl ?_
 refine WL_nilarr ePr 2 24 ?_
 refine WL_end hK5 ?_
 refine WC_seq fun K6 hK6 => ?_
 refine WC_sr fun K7 hK7 => ?_
 refine WL_r (Rd_move rfl) rfl ?_
 refine WL_ac (Ac_call cf32 rfl (hs := size_ct (X := arr ga gc 2 24 ePr (lookP ps)) (l := (lookP ps)) hL0 (by omega) hpk)) rfl rfl rfl ?_
 rintro _ _ ⟨⟨⟩, rfl, hA⟩
 simp only [List.cons_append, List.nil_append] at hA
 replace hA := hA.symm
 subst hA
 refine WL_r (Rd_assign rfl) rfl ?_
 refine WL_end hK7 ?_
 refine WC_block ?_
 refine WC_loopK (σ := Nat × (List Pr) × (List Pr) × (Option Nat) × Nat × (Option Nat) × Nat) (fun ⟨w1, l, out, a4, c4, a6, c6⟩ => [(4, sl a4 l.length c4), (6, sl a6 out.length c6), (7, .int .i64 ((w1 : Nat) : Int))]) (fun ⟨w1, l, out, a4, c4, a6, c6⟩ => [arr a4 c4 2 24 ePr l, arr a6 c6 2 24 ePr out]) (fun ⟨w1, l, out, a4, c4, a6, c6⟩ => sizeM l = w1 ∧ (∀ p ∈ l, pOk p) ∧ l.length ≤ 8160 ∧ out ++ matM w1 l = (matM (sizeM (lookP ps)) (lookP ps)) ∧ out.length + w1 = sizeM (lookP ps)) (fun ⟨w1, l, out, a4, c4, a6, c6⟩ => w1) ⟨sizeM (lookP ps), (lookP ps), [], ga, gc, none, 0⟩ [2, 3, 46] kpA (by (try dsimp only); repeat (first | with_reducible exact Gv.nil | (with_reducible apply Gv.cons; · (repeat (first | with_reducible exact Ext.here | with_reducible apply Ext.there))))) ?_ ?_ Sub.refl ?_
 ·exact ⟨rfl, hpk, hpl, rfl, by simp⟩
 ·(try dsimp only); exact (Wk.cons lkA (Wk.cons lkA (Wk.cons lkA Wk.nil)))
 ·rintro ⟨w1, l, out, a4, c4, a6, c6⟩ ⟨hsz, hok, hln, hout, hol⟩ K8 hK8
  simp only [List.cons_append, List.nil_append]
  refine WC_seq fun K9 hK9 => ?_
  refine WC_sr fun K10 hK10 => ?_
  refine WL_r (Rd_move rfl) rfl ?_
  refine WL_r (Rd_gtrN (j := 0) rfl rfl) rfl ?_
  refine WL_end hK10 ?_
  refine WC_cond rfl (fun hc1 => ?_) (fun hc1 => ?_)
  ·try simp only [dz, ne_eq] at hc1
   obtain ⟨w, rfl⟩ : ∃ w, w1 = w + 1 := ⟨w1 - 1, by omega⟩
   refine WC_skip ?_
   refine Ps_next hK9 ?_
   refine WC_seq fun K11 hK11 => ?_
   refine WC_block ?_
   refine WC_sr fun K12 hK12 => ?_
   refine WL_r (Rd_move rfl) rfl ?_
   refine WL_fact (fun w h => arr_facts (a := a4) (cap := c4) (e := 2) (T := 24) (f := ePr) (l := l) hasA h) (fun hLf => ?_)
   have hL : Sv [arr a4 c4 2 24 ePr l] (sl a4 (l).length c4) 2 ePr l ((a4 : Option Nat).map fun g => ⟨g, 0, none⟩) c4 := Sv_own' encPr hLf.1 hLf.2
   refine WL_r (Rd_len rfl rfl ud22) rfl ?_
   refine WL_r (Rd_move rfl) rfl ?_
   refine WL_end hK12 ?_
   refine WC_block ?_
   refine WC_loopK (σ := Nat) (fun i => [(4, sl a4 l.length c4), (6, sl a6 out.length c6), (27, .int .i64 ((i : Nat) : Int))]) (fun i => []) (fun i => i ≤ l.length ∧ (∀ y ∈ l.take i, sizeM (leftP l y) ≠ w)) (fun i => l.length - i) (0) [2, 3, 7, 21, 22, 23, 24, 25, 26, 46] kpA (by (try dsimp only); repeat (first | with_reducible exact Gv.nil | (with_reducible apply Gv.cons; · (repeat (first | with_reducible exact Ext.here | with_reducible apply Ext.there))))) ?_ ?_ Sub.refl ?_
   ·exact ⟨Nat.zero_le _, fun y h => by simp at h⟩
   ·(try dsimp only); exact (Wk.cons lkA (Wk.cons lkA (Wk.cons lkA Wk.nil)))
   ·rintro i ⟨hi, hnot⟩ K13 hK13
    simp only [List.cons_append, List.nil_append]
    refine WC_sr fun K14 hK14 => ?_
    refine WL_r (Rd_lssN rfl rfl) rfl ?_
    refine WL_end hK14 ?_
    refine WC_seq fun K15 hK15 => ?_
    refine WC_cond rfl (fun hc2 => ?_) (fun hc2 => ?_)
    ·try simp only [dz, ne_eq] at hc2
     obtain ⟨p, hp0⟩ : ∃ p, l[i]? = some p := ⟨_, List.getElem?_eq_getElem (by omega)⟩
     have hpm := List.mem_of_getElem? hp0
     refine WC_skip ?_
     refine Ps_next hK15 ?_
     refine WC_seq fun K16 hK16 => ?_
     refine WC_block ?_
     refine WC_sr fun K17 hK17 => ?_
     refine WL_r (Rd_index_sv i rfl rfl ud22 sz24 (hA := hL) (hi := by omega)) rfl ?_
     refine WL_r (Rd_loadg_sv (f := ePr) (i := i) (y := p) rfl tk24 (hA := hL) (hl := hp0)) rfl ?_
     refine WL_ac (Ac_alloc zr24) rfl rfl rfl ?_
     rintro _ _ ⟨b9, rfl, rfl⟩
     refine WL_ac0 (Ac_store (ys := ePr p) rfl rfl sz24 (h1 := encPr.one p) (hv := rfl) (hr := rfl)) rfl rfl ?_
     rintro _ _ rfl
     refine WL_end hK17 ?_
     refine WC_sr fun K18 hK18 => ?_
     refine WL_r (Rd_move rfl) rfl ?_
     refine WL_ac (Ac_call cf37 rfl (hs := cloneP_ct (X := arr a4 c4 2 24 ePr l) (l := l) hL (by omega))) rfl rfl rfl ?_
     rintro _ _ ⟨⟨a10, c10⟩, rfl, hA⟩
     simp only [List.cons_append, List.nil_append] at hA
     replace hA := hA.symm
     subst hA
     refine WL_fact (fun w h => arr_facts (a := a10) (cap := c10) (e := 2) (T := 24) (f := ePr) (l := l) hasA h) (fun hCf => ?_)
     have hC : Sv [arr a10 c10 2 24 ePr l] (sl a10 (l).length c10) 2 ePr l ((a10 : Option Nat).map fun g => ⟨g, 0, none⟩) c10 := Sv_own' encPr hCf.1 hCf.2
     obtain ⟨gb, rfl⟩ : ∃ gb, a10 = some gb := by cases a10 with | none => exact absurd (hCf.1 rfl) (List.ne_nil_of_mem hpm) | some g => exact ⟨g, rfl⟩
     refine WL_r (Rd_makeFunc rfl rfl) rfl ?_
     refine WL_ac (Ac_call cf36 rfl (hs := delP_ct (l := l) (gb := gb) (cap := c10) (b9 := b9) (p := p) hpm (by omega))) rfl rfl rfl ?_
     rintro _ _ ⟨⟨⟩, rfl, hA⟩
     simp only [List.cons_append, List.nil_append] at hA
     replace hA := hA.symm
     subst hA
     refine WL_r (Rd_assign rfl) rfl ?_
     refine WL_end hK18 ?_
     refine WC_sr fun K19 hK19 => ?_
     refine WL_r (Rd_move rfl) rfl ?_
     refine WL_fact (fun w h => arr_facts (a := (some gb)) (cap := c10) (e := 2) (T := 24) (f := ePr) (l := (leftP l p)) hasA h) (fun hDf => ?_)
     have hD : Sv [arr (some gb) c10 2 24 ePr (leftP l p)] (sl (some gb) ((leftP l p)).length c10) 2 ePr (leftP l p) (((some gb) : Option Nat).map fun g => ⟨g, 0, none⟩) c10 := Sv_own' encPr hDf.1 hDf.2
     refine WL_ac (Ac_call cf32 rfl (hs := size_ct (X := arr (some gb) c10 2 24 ePr (leftP l p)) (l := leftP l p) hD (by have := leftP_len l p; omega) (leftP_ok hok))) rfl rfl rfl ?_
     rintro _ _ ⟨⟨⟩, rfl, hA⟩
     simp only [List.cons_append, List.nil_append] at hA
     replace hA := hA.symm
     subst hA
     refine WL_r (Rd_move rfl) rfl ?_
     refine WL_r (Rd_subN (j := 1) rfl rfl) rfl ?_
     refine WL_r (Rd_eqlN rfl rfl) rfl ?_
     refine WL_end hK19 ?_
     refine WC_cond rfl (fun hc3 => ?_) (fun hc3 => ?_)
     ·try simp only [dz, ne_eq] at hc3
      have hsz2 : sizeM (leftP l p) = w := by omega
      have hpick := pick_at hp0 hnot hsz2
      refine WC_sr fun K20 hK20 => ?_
      refine WL_r (Rd_move rfl) rfl ?_
      refine WL_r (Rd_loadg (vs := ePr p) rfl tk24) rfl ?_
      refine WL_ac (Ac_bs1 (xs := ePr p) rfl ud22 zr24 sz24 (hl := encPr.len _)) rfl rfl rfl ?_
      rintro _ _ ⟨b42, rfl, rfl⟩
      refine WL_ac (Ac_append1 (f := ePr) encPr p rfl rfl ud22 ud22 el24) rfl rfl rfl ?_
      rintro _ _ ⟨a43, cap43, rfl, rfl⟩
      rw [show out.length + 1 = (out ++ [p]).length from by rw [List.length_append]; rfl]
      refine WL_r (Rd_assign rfl) rfl ?_
      refine WL_end hK20 ?_
      refine WC_sr fun K21 hK21 => ?_
      refine WL_r (Rd_move rfl) rfl ?_
      refine WL_r (Rd_assign rfl) rfl ?_
      refine WL_end hK21 ?_
      refine WC_exit ?_
      refine Ps_next hK11 ?_
      refine WC_region ?_
      refine WL_r (Rd_move rfl) rfl ?_
      refine WL_r (Rd_subN (j := 1) rfl rfl) rfl ?_
      refine WL_r (Rd_assign rfl) rfl ?_
      refine WL_nil ?_
      refine Ps_wkB (hK8 ⟨w, leftP l p, out ++ [p], some gb, c10, a43, cap43⟩ (⟨hsz2, leftP_ok hok, Nat.le_trans (leftP_len l p) hln, mat_step hpick hout, by rw [List.length_append]; (try dsimp only); simp only [List.length_cons, List.length_nil]; omega⟩) (by (try dsimp only); omega))
     ·try simp only [dz, ne_eq] at hc3
      have hsz2 : sizeM (leftP l p) ≠ w := by omega
      refine WC_skip ?_
      refine Ps_next hK16 ?_
      refine WC_region ?_
      refine WL_r (Rd_addN (j := 1) rfl rfl) rfl ?_
      refine WL_r (Rd_move rfl) rfl ?_
      refine WL_nil ?_
      refine Ps_wkB (hK13 (i + 1) (⟨by omega, pick_snoc hp0 hnot hsz2⟩) (by omega))
    ·try simp only [dz, ne_eq] at hc2
     obtain rfl : i = l.length := by omega
     rw [List.take_length] at hnot
     exact (pick_never hok hsz hnot).elim
  ·try simp only [dz, ne_eq] at hc1
   obtain rfl : w1 = 0 := by omega
   rw [show matM 0 l = [] from rfl, List.append_nil] at hout
   subst hout
   refine WC_exit ?_
   refine Ps_next hK6 ?_
   refine WC_sr fun K22 hK22 => ?_
   refine WL_r (Rd_move rfl) rfl ?_
   refine WL_r (Rd_assign rfl) rfl ?_
   refine WL_r (Rd_assign rfl) rfl ?_
   refine WL_end hK22 ?_
   refine WC_ret ?_
   exact hret.gf (a6, c6) (Rs2 rfl rfl rfl)
end Go.Proofs.Ytilmiikfjcdllaa
/-
  Marks in memory, and rounds of marking. (Conditions: none; generic over the program.)
-/
set_option maxRecDepth 20000
namespace Go.HyM
open Go.SL Go.RowKit
section
variable {P : Program} {n : Nat} {L : List (Nat × Value)} {A : List Asn} {d : Option Tmp} {ty : TypeId} {pos : String} {af : Array Edge} {g : Option (Nat × Bool)}
theorem Rd_indexB {t et : TypeId} {x y : Operand} {kk : IntKind} {j : Int} {b : Nat} {len : Nat} (i : Nat) (hx : ev L x = some (.pointer (some ⟨b, 0, none⟩))) (hy : ev L y = some (.int kk j)) (hu : P.underlying t = some (.array len et)) (hz : sz P et = some 1) (hj : j = i) (hi : i < len) :
    Rd P n ⟨d, .indexAddr t x y, ty, pos, af, g⟩ L A (.pointer (some ⟨b, i, none⟩)) := by
  have h := Rd_indexA (P := P) (n := n) (L := L) (A := A) (d := d) (ty := ty) (pos := pos) (af := af) (g := g) i hx hy hu hz hj hi
  rwa [Nat.zero_add, Nat.mul_one] at h
end
theorem blt_map {b : List Bool} {i : Nat} (h : i < b.length) : Nat.blt i (b.map Value.bool).length = true := by
  rw [List.length_map]; simpa [Nat.blt_eq] using h
theorem set_map {b : List Bool} {x : Int} : (b.map Value.bool).set x.toNat (.bool true) = (bSet b x).map Value.bool := by unfold bSet; rw [List.map_set]
theorem mem_snoc {α : Type} {l : List α} {i : Nat} {p : α} {φ : α → Prop} (h : l[i]? = some p) (h0 : ∀ q ∈ l.take i, φ q) (h1 : φ p) : ∀ q ∈ l.take (i + 1), φ q := fun q hq => by
  rw [List.take_add_one, h, List.mem_append] at hq
  rcases hq with hq | hq
  · exact h0 q hq
  · rw [Option.toList_some, List.mem_singleton] at hq
    rw [hq]; exact h1
theorem mark_step {m : List Pr} {i : Nat} {q : Pr} {mb : List Bool} (h : m[i]? = some q) (hq : 0 ≤ q.1 ∧ q.1.toNat < mb.length) (h0 : ∀ x, 0 ≤ x → (bAt mb x = true ↔ ∃ q ∈ m.take i, q.1 = x)) : ∀ x, 0 ≤ x → (bAt (bSet mb q.1) x = true ↔ ∃ q ∈ m.take (i + 1), q.1 = x) := fun x hx => by
  rw [bAt_set hq hx, List.take_add_one, h]
  simp only [Option.toList_some, List.mem_append, List.mem_singleton]
  by_cases e : x = q.1
  · rw [if_pos e]
    exact ⟨fun _ => ⟨q, .inr rfl, e.symm⟩, fun _ => rfl⟩
  · rw [if_neg e, h0 x hx]
    constructor
    · rintro ⟨z, hz, k⟩; exact ⟨z, .inl hz, k⟩
    · rintro ⟨z, hz | hz, k⟩
      · exact ⟨z, hz, k⟩
      · rw [hz] at k; exact absurd k.symm e
theorem on_more {b : List Bool} {x y : Int} (hx : 0 ≤ x ∧ x.toNat < b.length) (hy : 0 ≤ y) (h : bAt b y = true) : bAt (bSet b x) y = true := by
  rw [bAt_set hx hy]; split
  · rfl
  · exact h
theorem on_it {b : List Bool} {x : Int} (hx : 0 ≤ x ∧ x.toNat < b.length) : bAt (bSet b x) x = true := by rw [bAt_set hx hx.1, if_pos rfl]
section
variable {ps m : List Pr} {sb nb : List Bool}
theorem k_lone (h : KOk ps m (onB sb) (onB nb)) (hm : IsM ps m) {x : Int} (hx : 0 ≤ x ∧ x.toNat < sb.length) (hs : ∀ q ∈ m, q.1 ≠ x) : KOk ps m (onB (bSet sb x)) (onB nb) := by
  rw [onB_set hx]; exact h.lone hm hs
theorem k_back (h : KOk ps m (onB sb) (onB nb)) (hm : IsM ps m) {q : Pr} (hq : q ∈ m) (hx : 0 ≤ q.1 ∧ q.1.toNat < sb.length) (h0 : 0 ≤ q.2) (hn : bAt nb q.2 = true) : KOk ps m (onB (bSet sb q.1)) (onB nb) := by
  rw [onB_set hx]; exact h.back hm hq ⟨h0, hn⟩
theorem k_along (h : KOk ps m (onB sb) (onB nb)) (hmax : ∀ M, IsM ps M → M.length ≤ m.length) {p : Pr} (hp : p ∈ ps) (h0 : 0 ≤ p.1) (hs : bAt sb p.1 = true) (hx : 0 ≤ p.2 ∧ p.2.toNat < nb.length) (hn : bAt nb p.2 = false) : KOk ps m (onB sb) (onB (bSet nb p.2)) := by
  rw [onB_set hx]
  exact h.along hmax hp ⟨h0, hs⟩ fun k => by rw [k.2] at hn; cases hn
end
theorem k_zero {ps m : List Pr} {a b : Nat} : KOk ps m (onB (List.replicate a false)) (onB (List.replicate b false)) := by
  rw [onB_none, onB_none]; exact KOk.zero
theorem getP {l : List Pr} {i : Nat} (h : i < l.length) : l[i]? = some (l.getD i (0, 0)) := by
  rw [List.getD_eq_getElem?_getD, List.getElem?_eq_getElem h]; rfl
theorem pw_prev {l : List Pr} {i : Nat} {q : Pr} (h : l.Pairwise fun a b => a.1 < b.1) (hq : l[i]? = some q) (h0 : 0 < i) : (l.getD (i - 1) (0, 0)).1 < q.1 := by
  obtain ⟨hi, e⟩ := List.getElem?_eq_some_iff.1 hq
  have h1 := List.pairwise_iff_getElem.1 h (i - 1) i (by omega) hi (by omega)
  rw [e] at h1
  rw [List.getD_eq_getElem?_getD, List.getElem?_eq_getElem (show i - 1 < l.length by omega)]
  exact h1
theorem snd_ne {l : List Pr} {i k : Nat} {q z : Pr} (h : (l.map Prod.snd).Nodup) (hq : l[i]? = some q) (hz : l[k]? = some z) (hk : k < i) : z.2 ≠ q.2 := by
  obtain ⟨hi, e⟩ := List.getElem?_eq_some_iff.1 hq
  obtain ⟨hj, e2⟩ := List.getElem?_eq_some_iff.1 hz
  have h1 := List.pairwise_iff_getElem.1 (List.pairwise_map.1 h) k i hj hi hk
  rw [e, e2] at h1
  exact h1
theorem in_snoc {l : List Pr} {i : Nat} {p q : Pr} (h : l[i]? = some p) : decide (q ∈ l.take (i + 1)) = (decide (q ∈ l.take i) || decide (p = q)) := by
  rw [List.take_add_one, h]
  simp only [Option.toList_some, List.mem_append, List.mem_singleton]
  rw [Bool.eq_iff_iff]
  simp only [Bool.or_eq_true, decide_eq_true_eq]
  exact ⟨fun k => k.imp id Eq.symm, fun k => k.imp id Eq.symm⟩
theorem mat_in {ps : List Pr} (h : ∀ p ∈ ps, pOk p) : IsM ps (matM (sizeM (lookP ps)) (lookP ps)) ∧ (matM (sizeM (lookP ps)) (lookP ps)).length = sizeM (lookP ps) ∧ ((matM (sizeM (lookP ps)) (lookP ps)).Pairwise fun a b => a.1 < b.1) ∧ ∀ M, IsM ps M → M.length ≤ (matM (sizeM (lookP ps)) (lookP ps)).length := by
  obtain ⟨a, b, c⟩ := matM_ok (sizeM (lookP ps)) (lookP_ok ps) rfl
  refine ⟨a.mono fun p hp => (lookP_mem h p).1 hp, b, c, fun M hM => ?_⟩
  rw [b]
  exact (sizeM_max (lookP_ok ps)).2 M (hM.mono fun p hp => (lookP_mem h p).2 hp)
end Go.HyM
namespace Go.Proofs.Ytilmiikfjcdllaa
open Go.RowKit Go.SL Go.ShM Go.HyM Go.Fl Go.SvM
set_option maxHeartbeats 1000000
set_option maxRecDepth 20000
set_option linter.all false
theorem ud64 : Try.prog.underlying 64 = some (.array 32 4) := by kernel_rfl
theorem ud65 : Try.prog.underlying 65 = some (.array 255 4) := by kernel_rfl
theorem zrS : zr Try.prog 64 = some ((List.replicate 32 false).map Value.bool) := by kernel_rfl
theorem zrN : zr Try.prog 65 = some ((List.replicate 255 false).map Value.bool) := by kernel_rfl

theorem covered_ct {X : Asn} {v u : Value} {ps m : List Pr} {ao ao2 : Option Addr} {cap cap2 : Nat} (hS : Sv [X] v 2 ePr ps ao cap) (hM : Sv [X] u 2 ePr m ao2 cap2) (hn : ps.length ≤ 10000) (hml : m.length ≤ 10000) (hok : ∀ p ∈ ps, pOk p) (hm : IsM ps m) (hmax : ∀ M, IsM ps M → M.length ≤ m.length) : Ct Try.prog 15 [v, u] [X] (fun _ : Unit => .bool true) (fun _ => [X]) := by
 refine Ct_body (n := 194) Try.func15 rfl rfl rfl fun F w0 Q hret hnorm hp => ?_
 change WC _ _ _ _ _ _ _ (_ :: F)
 have hmok : ∀ q ∈ m, pOk q := fun q hq => hok q (hm.sub q hq)
 refine WC_sr fun K1 hK1 => ?_
 refine WL_r (Rd_assign rfl) rfl ?_
 refine WL_end hK1 ?_
 refine WC_sr fun K2 hK2 => ?_
 refine WL_ac (Ac_alloc zrS) rfl rfl rfl ?_
 rintro _ _ ⟨b5, rfl, rfl⟩
 refine WL_end hK2 ?_
 refine WC_sr fun K3 hK3 => ?_
 refine WL_ac (Ac_alloc zrN) rfl rfl rfl ?_
 rintro _ _ ⟨b6, rfl, rfl⟩
 refine WL_end hK3 ?_
 refine WC_sr fun K4 hK4 => ?_
 refine WL_ac (Ac_alloc zrS) rfl rfl rfl ?_
 rintro _ _ ⟨b7, rfl, rfl⟩
 refine WL_end hK4 ?_
 refine WC_seq fun K5 hK5 => ?_
 refine WC_sr fun K6 hK6 => ?_
 refine WL_r (Rd_assign rfl) rfl ?_
 refine WL_end hK6 ?_
 refine WC_block ?_
 refine WC_loopK (σ := Nat × (List Bool)) (fun ⟨i, mb⟩ => [(8, .int .i64 ((i : Nat) : Int))]) (fun ⟨i, mb⟩ => [cl b7 64 (mb.map Value.bool)]) (fun ⟨i, mb⟩ => i ≤ m.length ∧ mb.length = 32 ∧ (∀ x, 0 ≤ x → (bAt mb x = true ↔ ∃ q ∈ m.take i, q.1 = x))) (fun ⟨i, mb⟩ => m.length - i) ⟨0, (List.replicate 32 false)⟩ [0, 1, 4, 5, 6, 7, 9, 10, 11, 12, 13, 14, 15, 16, 17, 18, 19, 20, 33, 34, 35, 36, 37, 38, 39, 40, 41, 42, 43, 44, 45, 46, 47, 48, 49, 50, 51, 52, 53, 54, 55, 56, 57, 58, 59, 60, 61, 62, 63, 64, 65, 66, 67, 68, 69, 70, 71, 72, 73, 74, 75, 76, 77, 78, 79, 80, 81, 82, 83, 84, 85, 86, 87, 88, 89, 90, 91, 92, 93, 94, 95, 96, 97, 98, 99, 100, 101, 102, 103, 104, 105, 106, 107, 108, 109, 110, 111, 112, 113, 114, 115, 116, 117, 118, 119, 120, 121, 122, 123, 124, 125, 126, 127, 128, 129, 130, 131, 132, 133, 134, 135, 136, 137, 138, 139, 140, 141, 142, 143, 144, 145, 146, 147, 148, 149, 150, 151, 152, 153, 154, 155, 156, 157, 158, 159, 160, 161, 162, 163, 164, 165, 166, 167, 168, 169, 170, 171, 172, 173, 174, 175, 176, 177, 178, 179, 180, 181, 182, 183, 184, 185, 186, 187, 188, 189, 190, 191, 192, 193] kpA (by (try dsimp only); repeat (first | with_reducible exact Gv.nil | (with_reducible apply Gv.cons; · (repeat (first | with_reducible exact Ext.here | with_reducible apply Ext.there))))) ?_ ?_ Sub.refl ?_
 ·exact ⟨Nat.zero_le _, by simp, fun x _ => by rw [bAt_none]; simp⟩
 ·(try dsimp only); exact (Wk.cons lkA Wk.nil)
 ·rintro ⟨i, mb⟩ ⟨hi, hml0, hmat⟩ K7 hK7
  simp only [List.cons_append, List.nil_append]
  refine WC_seq fun K8 hK8 => ?_
  refine WC_sr fun K9 hK9 => ?_
  refine WL_r (Rd_move rfl) rfl ?_
  refine WL_r (Rd_move rfl) rfl ?_
  refine WL_r (Rd_len_sv rfl rfl ud22 (hA := hM)) rfl ?_
  refine WL_r (Rd_lssN rfl rfl) rfl ?_
  refine WL_end hK9 ?_
  refine WC_cond rfl (fun hc0 => ?_) (fun hc0 => ?_)
  ·try simp only [dz, ne_eq] at hc0
   obtain ⟨q, hq⟩ : ∃ q, m[i]? = some q := ⟨_, List.getElem?_eq_getElem (by omega)⟩
   have hqm := List.mem_of_getElem? hq
   have hqo := hmok q hqm
   unfold pOk at hqo
   refine WC_skip ?_
   refine Ps_next hK8 ?_
   refine WC_seq fun K10 hK10 => ?_
   refine WC_block ?_
   refine WC_region ?_
   refine WL_r (Rd_move rfl) rfl ?_
   refine WL_r (Rd_move rfl) rfl ?_
   refine WL_r (Rd_index_sv i rfl rfl ud22 sz24 (hA := hM) (hi := by omega)) rfl ?_
   refine WL_r (Rd_fieldAddr rfl fo24_0) rfl ?_
   refine WL_r (Rd_load_sv (i := i) (j := 0) (y := q) rfl tk3 (hA := hM) (hl := hq) (hv := rfl)) rfl ?_
   refine WL_r (Rd_indexB q.1.toNat rfl rfl ud64 sz4 (by omega) (by omega)) rfl ?_
   refine WL_ac0 (Ac_store1 (ys := (bSet mb q.1).map Value.bool) rfl rfl sz4 (hl := blt_map (by omega)) (hr := set_map)) rfl rfl ?_
   rintro _ _ rfl
   refine WL_nil ?_
   refine Ps_next hK10 ?_
   refine WC_region ?_
   refine WL_r (Rd_move rfl) rfl ?_
   refine WL_r (Rd_addN (j := 1) rfl rfl) rfl ?_
   refine WL_r (Rd_assign rfl) rfl ?_
   refine WL_nil ?_
   refine Ps_wkB (hK7 ⟨i + 1, bSet mb q.1⟩ (⟨by (try dsimp only); omega, by rw [bSet_len]; exact hml0, mark_step hq (by omega) hmat⟩) (by (try dsimp only); omega))
  ·try simp only [dz, ne_eq] at hc0
   obtain rfl : i = m.length := by omega
   rw [List.take_length] at hmat
   refine WC_exit ?_
   refine Ps_next hK5 ?_
   refine WC_seq fun K11 hK11 => ?_
   refine WC_sr fun K12 hK12 => ?_
   refine WL_r (Rd_assign rfl) rfl ?_
   refine WL_end hK12 ?_
   refine WC_block ?_
   refine WC_loopK (σ := Nat × (List Bool)) (fun ⟨i, sb⟩ => [(9, .int .i64 ((i : Nat) : Int))]) (fun ⟨i, sb⟩ => [cl b5 64 (sb.map Value.bool)]) (fun ⟨i, sb⟩ => i ≤ ps.length ∧ sb.length = 32 ∧ KOk ps m (onB sb) (onB (List.replicate 255 false)) ∧ (∀ q ∈ ps.take i, bAt mb q.1 = false → bAt sb q.1 = true)) (fun ⟨i, sb⟩ => ps.length - i) ⟨0, (List.replicate 32 false)⟩ [0, 1, 4, 5, 6, 7, 10, 11, 12, 13, 14, 15, 16, 17, 18, 19, 20, 53, 54, 55, 56, 57, 58, 59, 60, 61, 62, 63, 64, 65, 66, 67, 68, 69, 70, 71, 72, 73, 74, 75, 76, 77, 78, 79, 80, 81, 82, 83, 84, 85, 86, 87, 88, 89, 90, 91, 92, 93, 94, 95, 96, 97, 98, 99, 100, 101, 102, 103, 104, 105, 106, 107, 108, 109, 110, 111, 112, 113, 114, 115, 116, 117, 118, 119, 120, 121, 122, 123, 124, 125, 126, 127, 128, 129, 130, 131, 132, 133, 134, 135, 136, 137, 138, 139, 140, 141, 142, 143, 144, 145, 146, 147, 148, 149, 150, 151, 152, 153, 154, 155, 156, 157, 158, 159, 160, 161, 162, 163, 164, 165, 166, 167, 168, 169, 170, 171, 172, 173, 174, 175, 176, 177, 178, 179, 180, 181, 182, 183, 184, 185, 186, 187, 188, 189, 190, 191, 192, 193] kpA (by (try dsimp only); repeat (first | with_reducible exact Gv.nil | (with_reducible apply Gv.cons; · (repeat (first | with_reducible exact Ext.here | with_reducible apply Ext.there))))) ?_ ?_ Sub.refl ?_
   ·exact ⟨Nat.zero_le _, by simp, k_zero, fun q h => by simp at h⟩
   ·(try dsimp only); exact (Wk.cons lkA Wk.nil)
   ·rintro ⟨i, sb⟩ ⟨hi, hsl0, hk0, hlone⟩ K13 hK13
    simp only [List.cons_append, List.nil_append]
    refine WC_seq fun K14 hK14 => ?_
    refine WC_sr fun K15 hK15 => ?_
    refine WL_r (Rd_move rfl) rfl ?_
    refine WL_r (Rd_move rfl) rfl ?_
    refine WL_r (Rd_len_sv rfl rfl ud22 (hA := hS)) rfl ?_
    refine WL_r (Rd_lssN rfl rfl) rfl ?_
    refine WL_end hK15 ?_
    refine WC_cond rfl (fun hc1 => ?_) (fun hc1 => ?_)
    ·try simp only [dz, ne_eq] at hc1
     obtain ⟨p, hp0⟩ : ∃ p, ps[i]? = some p := ⟨_, List.getElem?_eq_getElem (by omega)⟩
     have hp0m := List.mem_of_getElem? hp0
     have hp0o := hok p hp0m
     unfold pOk at hp0o
     refine WC_skip ?_
     refine Ps_next hK14 ?_
     refine WC_seq fun K16 hK16 => ?_
     refine WC_block ?_
     refine WC_sr fun K17 hK17 => ?_
     refine WL_r (Rd_move rfl) rfl ?_
     refine WL_r (Rd_move rfl) rfl ?_
     refine WL_r (Rd_index_sv i rfl rfl ud22 sz24 (hA := hS) (hi := by omega)) rfl ?_
     refine WL_r (Rd_fieldAddr rfl fo24_0) rfl ?_
     refine WL_r (Rd_load_sv (i := i) (j := 0) (y := p) rfl tk3 (hA := hS) (hl := hp0) (hv := rfl)) rfl ?_
     refine WL_r (Rd_indexB p.1.toNat rfl rfl ud64 sz4 (by omega) (by omega)) rfl ?_
     refine WL_r (Rd_load rfl tk4 (v := .bool (bAt mb p.1)) (hi := bAt_get (by omega))) rfl ?_
     refine WL_r (Rd_not rfl) rfl ?_
     refine WL_end hK17 ?_
     refine WC_cond rfl (fun hc2 => ?_) (fun hc2 => ?_)
     ·try simp only [dz, ne_eq] at hc2
      have hmf : bAt mb p.1 = false := by first | assumption | simp_all
      refine WC_region ?_
      refine WL_r (Rd_move rfl) rfl ?_
      refine WL_r (Rd_move rfl) rfl ?_
      refine WL_r (Rd_index_sv i rfl rfl ud22 sz24 (hA := hS) (hi := by omega)) rfl ?_
      refine WL_r (Rd_fieldAddr rfl fo24_0) rfl ?_
      refine WL_r (Rd_load_sv (i := i) (j := 0) (y := p) rfl tk3 (hA := hS) (hl := hp0) (hv := rfl)) rfl ?_
      refine WL_r (Rd_indexB p.1.toNat rfl rfl ud64 sz4 (by omega) (by omega)) rfl ?_
      refine WL_ac0 (Ac_store1 (ys := (bSet sb p.1).map Value.bool) rfl rfl sz4 (hl := blt_map (by omega)) (hr := set_map)) rfl rfl ?_
      rintro _ _ rfl
      refine WL_nil ?_
      refine Ps_next hK16 ?_
      refine WC_region ?_
      refine WL_r (Rd_move rfl) rfl ?_
      refine WL_r (Rd_addN (j := 1) rfl rfl) rfl ?_
      refine WL_r (Rd_assign rfl) rfl ?_
      refine WL_nil ?_
      refine Ps_wkB (hK13 ⟨i + 1, bSet sb p.1⟩ (⟨by (try dsimp only); omega, by rw [bSet_len]; exact hsl0, k_lone hk0 hm (by omega) (fun q hq2 e => by have := (hmat p.1 (by omega)).2 ⟨q, hq2, e⟩; rw [this] at hmf; cases hmf), mem_snoc hp0 (fun q hq2 k => on_more (by omega) (by have := hok q (List.mem_of_mem_take hq2); unfold pOk at this; omega) (hlone q hq2 k)) (fun _ => on_it (by omega))⟩) (by (try dsimp only); omega))
     ·try simp only [dz, ne_eq] at hc2
      have hmt : bAt mb p.1 = true := by first | assumption | simp_all
      refine WC_skip ?_
      refine Ps_next hK16 ?_
      refine WC_region ?_
      refine WL_r (Rd_move rfl) rfl ?_
      refine WL_r (Rd_addN (j := 1) rfl rfl) rfl ?_
      refine WL_r (Rd_assign rfl) rfl ?_
      refine WL_nil ?_
      refine Ps_wkB (hK13 ⟨i + 1, sb⟩ (⟨by (try dsimp only); omega, hsl0, hk0, mem_snoc hp0 hlone (fun k => by rw [hmt] at k; cases k)⟩) (by (try dsimp only); omega))
    ·try simp only [dz, ne_eq] at hc1
     obtain rfl : i = ps.length := by omega
     rw [List.take_length] at hlone
     refine WC_exit ?_
     refine Ps_next hK11 ?_
     refine WC_seq fun K18 hK18 => ?_
     refine WC_sr fun K19 hK19 => ?_
     refine WL_r (Rd_assign rfl) rfl ?_
     refine WL_end hK19 ?_
     refine WC_block ?_
     refine WC_loopK (σ := (List Bool) × (List Bool) × Bool) (fun ⟨sb, nb, c⟩ => [(10, .bool c)]) (fun ⟨sb, nb, c⟩ => [cl b5 64 (sb.map Value.bool), cl b6 65 (nb.map Value.bool)]) (fun ⟨sb, nb, c⟩ => sb.length = 32 ∧ nb.length = 255 ∧ KOk ps m (onB sb) (onB nb) ∧ (∀ q ∈ ps, bAt mb q.1 = false → bAt sb q.1 = true) ∧ (c = false → (∀ q ∈ ps, bAt sb q.1 = true → bAt nb q.2 = true) ∧ ∀ q ∈ m, bAt nb q.2 = true → bAt sb q.1 = true)) (fun ⟨sb, nb, c⟩ => 2 * (offB sb + offB nb) + (if c = true then 1 else 0)) ⟨sb, (List.replicate 255 false), true⟩ [0, 1, 4, 5, 6, 7, 14, 15, 16, 17, 18, 19, 20, 107, 108, 109, 110, 111, 112, 113, 114, 115, 116, 117, 118, 119, 120, 121, 122, 123, 124, 125, 126, 127, 128, 129, 130, 131, 132, 133, 134, 135, 136, 137, 138, 139, 140, 141, 142, 143, 144, 145, 146, 147, 148, 149, 150, 151, 152, 153, 154, 155, 156, 157, 158, 159, 160, 161, 162, 163, 164, 165, 166, 167, 168, 169, 170, 171, 172, 173, 174, 175, 176, 177, 178, 179, 180, 181, 182, 183, 184, 185, 186, 187, 188, 189, 190, 191, 192, 193] kpA (by (try dsimp only); repeat (first | with_reducible exact Gv.nil | (with_reducible apply Gv.cons; · (repeat (first | with_reducible exact Ext.here | with_reducible apply Ext.there))))) ?_ ?_ Sub.refl ?_
     ·exact ⟨hsl0, by simp, hk0, hlone, fun h => by cases h⟩
     ·(try dsimp only); exact (Wk.cons lkA Wk.nil)
     ·rintro ⟨sb, nb, c⟩ ⟨hsl, hnl, hk, hlone, hcl⟩ K20 hK20
      simp only [List.cons_append, List.nil_append]
      refine WC_seq fun K21 hK21 => ?_
      refine WC_sr fun K22 hK22 => ?_
      refine WL_r (Rd_move rfl) rfl ?_
      refine WL_end hK22 ?_
      refine WC_cond rfl (fun hc3 => ?_) (fun hc3 => ?_)
      ·try simp only [dz, ne_eq] at hc3
       have hct : c = true := by first | assumption | simp_all
       subst hct
       refine WC_skip ?_
       refine Ps_next hK21 ?_
       refine WC_block ?_
       refine WC_sr fun K23 hK23 => ?_
       refine WL_r (Rd_assign rfl) rfl ?_
       refine WL_end hK23 ?_
       refine WC_seq fun K24 hK24 => ?_
       refine WC_sr fun K25 hK25 => ?_
       refine WL_r (Rd_assign rfl) rfl ?_
       refine WL_end hK25 ?_
       refine WC_block ?_
       refine WC_loopK (σ := Nat × (List Bool) × Bool) (fun ⟨i, nb1, c1⟩ => [(10, .bool c1), (11, .int .i64 ((i : Nat) : Int))]) (fun ⟨i, nb1, c1⟩ => [cl b6 65 (nb1.map Value.bool)]) (fun ⟨i, nb1, c1⟩ => i ≤ ps.length ∧ nb1.length = 255 ∧ KOk ps m (onB sb) (onB nb1) ∧ offB nb1 + (if c1 = true then 1 else 0) ≤ offB nb ∧ (c1 = false → ∀ q ∈ ps.take i, bAt sb q.1 = true → bAt nb1 q.2 = true)) (fun ⟨i, nb1, c1⟩ => ps.length - i) ⟨0, nb, false⟩ [0, 1, 4, 5, 6, 7, 13, 14, 15, 16, 17, 18, 19, 20, 53, 78, 79, 80, 81, 82, 83, 84, 85, 86, 87, 88, 89, 90, 91, 92, 93, 94, 95, 96, 97, 98, 99, 100, 101, 102, 103, 104, 105, 106, 107, 108, 109, 110, 111, 112, 113, 114, 115, 116, 117, 118, 119, 120, 121, 122, 123, 124, 125, 126, 127, 128, 129, 130, 131, 132, 133, 134, 135, 136, 137, 138, 139, 140, 141, 142, 143, 144, 145, 146, 147, 148, 149, 150, 151, 152, 153, 154, 155, 156, 157, 158, 159, 160, 161, 162, 163, 164, 165, 166, 167, 168, 169, 170, 171, 172, 173, 174, 175, 176, 177, 178, 179, 180, 181, 182, 183, 184, 185, 186, 187, 188, 189, 190, 191, 192, 193] kpA (by (try dsimp only); repeat (first | with_reducible exact Gv.nil | (with_reducible apply Gv.cons; · (repeat (first | with_reducible exact Ext.here | with_reducible apply Ext.there))))) ?_ ?_ Sub.refl ?_
       ·exact ⟨Nat.zero_le _, hnl, hk, by simp, fun _ q h => by simp at h⟩
       ·(try dsimp only); exact (Wk.cons lkA (Wk.cons lkA Wk.nil))
       ·rintro ⟨i, nb1, c1⟩ ⟨hi, hnl1, hk1, hsum, hfw⟩ K26 hK26
        simp only [List.cons_append, List.nil_append]
        refine WC_seq fun K27 hK27 => ?_
        refine WC_sr fun K28 hK28 => ?_
        refine WL_r (Rd_move rfl) rfl ?_
        refine WL_r (Rd_move rfl) rfl ?_
        refine WL_r (Rd_len_sv rfl rfl ud22 (hA := hS)) rfl ?_
        refine WL_r (Rd_lssN rfl rfl) rfl ?_
        refine WL_end hK28 ?_
        refine WC_cond rfl (fun hc4 => ?_) (fun hc4 => ?_)
        ·try simp only [dz, ne_eq] at hc4
         obtain ⟨p, hp0⟩ : ∃ p, ps[i]? = some p := ⟨_, List.getElem?_eq_getElem (by omega)⟩
         have hp0m := List.mem_of_getElem? hp0
         have hp0o := hok p hp0m
         unfold pOk at hp0o
         refine WC_skip ?_
         refine Ps_next hK27 ?_
         refine WC_seq fun K29 hK29 => ?_
         refine WC_block ?_
         refine WC_sr fun K30 hK30 => ?_
         refine WL_r (Rd_move rfl) rfl ?_
         refine WL_r (Rd_move rfl) rfl ?_
         refine WL_r (Rd_index_sv i rfl rfl ud22 sz24 (hA := hS) (hi := by omega)) rfl ?_
         refine WL_r (Rd_loadg_sv (f := ePr) (i := i) (y := p) rfl tk24 (hA := hS) (hl := hp0)) rfl ?_
         refine WL_ac (Ac_alloc zr24) rfl rfl rfl ?_
         rintro _ _ ⟨b12, rfl, rfl⟩
         refine WL_ac0 (Ac_store (ys := ePr p) rfl rfl sz24 (h1 := encPr.one p) (hv := rfl) (hr := rfl)) rfl rfl ?_
         rintro _ _ rfl
         refine WL_end hK30 ?_
         refine WC_sr fun K31 hK31 => ?_
         refine WL_r (Rd_fieldAddr rfl fo24_0) rfl ?_
         refine WL_r (Rd_load rfl tk3 (v := .int .i64 p.1)) rfl ?_
         refine WL_r (Rd_indexB p.1.toNat rfl rfl ud64 sz4 (by omega) (by omega)) rfl ?_
         refine WL_r (Rd_load rfl tk4 (v := .bool (bAt sb p.1)) (hi := bAt_get (by omega))) rfl ?_
         refine WL_r (Rd_move rfl) rfl ?_
         refine WL_bool 68 rfl (fun hg32 => ?_) (fun hg32 => ?_)
         ·try simp only [dz, ne_eq] at hg32
          refine WL_r (Rd_fieldAddr rfl fo24_1) rfl ?_
          refine WL_r (Rd_load rfl tk3 (v := .int .i64 p.2)) rfl ?_
          refine WL_r (Rd_indexB p.2.toNat rfl rfl ud65 sz4 (by omega) (by omega)) rfl ?_
          refine WL_r (Rd_load rfl tk4 (v := .bool (bAt nb1 p.2)) (hi := bAt_get (by omega))) rfl ?_
          refine WL_r (Rd_not rfl) rfl ?_
          refine WL_r (Rd_pickT rfl rfl) rfl ?_
          refine WL_end hK31 ?_
          refine WC_cond rfl (fun hc5 => ?_) (fun hc5 => ?_)
          ·try simp only [dz, ne_eq] at hc5
           have hst : bAt sb p.1 = true := by first | assumption | simp_all
           have hnf : bAt nb1 p.2 = false := by first | assumption | simp_all
           have hk2 := k_along hk1 hmax hp0m (by omega) hst (by omega) hnf
           have hof := offB_set (b := nb1) (x := p.2) (by omega) hnf
           refine WC_sr fun K33 hK33 => ?_
           refine WL_r (Rd_fieldAddr rfl fo24_1) rfl ?_
           refine WL_r (Rd_load rfl tk3 (v := .int .i64 p.2)) rfl ?_
           refine WL_r (Rd_indexB p.2.toNat rfl rfl ud65 sz4 (by omega) (by omega)) rfl ?_
           refine WL_ac0 (Ac_store1 (ys := (bSet nb1 p.2).map Value.bool) rfl rfl sz4 (hl := blt_map (by omega)) (hr := set_map)) rfl rfl ?_
           rintro _ _ rfl
           refine WL_end hK33 ?_
           refine WC_region ?_
           refine WL_r (Rd_assign rfl) rfl ?_
           refine WL_nil ?_
           refine Ps_next hK29 ?_
           refine WC_region ?_
           refine WL_r (Rd_move rfl) rfl ?_
           refine WL_r (Rd_addN (j := 1) rfl rfl) rfl ?_
           refine WL_r (Rd_assign rfl) rfl ?_
           refine WL_nil ?_
           refine Ps_wkB (hK26 ⟨i + 1, bSet nb1 p.2, true⟩ (⟨by (try dsimp only); omega, by rw [bSet_len]; exact hnl1, hk2, by (try dsimp only); rw [if_pos rfl]; split at hsum <;> omega, fun h => by cases h⟩) (by (try dsimp only); omega))
          ·try simp only [dz, ne_eq] at hc5
           have himp : bAt sb p.1 = true → bAt nb1 p.2 = true := by first | (simp_all; done) | grind
           refine WC_skip ?_
           refine Ps_next hK29 ?_
           refine WC_region ?_
           refine WL_r (Rd_move rfl) rfl ?_
           refine WL_r (Rd_addN (j := 1) rfl rfl) rfl ?_
           refine WL_r (Rd_assign rfl) rfl ?_
           refine WL_nil ?_
           refine Ps_wkB (hK26 ⟨i + 1, nb1, c1⟩ (⟨by (try dsimp only); omega, hnl1, hk1, hsum, fun h => mem_snoc hp0 (hfw h) himp⟩) (by (try dsimp only); omega))
         ·try simp only [dz, ne_eq] at hg32
          refine WL_skip rfl rfl rfl ?_
          refine WL_skip rfl rfl rfl ?_
          refine WL_skip rfl rfl rfl ?_
          refine WL_skip rfl rfl rfl ?_
          refine WL_skip rfl rfl rfl ?_
          refine WL_r (Rd_pickF rfl rfl) rfl ?_
          refine WL_end hK31 ?_
          refine WC_condF rfl ?_
          have himp : bAt sb p.1 = true → bAt nb1 p.2 = true := by first | (simp_all; done) | grind
          refine WC_skip ?_
          refine Ps_next hK29 ?_
          refine WC_region ?_
          refine WL_r (Rd_move rfl) rfl ?_
          refine WL_r (Rd_addN (j := 1) rfl rfl) rfl ?_
          refine WL_r (Rd_assign rfl) rfl ?_
          refine WL_nil ?_
          refine Ps_wkB (hK26 ⟨i + 1, nb1, c1⟩ (⟨by (try dsimp only); omega, hnl1, hk1, hsum, fun h => mem_snoc hp0 (hfw h) himp⟩) (by (try dsimp only); omega))
        ·try simp only [dz, ne_eq] at hc4
         obtain rfl : i = ps.length := by omega
         rw [List.take_length] at hfw
         refine WC_exit ?_
         refine Ps_next hK24 ?_
         refine WC_sr fun K34 hK34 => ?_
         refine WL_r (Rd_assign rfl) rfl ?_
         refine WL_end hK34 ?_
         refine WC_block ?_
         refine WC_loopK (σ := Nat × (List Bool) × Bool) (fun ⟨i, sb1, c2⟩ => [(10, .bool c2), (13, .int .i64 ((i : Nat) : Int))]) (fun ⟨i, sb1, c2⟩ => [cl b5 64 (sb1.map Value.bool)]) (fun ⟨i, sb1, c2⟩ => i ≤ m.length ∧ sb1.length = 32 ∧ KOk ps m (onB sb1) (onB nb1) ∧ (∀ q ∈ ps, bAt mb q.1 = false → bAt sb1 q.1 = true) ∧ offB sb1 + offB nb1 + (if c2 = true then 1 else 0) ≤ offB sb + offB nb ∧ (c2 = false → (∀ q ∈ ps, bAt sb1 q.1 = true → bAt nb1 q.2 = true) ∧ ∀ q ∈ m.take i, bAt nb1 q.2 = true → bAt sb1 q.1 = true)) (fun ⟨i, sb1, c2⟩ => m.length - i) ⟨0, sb, c1⟩ [0, 1, 4, 5, 6, 7, 11, 12, 14, 15, 16, 17, 18, 19, 20, 53, 54, 55, 56, 57, 58, 59, 60, 61, 62, 63, 64, 65, 66, 67, 68, 69, 70, 71, 72, 73, 74, 75, 76, 77, 107, 108, 109, 110, 111, 112, 113, 114, 115, 116, 117, 118, 119, 120, 121, 122, 123, 124, 125, 126, 127, 128, 129, 130, 131, 132, 133, 134, 135, 136, 137, 138, 139, 140, 141, 142, 143, 144, 145, 146, 147, 148, 149, 150, 151, 152, 153, 154, 155, 156, 157, 158, 159, 160, 161, 162, 163, 164, 165, 166, 167, 168, 169, 170, 171, 172, 173, 174, 175, 176, 177, 178, 179, 180, 181, 182, 183, 184, 185, 186, 187, 188, 189, 190, 191, 192, 193] kpA (by (try dsimp only); repeat (first | with_reducible exact Gv.nil | (with_reducible apply Gv.cons; · (repeat (first | with_reducible exact Ext.here | with_reducible apply Ext.there))))) ?_ ?_ Sub.refl ?_
         ·exact ⟨Nat.zero_le _, hsl, hk1, hlone, by (try dsimp only); omega, fun h => ⟨hfw h, fun q k => by simp at k⟩⟩
         ·(try dsimp only); exact (Wk.cons lkA (Wk.cons lkA Wk.nil))
         ·rintro ⟨i, sb1, c2⟩ ⟨hi, hsl1, hk3, hlone1, hsum2, hbk⟩ K35 hK35
          simp only [List.cons_append, List.nil_append]
          refine WC_seq fun K36 hK36 => ?_
          refine WC_sr fun K37 hK37 => ?_
          refine WL_r (Rd_move rfl) rfl ?_
          refine WL_r (Rd_move rfl) rfl ?_
          refine WL_r (Rd_len_sv rfl rfl ud22 (hA := hM)) rfl ?_
          refine WL_r (Rd_lssN rfl rfl) rfl ?_
          refine WL_end hK37 ?_
          refine WC_cond rfl (fun hc6 => ?_) (fun hc6 => ?_)
          ·try simp only [dz, ne_eq] at hc6
           obtain ⟨q, hq⟩ : ∃ q, m[i]? = some q := ⟨_, List.getElem?_eq_getElem (by omega)⟩
           have hqm := List.mem_of_getElem? hq
           have hqo := hmok q hqm
           unfold pOk at hqo
           refine WC_skip ?_
           refine Ps_next hK36 ?_
           refine WC_seq fun K38 hK38 => ?_
           refine WC_block ?_
           refine WC_sr fun K39 hK39 => ?_
           refine WL_r (Rd_move rfl) rfl ?_
           refine WL_r (Rd_move rfl) rfl ?_
           refine WL_r (Rd_index_sv i rfl rfl ud22 sz24 (hA := hM) (hi := by omega)) rfl ?_
           refine WL_r (Rd_fieldAddr rfl fo24_1) rfl ?_
           refine WL_r (Rd_load_sv (i := i) (j := 1) (y := q) rfl tk3 (hA := hM) (hl := hq) (hv := rfl)) rfl ?_
           refine WL_r (Rd_indexB q.2.toNat rfl rfl ud65 sz4 (by omega) (by omega)) rfl ?_
           refine WL_r (Rd_load rfl tk4 (v := .bool (bAt nb1 q.2)) (hi := bAt_get (by omega))) rfl ?_
           refine WL_r (Rd_move rfl) rfl ?_
           refine WL_bool 91 rfl (fun hg40 => ?_) (fun hg40 => ?_)
           ·try simp only [dz, ne_eq] at hg40
            refine WL_r (Rd_move rfl) rfl ?_
            refine WL_r (Rd_move rfl) rfl ?_
            refine WL_r (Rd_index_sv i rfl rfl ud22 sz24 (hA := hM) (hi := by omega)) rfl ?_
            refine WL_r (Rd_fieldAddr rfl fo24_0) rfl ?_
            refine WL_r (Rd_load_sv (i := i) (j := 0) (y := q) rfl tk3 (hA := hM) (hl := hq) (hv := rfl)) rfl ?_
            refine WL_r (Rd_indexB q.1.toNat rfl rfl ud64 sz4 (by omega) (by omega)) rfl ?_
            refine WL_r (Rd_load rfl tk4 (v := .bool (bAt sb1 q.1)) (hi := bAt_get (by omega))) rfl ?_
            refine WL_r (Rd_not rfl) rfl ?_
            refine WL_r (Rd_pickT rfl rfl) rfl ?_
            refine WL_end hK39 ?_
            refine WC_cond rfl (fun hc7 => ?_) (fun hc7 => ?_)
            ·try simp only [dz, ne_eq] at hc7
             have hnt : bAt nb1 q.2 = true := by first | assumption | simp_all
             have hsf : bAt sb1 q.1 = false := by first | assumption | simp_all
             have hk4 := k_back hk3 hm hqm (by omega) (by omega) hnt
             have hof := offB_set (b := sb1) (x := q.1) (by omega) hsf
             refine WC_sr fun K41 hK41 => ?_
             refine WL_r (Rd_move rfl) rfl ?_
             refine WL_r (Rd_move rfl) rfl ?_
             refine WL_r (Rd_index_sv i rfl rfl ud22 sz24 (hA := hM) (hi := by omega)) rfl ?_
             refine WL_r (Rd_fieldAddr rfl fo24_0) rfl ?_
             refine WL_r (Rd_load_sv (i := i) (j := 0) (y := q) rfl tk3 (hA := hM) (hl := hq) (hv := rfl)) rfl ?_
             refine WL_r (Rd_indexB q.1.toNat rfl rfl ud64 sz4 (by omega) (by omega)) rfl ?_
             refine WL_ac0 (Ac_store1 (ys := (bSet sb1 q.1).map Value.bool) rfl rfl sz4 (hl := blt_map (by omega)) (hr := set_map)) rfl rfl ?_
             rintro _ _ rfl
             refine WL_end hK41 ?_
             refine WC_region ?_
             refine WL_r (Rd_assign rfl) rfl ?_
             refine WL_nil ?_
             refine Ps_next hK38 ?_
             refine WC_region ?_
             refine WL_r (Rd_move rfl) rfl ?_
             refine WL_r (Rd_addN (j := 1) rfl rfl) rfl ?_
             refine WL_r (Rd_assign rfl) rfl ?_
             refine WL_nil ?_
             refine Ps_wkB (hK35 ⟨i + 1, bSet sb1 q.1, true⟩ (⟨by (try dsimp only); omega, by rw [bSet_len]; exact hsl1, hk4, fun z hz k => on_more (by omega) (by have := hok z hz; unfold pOk at this; omega) (hlone1 z hz k), by (try dsimp only); rw [if_pos rfl]; split at hsum2 <;> omega, fun h => by cases h⟩) (by (try dsimp only); omega))
            ·try simp only [dz, ne_eq] at hc7
             have himp : bAt nb1 q.2 = true → bAt sb1 q.1 = true := by first | (simp_all; done) | grind
             refine WC_skip ?_
             refine Ps_next hK38 ?_
             refine WC_region ?_
             refine WL_r (Rd_move rfl) rfl ?_
             refine WL_r (Rd_addN (j := 1) rfl rfl) rfl ?_
             refine WL_r (Rd_assign rfl) rfl ?_
             refine WL_nil ?_
             refine Ps_wkB (hK35 ⟨i + 1, sb1, c2⟩ (⟨by (try dsimp only); omega, hsl1, hk3, hlone1, hsum2, fun h => ⟨(hbk h).1, mem_snoc hq (hbk h).2 himp⟩⟩) (by (try dsimp only); omega))
           ·try simp only [dz, ne_eq] at hg40
            refine WL_skip rfl rfl rfl ?_
            refine WL_skip rfl rfl rfl ?_
            refine WL_skip rfl rfl rfl ?_
            refine WL_skip rfl rfl rfl ?_
            refine WL_skip rfl rfl rfl ?_
            refine WL_skip rfl rfl rfl ?_
            refine WL_skip rfl rfl rfl ?_
            refine WL_skip rfl rfl rfl ?_
            refine WL_r (Rd_pickF rfl rfl) rfl ?_
            refine WL_end hK39 ?_
            refine WC_condF rfl ?_
            have himp : bAt nb1 q.2 = true → bAt sb1 q.1 = true := by first | (simp_all; done) | grind
            refine WC_skip ?_
            refine Ps_next hK38 ?_
            refine WC_region ?_
            refine WL_r (Rd_move rfl) rfl ?_
            refine WL_r (Rd_addN (j := 1) rfl rfl) rfl ?_
            refine WL_r (Rd_assign rfl) rfl ?_
            refine WL_nil ?_
            refine Ps_wkB (hK35 ⟨i + 1, sb1, c2⟩ (⟨by (try dsimp only); omega, hsl1, hk3, hlone1, hsum2, fun h => ⟨(hbk h).1, mem_snoc hq (hbk h).2 himp⟩⟩) (by (try dsimp only); omega))
          ·try simp only [dz, ne_eq] at hc6
           obtain rfl : i = m.length := by omega
           rw [List.take_length] at hbk
           refine WC_exit ?_
           refine Ps_wkB (hK20 ⟨sb1, nb1, c2⟩ (⟨hsl1, hnl1, hk3, hlone1, fun h => ⟨(hbk h).1, (hbk h).2⟩⟩) (by (try dsimp only); rw [if_pos rfl]; revert hsum2; cases c2 <;> simp only [if_true, Bool.false_eq_true, if_false, Nat.add_zero] <;> intro z <;> omega))
      ·try simp only [dz, ne_eq] at hc3
       have hcf : c = false := by first | assumption | simp_all
       have hsh : Shut ps m mb sb nb := ⟨hmat, hlone, (hcl hcf).1, (hcl hcf).2⟩
       refine WC_exit ?_
       refine Ps_next hK18 ?_
       refine WC_seq fun K42 hK42 => ?_
       refine WC_sr fun K43 hK43 => ?_
       refine WL_r (Rd_assign rfl) rfl ?_
       refine WL_end hK43 ?_
       refine WC_block ?_
       refine WC_loopK (σ := Nat) (fun i => [(14, .int .i64 ((i : Nat) : Int))]) (fun i => []) (fun i => i ≤ ps.length) (fun i => ps.length - i) (0) [0, 1, 5, 6, 7, 16, 17, 18, 19, 20, 135, 136, 137, 138, 139, 140, 141, 142, 143, 144, 145, 146, 147, 148, 149, 150, 151, 152, 153, 154, 155, 156, 157, 158, 159, 160, 161, 162, 163, 164, 165, 166, 167, 168, 169, 170, 171, 172, 173, 174, 175, 176, 177, 178, 179, 180, 181, 182, 183, 184, 185, 186, 187, 188, 189, 190, 191, 192, 193] kpA (by (try dsimp only); repeat (first | with_reducible exact Gv.nil | (with_reducible apply Gv.cons; · (repeat (first | with_reducible exact Ext.here | with_reducible apply Ext.there))))) ?_ ?_ Sub.refl ?_
       ·exact Nat.zero_le _
       ·(try dsimp only); exact (Wk.cons lkA Wk.nil)
       ·rintro i hi K44 hK44
        simp only [List.cons_append, List.nil_append]
        refine WC_seq fun K45 hK45 => ?_
        refine WC_sr fun K46 hK46 => ?_
        refine WL_r (Rd_move rfl) rfl ?_
        refine WL_r (Rd_move rfl) rfl ?_
        refine WL_r (Rd_len_sv rfl rfl ud22 (hA := hS)) rfl ?_
        refine WL_r (Rd_lssN rfl rfl) rfl ?_
        refine WL_end hK46 ?_
        refine WC_cond rfl (fun hc8 => ?_) (fun hc8 => ?_)
        ·try simp only [dz, ne_eq] at hc8
         obtain ⟨p, hp0⟩ : ∃ p, ps[i]? = some p := ⟨_, List.getElem?_eq_getElem (by omega)⟩
         have hp0m := List.mem_of_getElem? hp0
         have hp0o := hok p hp0m
         unfold pOk at hp0o
         refine WC_skip ?_
         refine Ps_next hK45 ?_
         refine WC_seq fun K47 hK47 => ?_
         refine WC_block ?_
         refine WC_sr fun K48 hK48 => ?_
         refine WL_r (Rd_move rfl) rfl ?_
         refine WL_r (Rd_move rfl) rfl ?_
         refine WL_r (Rd_index_sv i rfl rfl ud22 sz24 (hA := hS) (hi := by omega)) rfl ?_
         refine WL_r (Rd_loadg_sv (f := ePr) (i := i) (y := p) rfl tk24 (hA := hS) (hl := hp0)) rfl ?_
         refine WL_ac (Ac_alloc zr24) rfl rfl rfl ?_
         rintro _ _ ⟨b15, rfl, rfl⟩
         refine WL_ac0 (Ac_store (ys := ePr p) rfl rfl sz24 (h1 := encPr.one p) (hv := rfl) (hr := rfl)) rfl rfl ?_
         rintro _ _ rfl
         refine WL_end hK48 ?_
         refine WC_sr fun K49 hK49 => ?_
         refine WL_r (Rd_fieldAddr rfl fo24_1) rfl ?_
         refine WL_r (Rd_load rfl tk3 (v := .int .i64 p.2)) rfl ?_
         refine WL_r (Rd_indexB p.2.toNat rfl rfl ud65 sz4 (by omega) (by omega)) rfl ?_
         refine WL_r (Rd_load rfl tk4 (v := .bool (bAt nb p.2)) (hi := bAt_get (by omega))) rfl ?_
         refine WL_r (Rd_not rfl) rfl ?_
         refine WL_r (Rd_move rfl) rfl ?_
         refine WL_bool 122 rfl (fun hg50 => ?_) (fun hg50 => ?_)
         ·try simp only [dz, ne_eq] at hg50
          refine WL_r (Rd_fieldAddr rfl fo24_0) rfl ?_
          refine WL_r (Rd_load rfl tk3 (v := .int .i64 p.1)) rfl ?_
          refine WL_r (Rd_indexB p.1.toNat rfl rfl ud64 sz4 (by omega) (by omega)) rfl ?_
          refine WL_r (Rd_load rfl tk4 (v := .bool (bAt sb p.1)) (hi := bAt_get (by omega))) rfl ?_
          refine WL_r (Rd_move rfl) rfl ?_
          refine WL_bool 127 rfl (fun hg51 => ?_) (fun hg51 => ?_)
          ·try simp only [dz, ne_eq] at hg51
           refine WL_skip rfl rfl rfl ?_
           refine WL_skip rfl rfl rfl ?_
           refine WL_skip rfl rfl rfl ?_
           refine WL_skip rfl rfl rfl ?_
           refine WL_skip rfl rfl rfl ?_
           refine WL_r (Rd_pickT rfl rfl) rfl ?_
           refine WL_r (Rd_pickT rfl rfl) rfl ?_
           refine WL_end hK49 ?_
           refine WC_condT rfl ?_
           exfalso
           have hs1 := hsh.lone p hp0m
           have hs2 := hsh.fwd p hp0m
           first | (simp_all; done) | grind
          ·try simp only [dz, ne_eq] at hg51
           refine WL_r (Rd_fieldAddr rfl fo24_0) rfl ?_
           refine WL_r (Rd_load rfl tk3 (v := .int .i64 p.1)) rfl ?_
           refine WL_r (Rd_indexB p.1.toNat rfl rfl ud64 sz4 (by omega) (by omega)) rfl ?_
           refine WL_r (Rd_load rfl tk4 (v := .bool (bAt mb p.1)) (hi := bAt_get (by omega))) rfl ?_
           refine WL_r (Rd_not rfl) rfl ?_
           refine WL_r (Rd_pickF rfl rfl) rfl ?_
           refine WL_r (Rd_pickT rfl rfl) rfl ?_
           refine WL_end hK49 ?_
           refine WC_cond rfl (fun hc9 => ?_) (fun hc9 => ?_)
           ·try simp only [dz, ne_eq] at hc9
            exfalso
            have hs1 := hsh.lone p hp0m
            have hs2 := hsh.fwd p hp0m
            first | (simp_all; done) | grind
           ·try simp only [dz, ne_eq] at hc9
            refine WC_skip ?_
            refine Ps_next hK47 ?_
            refine WC_region ?_
            refine WL_r (Rd_move rfl) rfl ?_
            refine WL_r (Rd_addN (j := 1) rfl rfl) rfl ?_
            refine WL_r (Rd_assign rfl) rfl ?_
            refine WL_nil ?_
            refine Ps_wkB (hK44 (i + 1) (by omega) (by omega))
         ·try simp only [dz, ne_eq] at hg50
          refine WL_skip rfl rfl rfl ?_
          refine WL_skip rfl rfl rfl ?_
          refine WL_skip rfl rfl rfl ?_
          refine WL_skip rfl rfl rfl ?_
          refine WL_skip rfl rfl rfl ?_
          refine WL_skip rfl rfl rfl ?_
          refine WL_skip rfl rfl rfl ?_
          refine WL_skip rfl rfl rfl ?_
          refine WL_skip rfl rfl rfl ?_
          refine WL_skip rfl rfl rfl ?_
          refine WL_skip rfl rfl rfl ?_
          refine WL_r (Rd_pickF rfl rfl) rfl ?_
          refine WL_end hK49 ?_
          refine WC_condF rfl ?_
          refine WC_skip ?_
          refine Ps_next hK47 ?_
          refine WC_region ?_
          refine WL_r (Rd_move rfl) rfl ?_
          refine WL_r (Rd_addN (j := 1) rfl rfl) rfl ?_
          refine WL_r (Rd_assign rfl) rfl ?_
          refine WL_nil ?_
          refine Ps_wkB (hK44 (i + 1) (by omega) (by omega))
        ·try simp only [dz, ne_eq] at hc8
         obtain rfl : i = ps.length := by omega
         refine WC_exit ?_
         refine Ps_next hK42 ?_
         refine WC_sr fun K52 hK52 => ?_
         refine WL_r (Rd_assign rfl) rfl ?_
         refine WL_end hK52 ?_
         refine WC_seq fun K53 hK53 => ?_
         refine WC_sr fun K54 hK54 => ?_
         refine WL_r (Rd_assign rfl) rfl ?_
         refine WL_end hK54 ?_
         refine WC_block ?_
         refine WC_loopK (σ := Nat) (fun i => [(16, .int .i64 ((i : Nat) : Int)), (17, .int .i64 ((i : Nat) : Int))]) (fun i => []) (fun i => i ≤ m.length) (fun i => m.length - i) (0) [1, 4, 5, 6, 7, 18, 19, 20, 160, 161, 162, 163, 164, 165, 166, 167, 168, 169, 170, 171, 172, 173, 174, 175, 176, 177, 178, 179, 180, 181, 182, 183, 184, 185, 186, 187, 188, 189, 190, 191, 192, 193] kpA (by (try dsimp only); repeat (first | with_reducible exact Gv.nil | (with_reducible apply Gv.cons; · (repeat (first | with_reducible exact Ext.here | with_reducible apply Ext.there))))) ?_ ?_ Sub.refl ?_
         ·exact Nat.zero_le _
         ·(try dsimp only); exact (Wk.cons lkA (Wk.cons lkA Wk.nil))
         ·rintro i hi K55 hK55
          simp only [List.cons_append, List.nil_append]
          refine WC_seq fun K56 hK56 => ?_
          refine WC_sr fun K57 hK57 => ?_
          refine WL_r (Rd_move rfl) rfl ?_
          refine WL_r (Rd_move rfl) rfl ?_
          refine WL_r (Rd_len_sv rfl rfl ud22 (hA := hM)) rfl ?_
          refine WL_r (Rd_lssN rfl rfl) rfl ?_
          refine WL_end hK57 ?_
          refine WC_cond rfl (fun hc10 => ?_) (fun hc10 => ?_)
          ·try simp only [dz, ne_eq] at hc10
           obtain ⟨q, hq⟩ : ∃ q, m[i]? = some q := ⟨_, List.getElem?_eq_getElem (by omega)⟩
           have hqm := List.mem_of_getElem? hq
           have hqo := hmok q hqm
           unfold pOk at hqo
           refine WC_skip ?_
           refine Ps_next hK56 ?_
           refine WC_seq fun K58 hK58 => ?_
           refine WC_block ?_
           refine WC_sr fun K59 hK59 => ?_
           refine WL_r (Rd_move rfl) rfl ?_
           refine WL_r (Rd_move rfl) rfl ?_
           refine WL_r (Rd_index_sv i rfl rfl ud22 sz24 (hA := hM) (hi := by omega)) rfl ?_
           refine WL_r (Rd_fieldAddr rfl fo24_1) rfl ?_
           refine WL_r (Rd_load_sv (i := i) (j := 1) (y := q) rfl tk3 (hA := hM) (hl := hq) (hv := rfl)) rfl ?_
           refine WL_r (Rd_indexB q.2.toNat rfl rfl ud65 sz4 (by omega) (by omega)) rfl ?_
           refine WL_r (Rd_load rfl tk4 (v := .bool (bAt nb q.2)) (hi := bAt_get (by omega))) rfl ?_
           refine WL_r (Rd_move rfl) rfl ?_
           refine WL_bool 148 rfl (fun hg60 => ?_) (fun hg60 => ?_)
           ·try simp only [dz, ne_eq] at hg60
            refine WL_skip rfl rfl rfl ?_
            refine WL_skip rfl rfl rfl ?_
            refine WL_skip rfl rfl rfl ?_
            refine WL_skip rfl rfl rfl ?_
            refine WL_skip rfl rfl rfl ?_
            refine WL_skip rfl rfl rfl ?_
            refine WL_skip rfl rfl rfl ?_
            refine WL_skip rfl rfl rfl ?_
            refine WL_r (Rd_pickT rfl rfl) rfl ?_
            refine WL_end hK59 ?_
            refine WC_condT rfl ?_
            refine WC_region ?_
            refine WL_r (Rd_move rfl) rfl ?_
            refine WL_r (Rd_addN (j := 1) rfl rfl) rfl ?_
            refine WL_r (Rd_assign rfl) rfl ?_
            refine WL_nil ?_
            refine Ps_next hK58 ?_
            refine WC_region ?_
            refine WL_r (Rd_move rfl) rfl ?_
            refine WL_r (Rd_addN (j := 1) rfl rfl) rfl ?_
            refine WL_r (Rd_assign rfl) rfl ?_
            refine WL_nil ?_
            refine Ps_wkB (hK55 (i + 1) (by omega) (by omega))
           ·try simp only [dz, ne_eq] at hg60
            refine WL_r (Rd_move rfl) rfl ?_
            refine WL_r (Rd_move rfl) rfl ?_
            refine WL_r (Rd_index_sv i rfl rfl ud22 sz24 (hA := hM) (hi := by omega)) rfl ?_
            refine WL_r (Rd_fieldAddr rfl fo24_0) rfl ?_
            refine WL_r (Rd_load_sv (i := i) (j := 0) (y := q) rfl tk3 (hA := hM) (hl := hq) (hv := rfl)) rfl ?_
            refine WL_r (Rd_indexB q.1.toNat rfl rfl ud64 sz4 (by omega) (by omega)) rfl ?_
            refine WL_r (Rd_load rfl tk4 (v := .bool (bAt sb q.1)) (hi := bAt_get (by omega))) rfl ?_
            refine WL_r (Rd_not rfl) rfl ?_
            refine WL_r (Rd_pickF rfl rfl) rfl ?_
            refine WL_end hK59 ?_
            refine WC_cond rfl (fun hc11 => ?_) (fun hc11 => ?_)
            ·try simp only [dz, ne_eq] at hc11
             refine WC_region ?_
             refine WL_r (Rd_move rfl) rfl ?_
             refine WL_r (Rd_addN (j := 1) rfl rfl) rfl ?_
             refine WL_r (Rd_assign rfl) rfl ?_
             refine WL_nil ?_
             refine Ps_next hK58 ?_
             refine WC_region ?_
             refine WL_r (Rd_move rfl) rfl ?_
             refine WL_r (Rd_addN (j := 1) rfl rfl) rfl ?_
             refine WL_r (Rd_assign rfl) rfl ?_
             refine WL_nil ?_
             refine Ps_wkB (hK55 (i + 1) (by omega) (by omega))
            ·try simp only [dz, ne_eq] at hc11
             exfalso
             have hs2 := hsh.fwd q (hm.sub q hqm)
             first | (simp_all; done) | grind
          ·try simp only [dz, ne_eq] at hc10
           obtain rfl : i = m.length := by omega
           refine WC_exit ?_
           refine Ps_next hK53 ?_
           refine WC_sr fun K61 hK61 => ?_
           refine WL_r (Rd_assign rfl) rfl ?_
           refine WL_end hK61 ?_
           refine WC_seq fun K62 hK62 => ?_
           refine WC_sr fun K63 hK63 => ?_
           refine WL_r (Rd_assign rfl) rfl ?_
           refine WL_end hK63 ?_
           refine WC_block ?_
           refine WC_loopK (σ := Nat × Nat) (fun ⟨k, t⟩ => [(18, .int .i64 ((t : Nat) : Int)), (19, .int .i64 ((k : Nat) : Int))]) (fun ⟨k, t⟩ => []) (fun ⟨k, t⟩ => k ≤ 255 ∧ t = cN (fun n => bAt nb ((n : Nat) : Int)) k ∧ t ≤ k) (fun ⟨k, t⟩ => 255 - k) ⟨0, 0⟩ [1, 4, 5, 6, 7, 16, 20, 169, 170, 171, 172, 173, 174, 175, 176, 177, 178, 179, 180, 181, 182, 183, 184, 185, 186, 187, 188, 189, 190, 191, 192, 193] kpA (by (try dsimp only); repeat (first | with_reducible exact Gv.nil | (with_reducible apply Gv.cons; · (repeat (first | with_reducible exact Ext.here | with_reducible apply Ext.there))))) ?_ ?_ Sub.refl ?_
           ·exact ⟨by omega, rfl, by omega⟩
           ·(try dsimp only); exact (Wk.cons lkA (Wk.cons lkA Wk.nil))
           ·rintro ⟨k, t⟩ ⟨hkl, ht, htk⟩ K64 hK64
            simp only [List.cons_append, List.nil_append]
            refine WC_seq fun K65 hK65 => ?_
            refine WC_sr fun K66 hK66 => ?_
            refine WL_r (Rd_move rfl) rfl ?_
            refine WL_r (Rd_lssN (j := 255) rfl rfl) rfl ?_
            refine WL_end hK66 ?_
            refine WC_cond rfl (fun hc12 => ?_) (fun hc12 => ?_)
            ·try simp only [dz, ne_eq] at hc12
             refine WC_skip ?_
             refine Ps_next hK65 ?_
             refine WC_seq fun K67 hK67 => ?_
             refine WC_block ?_
             refine WC_sr fun K68 hK68 => ?_
             refine WL_r (Rd_move rfl) rfl ?_
             refine WL_r (Rd_indexB ((k : Nat) : Int).toNat rfl rfl ud65 sz4 (by omega) (by omega)) rfl ?_
             refine WL_r (Rd_load rfl tk4 (v := .bool (bAt nb ((k : Nat) : Int))) (hi := bAt_get (by omega))) rfl ?_
             refine WL_end hK68 ?_
             refine WC_cond rfl (fun hc13 => ?_) (fun hc13 => ?_)
             ·try simp only [dz, ne_eq] at hc13
              have hkk : bAt nb ((k : Nat) : Int) = true := by first | assumption | simp_all
              refine WC_region ?_
              refine WL_r (Rd_move rfl) rfl ?_
              refine WL_r (Rd_addN (j := 1) rfl rfl) rfl ?_
              refine WL_r (Rd_assign rfl) rfl ?_
              refine WL_nil ?_
              refine Ps_next hK67 ?_
              refine WC_region ?_
              refine WL_r (Rd_move rfl) rfl ?_
              refine WL_r (Rd_addN (j := 1) rfl rfl) rfl ?_
              refine WL_r (Rd_assign rfl) rfl ?_
              refine WL_nil ?_
              refine Ps_wkB (hK64 ⟨k + 1, t + 1⟩ (⟨by (try dsimp only); omega, by (try dsimp only); rw [cN_succ, if_pos hkk, ht], by (try dsimp only); omega⟩) (by (try dsimp only); omega))
             ·try simp only [dz, ne_eq] at hc13
              have hkk : bAt nb ((k : Nat) : Int) = false := by first | assumption | simp_all
              refine WC_skip ?_
              refine Ps_next hK67 ?_
              refine WC_region ?_
              refine WL_r (Rd_move rfl) rfl ?_
              refine WL_r (Rd_addN (j := 1) rfl rfl) rfl ?_
              refine WL_r (Rd_assign rfl) rfl ?_
              refine WL_nil ?_
              refine Ps_wkB (hK64 ⟨k + 1, t⟩ (⟨by (try dsimp only); omega, by (try dsimp only); rw [cN_succ, if_neg (by rw [hkk]; decide), ht]; rfl, by (try dsimp only); omega⟩) (by (try dsimp only); omega))
            ·try simp only [dz, ne_eq] at hc12
             obtain rfl : k = 255 := by omega
             refine WC_exit ?_
             refine Ps_next hK62 ?_
             refine WC_seq fun K69 hK69 => ?_
             refine WC_sr fun K70 hK70 => ?_
             refine WL_r (Rd_assign rfl) rfl ?_
             refine WL_end hK70 ?_
             refine WC_block ?_
             refine WC_loopK (σ := Nat × Nat) (fun ⟨k, t2⟩ => [(18, .int .i64 ((t2 : Nat) : Int)), (20, .int .i64 ((k : Nat) : Int))]) (fun ⟨k, t2⟩ => []) (fun ⟨k, t2⟩ => k ≤ 32 ∧ t2 = cN (fun n => bAt nb ((n : Nat) : Int)) 255 + cN (fun s => bAt mb ((s : Nat) : Int) && !bAt sb ((s : Nat) : Int)) k ∧ t2 ≤ 255 + k) (fun ⟨k, t2⟩ => 32 - k) ⟨0, t⟩ [1, 4, 5, 7, 16, 184, 185, 186, 187, 188, 189, 190, 191, 192, 193] kpA (by (try dsimp only); repeat (first | with_reducible exact Gv.nil | (with_reducible apply Gv.cons; · (repeat (first | with_reducible exact Ext.here | with_reducible apply Ext.there))))) ?_ ?_ Sub.refl ?_
             ·exact ⟨by omega, by (try dsimp only); rw [ht]; rfl, by (try dsimp only); omega⟩
             ·(try dsimp only); exact (Wk.cons lkA (Wk.cons lkA Wk.nil))
             ·rintro ⟨k, t2⟩ ⟨hkl2, ht2, htk2⟩ K71 hK71
              simp only [List.cons_append, List.nil_append]
              refine WC_seq fun K72 hK72 => ?_
              refine WC_sr fun K73 hK73 => ?_
              refine WL_r (Rd_move rfl) rfl ?_
              refine WL_r (Rd_lssN (j := 32) rfl rfl) rfl ?_
              refine WL_end hK73 ?_
              refine WC_cond rfl (fun hc14 => ?_) (fun hc14 => ?_)
              ·try simp only [dz, ne_eq] at hc14
               refine WC_skip ?_
               refine Ps_next hK72 ?_
               refine WC_seq fun K74 hK74 => ?_
               refine WC_block ?_
               refine WC_sr fun K75 hK75 => ?_
               refine WL_r (Rd_move rfl) rfl ?_
               refine WL_r (Rd_indexB ((k : Nat) : Int).toNat rfl rfl ud64 sz4 (by omega) (by omega)) rfl ?_
               refine WL_r (Rd_load rfl tk4 (v := .bool (bAt mb ((k : Nat) : Int))) (hi := bAt_get (by omega))) rfl ?_
               refine WL_r (Rd_move rfl) rfl ?_
               refine WL_bool 176 rfl (fun hg76 => ?_) (fun hg76 => ?_)
               ·try simp only [dz, ne_eq] at hg76
                refine WL_r (Rd_move rfl) rfl ?_
                refine WL_r (Rd_indexB ((k : Nat) : Int).toNat rfl rfl ud64 sz4 (by omega) (by omega)) rfl ?_
                refine WL_r (Rd_load rfl tk4 (v := .bool (bAt sb ((k : Nat) : Int))) (hi := bAt_get (by omega))) rfl ?_
                refine WL_r (Rd_not rfl) rfl ?_
                refine WL_r (Rd_pickT rfl rfl) rfl ?_
                refine WL_end hK75 ?_
                refine WC_cond rfl (fun hc15 => ?_) (fun hc15 => ?_)
                ·try simp only [dz, ne_eq] at hc15
                 have hkk : (bAt mb ((k : Nat) : Int) && !bAt sb ((k : Nat) : Int)) = true := by first | (simp_all; done) | grind
                 refine WC_region ?_
                 refine WL_r (Rd_move rfl) rfl ?_
                 refine WL_r (Rd_addN (j := 1) rfl rfl) rfl ?_
                 refine WL_r (Rd_assign rfl) rfl ?_
                 refine WL_nil ?_
                 refine Ps_next hK74 ?_
                 refine WC_region ?_
                 refine WL_r (Rd_move rfl) rfl ?_
                 refine WL_r (Rd_addN (j := 1) rfl rfl) rfl ?_
                 refine WL_r (Rd_assign rfl) rfl ?_
                 refine WL_nil ?_
                 refine Ps_wkB (hK71 ⟨k + 1, t2 + 1⟩ (⟨by (try dsimp only); omega, by (try dsimp only); rw [ht2, cN_succ (fun s => bAt mb ((s : Nat) : Int) && !bAt sb ((s : Nat) : Int)) k, if_pos hkk]; omega, by (try dsimp only); omega⟩) (by (try dsimp only); omega))
                ·try simp only [dz, ne_eq] at hc15
                 have hkk : (bAt mb ((k : Nat) : Int) && !bAt sb ((k : Nat) : Int)) = false := by first | (simp_all; done) | grind
                 refine WC_skip ?_
                 refine Ps_next hK74 ?_
                 refine WC_region ?_
                 refine WL_r (Rd_move rfl) rfl ?_
                 refine WL_r (Rd_addN (j := 1) rfl rfl) rfl ?_
                 refine WL_r (Rd_assign rfl) rfl ?_
                 refine WL_nil ?_
                 refine Ps_wkB (hK71 ⟨k + 1, t2⟩ (⟨by (try dsimp only); omega, by (try dsimp only); rw [ht2, cN_succ (fun s => bAt mb ((s : Nat) : Int) && !bAt sb ((s : Nat) : Int)) k, if_neg (by rw [hkk]; decide)]; omega, by (try dsimp only); omega⟩) (by (try dsimp only); omega))
               ·try simp only [dz, ne_eq] at hg76
                refine WL_skip rfl rfl rfl ?_
                refine WL_skip rfl rfl rfl ?_
                refine WL_skip rfl rfl rfl ?_
                refine WL_skip rfl rfl rfl ?_
                refine WL_r (Rd_pickF rfl rfl) rfl ?_
                refine WL_end hK75 ?_
                refine WC_condF rfl ?_
                have hkk : (bAt mb ((k : Nat) : Int) && !bAt sb ((k : Nat) : Int)) = false := by first | (simp_all; done) | grind
                refine WC_skip ?_
                refine Ps_next hK74 ?_
                refine WC_region ?_
                refine WL_r (Rd_move rfl) rfl ?_
                refine WL_r (Rd_addN (j := 1) rfl rfl) rfl ?_
                refine WL_r (Rd_assign rfl) rfl ?_
                refine WL_nil ?_
                refine Ps_wkB (hK71 ⟨k + 1, t2⟩ (⟨by (try dsimp only); omega, by (try dsimp only); rw [ht2, cN_succ (fun s => bAt mb ((s : Nat) : Int) && !bAt sb ((s : Nat) : Int)) k, if_neg (by rw [hkk]; decide)]; omega, by (try dsimp only); omega⟩) (by (try dsimp only); omega))
              ·try simp only [dz, ne_eq] at hc14
               obtain rfl : k = 32 := by omega
               refine WC_exit ?_
               refine Ps_next hK69 ?_
               refine WC_sr fun K77 hK77 => ?_
               refine WL_r (Rd_move rfl) rfl ?_
               refine WL_r (Rd_move rfl) rfl ?_
               refine WL_r (Rd_len_sv rfl rfl ud22 (hA := hM)) rfl ?_
               refine WL_r (Rd_valE (v := .bool true) (Rd_eqlN rfl rfl) (by simp)) rfl ?_
               refine WL_r (Rd_move rfl) rfl ?_
               refine WL_r (Rd_move rfl) rfl ?_
               refine WL_r (Rd_move rfl) rfl ?_
               refine WL_r (Rd_len_sv rfl rfl ud22 (hA := hM)) rfl ?_
               refine WL_r (Rd_valE (v := .bool true) (Rd_eqlN rfl rfl) (congrArg Value.bool (decide_eq_true (ht2.trans (cover_len hm hok hsh hk))))) rfl ?_
               refine WL_r (Rd_pickT rfl rfl) rfl ?_
               refine WL_r (Rd_assign rfl) rfl ?_
               refine WL_end hK77 ?_
               refine WC_ret ?_
               exact hret.gfE () (Rs1 rfl rfl) (by first | rfl | simp_all)
end Go.Proofs.Ytilmiikfjcdllaa
namespace Go.Proofs.Ytilmiikfjcdllaa
open Go.RowKit Go.SL Go.ShM Go.HyM Go.Fl Go.SvM
set_option maxHeartbeats 1000000
set_option maxRecDepth 20000
set_option linter.all false
theorem cf14 : cfn Try.prog 14 = true := by kernel_rfl
theorem cf15 : cfn Try.prog 15 = true := by kernel_rfl
theorem matches_no {X : Asn} {v : Value} {ps : List Pr} {ao : Option Addr} {cap : Nat} (hS : Sv [X] v 2 ePr ps ao cap) (hn : ps.length ≤ 100000000) (hm : ¬ mayP ps) : Ct Try.prog 6 [v] [X] (fun _ : Unit => .bool true) (fun _ => [X]) := by
 refine Ct_body (n := 110) Try.func6 rfl rfl rfl fun F w0 Q hret hnorm hp => ?_
 change WC _ _ _ _ _ _ _ (_ :: F)
 refine WC_sr fun K1 hK1 => ?_
 refine WL_r (Rd_assign rfl) rfl ?_
 refine WL_end hK1 ?_
 refine WC_seq fun K2 hK2 => ?_
 refine WC_sr fun K3 hK3 => ?_
 refine WL_ac (Ac_call cf8 rfl (hs := lives_ct)) rfl rfl rfl ?_
 rintro _ _ ⟨⟨⟩, rfl, hA⟩
 simp only [List.cons_append, List.nil_append] at hA
 replace hA := hA.symm
 subst hA
 refine WL_r (Rd_not rfl) rfl ?_
 refine WL_end hK3 ?_
 refine WC_condF rfl ?_
 refine WC_skip ?_
 refine Ps_next hK2 ?_
 refine WC_sr fun K4 hK4 => ?_
 refine WL_r (Rd_move rfl) rfl ?_
 refine WL_ac (Ac_call cf14 rfl (hs := Match_no (X := X) (ps := ps) hS hn hm)) rfl rfl rfl ?_
 rintro _ _ ⟨⟨⟩, rfl, hA⟩
 simp only [List.cons_append, List.nil_append] at hA
 replace hA := hA.symm
 subst hA
 refine WL_r (Rd_move rfl) rfl ?_
 refine WL_r (Rd_ext0 rfl) rfl ?_
 refine WL_r (Rd_ext1 rfl) rfl ?_
 refine WL_r (Rd_assign rfl) rfl ?_
 refine WL_r (Rd_assign rfl) rfl ?_
 refine WL_end hK4 ?_
 refine WC_sr fun K5 hK5 => ?_
 refine WL_r (Rd_move rfl) rfl ?_
 refine WL_ac (Ac_call cf9 rfl (hs := Look_no (X := X) (ps := ps) hS (by omega) hm)) rfl rfl rfl ?_
 rintro _ _ ⟨⟨⟩, rfl, hA⟩
 simp only [List.cons_append, List.nil_append] at hA
 replace hA := hA.symm
 subst hA
 refine WL_r (Rd_move rfl) rfl ?_
 refine WL_r (Rd_ext0 rfl) rfl ?_
 refine WL_r (Rd_ext1 rfl) rfl ?_
 refine WL_ac (Ac_alloc zr27) rfl rfl rfl ?_
 rintro _ _ ⟨b5, rfl, rfl⟩
 refine WL_ac0 (Ac_store (ys := [.int .i64 0, .int .i64 0, .int .i64 0]) rfl rfl sz27 (h1 := by simp [setAt, Value.cells, Value.oneCell']) (hr := rfl)) rfl rfl ?_
 rintro _ _ rfl
 refine WL_r (Rd_assign rfl) rfl ?_
 refine WL_end hK5 ?_
 refine WC_seq fun K6 hK6 => ?_
 refine WC_sr fun K7 hK7 => ?_
 refine WL_r (Rd_move rfl) rfl ?_
 refine WL_ac (Ac_call cf10 rfl (hs := may_ct (X := X) (ps := ps) hS (by omega))) rfl rfl rfl ?_
 rintro _ _ ⟨⟨⟩, rfl, hA⟩
 simp only [List.cons_append, List.nil_append] at hA
 replace hA := hA.symm
 subst hA
 rw [show decide (mayP ps) = false from decide_eq_false hm]
 refine WL_r (Rd_not rfl) rfl ?_
 refine WL_end hK7 ?_
 refine WC_condT rfl ?_
 refine WC_sr fun K8 hK8 => ?_
 refine WL_r (Rd_move rfl) rfl ?_
 refine WL_r (Rd_eqlN (i := 230) (j := 230) rfl rfl) rfl ?_
 refine WL_r (Rd_move rfl) rfl ?_
 refine WL_r (Rd_move rfl) rfl ?_
 refine WL_r (Rd_eqlN (i := 230) (j := 230) rfl rfl) rfl ?_
 refine WL_r (Rd_pickT rfl rfl) rfl ?_
 refine WL_r (Rd_move rfl) rfl ?_
 refine WL_r (Rd_move rfl) rfl ?_
 refine WL_r (Rd_len rfl rfl ud22) rfl ?_
 refine WL_r (Rd_valE (v := .bool true) (Rd_eqlN (i := 0) (j := 0) rfl rfl) rfl) rfl ?_
 refine WL_r (Rd_pickT rfl rfl) rfl ?_
 refine WL_r (Rd_assign rfl) rfl ?_
 refine WL_end hK8 ?_
 refine WC_ret ?_
 exact hret.gf () (Rs1 rfl rfl)

theorem matches_ok {X : Asn} {v : Value} {ps : List Pr} {ao : Option Addr} {cap : Nat} (hS : Sv [X] v 2 ePr ps ao cap) (hn : ps.length ≤ 100000000) (hm : mayP ps) : Ct Try.prog 6 [v] [X] (fun _ : Unit => .bool true) (fun _ => [X]) := by
 refine Ct_body (n := 110) Try.func6 rfl rfl rfl fun F w0 Q hret hnorm hp => ?_
 change WC _ _ _ _ _ _ _ (_ :: F)
 obtain ⟨hmo, hmlen, hmpw, hmax⟩ := mat_in hm.2
 have hb1 := size_fst (lookP_ok ps)
 have hb2 := cnt_le (lookP ps) Prod.fst
 refine WC_sr fun K1 hK1 => ?_
 refine WL_r (Rd_assign rfl) rfl ?_
 refine WL_end hK1 ?_
 refine WC_seq fun K2 hK2 => ?_
 refine WC_sr fun K3 hK3 => ?_
 refine WL_ac (Ac_call cf8 rfl (hs := lives_ct)) rfl rfl rfl ?_
 rintro _ _ ⟨⟨⟩, rfl, hA⟩
 simp only [List.cons_append, List.nil_append] at hA
 replace hA := hA.symm
 subst hA
 refine WL_r (Rd_not rfl) rfl ?_
 refine WL_end hK3 ?_
 refine WC_condF rfl ?_
 refine WC_skip ?_
 refine Ps_next hK2 ?_
 refine WC_sr fun K4 hK4 => ?_
 refine WL_r (Rd_move rfl) rfl ?_
 refine WL_ac (Ac_call cf14 rfl (hs := Match_ok (X := X) (ps := ps) hS hn hm)) rfl rfl rfl ?_
 rintro _ _ ⟨⟨ga, gc⟩, rfl, hA⟩
 simp only [List.cons_append, List.nil_append] at hA
 replace hA := hA.symm
 subst hA
 refine WL_fact (fun w h => arr_facts (a := ga) (cap := gc) (e := 2) (T := 24) (f := ePr) (l := (matM (sizeM (lookP ps)) (lookP ps))) hasA h) (fun hMf => ?_)
 have hM : Sv [arr ga gc 2 24 ePr (matM (sizeM (lookP ps)) (lookP ps))] (sl ga ((matM (sizeM (lookP ps)) (lookP ps))).length gc) 2 ePr (matM (sizeM (lookP ps)) (lookP ps)) ((ga : Option Nat).map fun g => ⟨g, 0, none⟩) gc := Sv_own' encPr hMf.1 hMf.2
 refine WL_r (Rd_move rfl) rfl ?_
 refine WL_r (Rd_ext0 rfl) rfl ?_
 refine WL_r (Rd_ext1 rfl) rfl ?_
 refine WL_r (Rd_assign rfl) rfl ?_
 refine WL_r (Rd_assign rfl) rfl ?_
 refine WL_end hK4 ?_
 refine WC_sr fun K5 hK5 => ?_
 refine WL_r (Rd_move rfl) rfl ?_
 refine WL_ac (Ac_call cf9 rfl (hs := Look_ok (X := X) (ps := ps) hS (by omega) hm)) rfl rfl rfl ?_
 rintro _ _ ⟨⟨⟩, rfl, hA⟩
 simp only [List.cons_append, List.nil_append] at hA
 replace hA := hA.symm
 subst hA
 refine WL_r (Rd_move rfl) rfl ?_
 refine WL_r (Rd_ext0 rfl) rfl ?_
 refine WL_r (Rd_ext1 rfl) rfl ?_
 refine WL_ac (Ac_alloc zr27) rfl rfl rfl ?_
 rintro _ _ ⟨b5, rfl, rfl⟩
 refine WL_ac0 (Ac_store (ys := [.int .i64 (((cntM (lookP ps) Prod.fst) : Nat) : Int), .int .i64 (((cntM (lookP ps) Prod.snd) : Nat) : Int), .int .i64 (((sizeM (lookP ps)) : Nat) : Int)]) rfl rfl sz27 (h1 := by simp [setAt, Value.cells, Value.oneCell']) (hr := rfl)) rfl rfl ?_
 rintro _ _ rfl
 refine WL_r (Rd_assign rfl) rfl ?_
 refine WL_end hK5 ?_
 refine WC_seq fun K6 hK6 => ?_
 refine WC_sr fun K7 hK7 => ?_
 refine WL_r (Rd_move rfl) rfl ?_
 refine WL_ac (Ac_call cf10 rfl (hs := may_ct (X := X) (ps := ps) hS (by omega))) rfl rfl rfl ?_
 rintro _ _ ⟨⟨⟩, rfl, hA⟩
 simp only [List.cons_append, List.nil_append] at hA
 replace hA := hA.symm
 subst hA
 rw [show decide (mayP ps) = true from decide_eq_true hm]
 refine WL_r (Rd_not rfl) rfl ?_
 refine WL_end hK7 ?_
 refine WC_condF rfl ?_
 refine WC_skip ?_
 refine Ps_next hK6 ?_
 refine WC_seq fun K8 hK8 => ?_
 refine WC_sr fun K9 hK9 => ?_
 refine WL_r (Rd_move rfl) rfl ?_
 refine WL_r (Rd_neqN (i := 0) (j := 0) rfl rfl) rfl ?_
 refine WL_r (Rd_move rfl) rfl ?_
 refine WL_r (Rd_move rfl) rfl ?_
 refine WL_r (Rd_neqN (i := 0) (j := 0) rfl rfl) rfl ?_
 refine WL_r (Rd_pickF rfl rfl) rfl ?_
 refine WL_r (Rd_move rfl) rfl ?_
 refine WL_r (Rd_move rfl) rfl ?_
 refine WL_r (Rd_len_sv rfl rfl ud22 (hA := hM)) rfl ?_
 refine WL_r (Rd_fieldAddr rfl fo27_2) rfl ?_
 refine WL_r (Rd_load rfl tk3 (v := .int .i64 (((sizeM (lookP ps)) : Nat) : Int))) rfl ?_
 refine WL_r (Rd_valE (v := .bool false) (Rd_neqN rfl rfl) (congrArg Value.bool (decide_eq_false (fun k => k hmlen)))) rfl ?_
 refine WL_r (Rd_pickF rfl rfl) rfl ?_
 refine WL_end hK9 ?_
 refine WC_condF rfl ?_
 refine WC_skip ?_
 refine Ps_next hK8 ?_
 refine WC_seq fun K10 hK10 => ?_
 refine WC_sr fun K11 hK11 => ?_
 refine WL_r (Rd_assign rfl) rfl ?_
 refine WL_end hK11 ?_
 refine WC_block ?_
 refine WC_loopK (σ := Nat) (fun i => [(7, .int .i64 ((i : Nat) : Int))]) (fun i => []) (fun i => i ≤ (matM (sizeM (lookP ps)) (lookP ps)).length) (fun i => (matM (sizeM (lookP ps)) (lookP ps)).length - i) (0) [0, 3, 107, 108, 109] kpA (by (try dsimp only); repeat (first | with_reducible exact Gv.nil | (with_reducible apply Gv.cons; · (repeat (first | with_reducible exact Ext.here | with_reducible apply Ext.there))))) ?_ ?_ Sub.refl ?_
 ·exact Nat.zero_le _
 ·(try dsimp only); exact (Wk.cons lkA Wk.nil)
 ·rintro i hi K12 hK12
  simp only [List.cons_append, List.nil_append]
  refine WC_seq fun K13 hK13 => ?_
  refine WC_sr fun K14 hK14 => ?_
  refine WL_r (Rd_move rfl) rfl ?_
  refine WL_r (Rd_move rfl) rfl ?_
  refine WL_r (Rd_len_sv rfl rfl ud22 (hA := hM)) rfl ?_
  refine WL_r (Rd_lssN rfl rfl) rfl ?_
  refine WL_end hK14 ?_
  refine WC_cond rfl (fun hc3 => ?_) (fun hc3 => ?_)
  ·try simp only [dz, ne_eq] at hc3
   obtain ⟨q, hq⟩ : ∃ q, (matM (sizeM (lookP ps)) (lookP ps))[i]? = some q := ⟨_, List.getElem?_eq_getElem (by omega)⟩
   have hqps := hmo.sub q (List.mem_of_getElem? hq)
   have hpv := pw_prev hmpw hq
   refine WC_skip ?_
   refine Ps_next hK13 ?_
   refine WC_seq fun K15 hK15 => ?_
   refine WC_block ?_
   refine WC_sr fun K16 hK16 => ?_
   refine WL_r (Rd_assign rfl) rfl ?_
   refine WL_end hK16 ?_
   refine WC_seq fun K17 hK17 => ?_
   refine WC_sr fun K18 hK18 => ?_
   refine WL_r (Rd_assign rfl) rfl ?_
   refine WL_end hK18 ?_
   refine WC_block ?_
   refine WC_loopK (σ := Nat) (fun k => [(8, .bool (decide (q ∈ ps.take k))), (9, .int .i64 ((k : Nat) : Int))]) (fun k => []) (fun k => k ≤ ps.length) (fun k => ps.length - k) (0) [0, 2, 3, 7, 10, 50, 51, 52, 53, 54, 55, 71, 72, 73, 74, 75, 76, 77, 78, 79, 80, 81, 82, 83, 84, 85, 86, 87, 88, 89, 90, 91, 92, 93, 94, 95, 96, 97, 98, 99, 100, 101, 102, 103, 104, 105, 106, 107, 108, 109] kpA (by (try dsimp only); repeat (first | with_reducible exact Gv.nil | (with_reducible apply Gv.cons; · (repeat (first | with_reducible exact Ext.here | with_reducible apply Ext.there))))) ?_ ?_ Sub.refl ?_
   ·exact Nat.zero_le _
   ·(try dsimp only); exact (Wk.cons lkA (Wk.cons lkA Wk.nil))
   ·rintro k hk K19 hK19
    simp only [List.cons_append, List.nil_append]
    refine WC_seq fun K20 hK20 => ?_
    refine WC_sr fun K21 hK21 => ?_
    refine WL_r (Rd_move rfl) rfl ?_
    refine WL_r (Rd_move rfl) rfl ?_
    refine WL_r (Rd_len_sv rfl rfl ud22 (hA := hS)) rfl ?_
    refine WL_r (Rd_lssN rfl rfl) rfl ?_
    refine WL_end hK21 ?_
    refine WC_cond rfl (fun hc4 => ?_) (fun hc4 => ?_)
    ·try simp only [dz, ne_eq] at hc4
     obtain ⟨p, hp0⟩ : ∃ p, ps[k]? = some p := ⟨_, List.getElem?_eq_getElem (by omega)⟩
     refine WC_skip ?_
     refine Ps_next hK20 ?_
     refine WC_seq fun K22 hK22 => ?_
     refine WC_block ?_
     refine WC_seq fun K23 hK23 => ?_
     refine WC_drawA mix (fun i => ([2, 2, 2, 2, 2, 2, 2, 2, 2] : List Nat).getD i 0) ?_
     refine WJ_tp 0 rfl (Rd_move rfl) rfl (hp _ _) ?_
     refine WJ_tp 1 rfl (Rd_move rfl) rfl (hp _ _) ?_
     refine WJ_tp 2 rfl (Rd_index_sv k rfl rfl ud22 sz24 (hA := hS) (hi := by omega)) rfl (hp _ _) ?_
     refine WJ_tk 3 (Rd_loadg_sv (f := ePr) (i := k) (y := p) rfl tk24 (hA := hS) (hl := hp0)) hp ?_ rfl (by kernel_rfl) rfl rfl rfl
     refine WJ_tp 4 rfl (Rd_move rfl) rfl (hp _ _) ?_
     refine WJ_tp 5 rfl (Rd_move rfl) rfl (hp _ _) ?_
     refine WJ_tp 6 rfl (Rd_index_sv i rfl rfl ud22 sz24 (hA := hM) (hi := by omega)) rfl (hp _ _) ?_
     refine WJ_tk 7 (Rd_loadg_sv (f := ePr) (i := i) (y := q) rfl tk24 (hA := hM) (hl := hq)) hp ?_ rfl (by kernel_rfl) rfl rfl rfl
     refine WJ_tp 8 rfl (Rd_valE (v := .bool (decide (p = q))) (Rd_eqS (xs := ePr p) (ys := ePr q) rfl rfl fls24 (EqL.sc tk3 rfl rfl (Eqs_int ud3 _ _) (EqL.sc tk3 rfl rfl (Eqs_int ud3 _ _) EqL.nil))) (congrArg Value.bool (pr_dec p q))) rfl (hp _ _) ?_
     refine WJ_done (by kernel_rfl) ?_
     refine Ps_next hK23 ?_
     refine WC_cond rfl (fun hc5 => ?_) (fun hc5 => ?_)
     ·try simp only [dz, ne_eq] at hc5
      have hpq : p = q := by first | assumption | simp_all
      refine WC_region ?_
      refine WL_r (Rd_valE (v := .bool (decide (q ∈ ps.take (k + 1)))) (Rd_assign rfl) (congrArg Value.bool (by rw [in_snoc hp0, decide_eq_true hpq, Bool.or_true]))) rfl ?_
      refine WL_nil ?_
      refine Ps_next hK22 ?_
      refine WC_region ?_
      refine WL_r (Rd_move rfl) rfl ?_
      refine WL_r (Rd_addN (j := 1) rfl rfl) rfl ?_
      refine WL_r (Rd_assign rfl) rfl ?_
      refine WL_nil ?_
      refine Ps_wkB (hK19 (k + 1) (by omega) (by omega))
     ·try simp only [dz, ne_eq] at hc5
      have hpq : ¬ p = q := by first | assumption | simp_all
      rw [show decide (q ∈ ps.take k) = decide (q ∈ ps.take (k + 1)) from by rw [in_snoc hp0, decide_eq_false hpq, Bool.or_false]]
      refine WC_skip ?_
      refine Ps_next hK22 ?_
      refine WC_region ?_
      refine WL_r (Rd_move rfl) rfl ?_
      refine WL_r (Rd_addN (j := 1) rfl rfl) rfl ?_
      refine WL_r (Rd_assign rfl) rfl ?_
      refine WL_nil ?_
      refine Ps_wkB (hK19 (k + 1) (by omega) (by omega))
    ·try simp only [dz, ne_eq] at hc4
     obtain rfl : k = ps.length := by omega
     rw [List.take_length, show decide (q ∈ ps) = true from decide_eq_true hqps]
     refine WC_exit ?_
     refine Ps_next hK17 ?_
     refine WC_seq fun K24 hK24 => ?_
     refine WC_seq fun K25 hK25 => ?_
     refine WC_drawA mix (fun i => ([2, 2, 2, 2, 2, 2, 2, 2, 2, 2, 2, 2, 2, 2, 2, 2, 2, 2, 2, 2] : List Nat).getD i 0) ?_
     refine WJ_tp 0 rfl (Rd_move rfl) rfl (hp _ _) ?_
     refine WJ_tp 1 rfl (Rd_not rfl) rfl (hp _ _) ?_
     refine WJ_tp 2 rfl (Rd_move rfl) rfl (hp _ _) ?_
     refine WJ_bool 73 rfl (fun hg26 => ?_) (fun hg26 => ?_)
     ·try simp only [dz, ne_eq] at hg26
      refine WJ_skip 3 rfl (by kernel_rfl) rfl rfl rfl (hp _ _) ?_
      refine WJ_skip 4 rfl (by kernel_rfl) rfl rfl rfl (hp _ _) ?_
      refine WJ_skip 5 rfl (by kernel_rfl) rfl rfl rfl (hp _ _) ?_
      refine WJ_skip 6 rfl (by kernel_rfl) rfl rfl rfl (hp _ _) ?_
      refine WJ_skip 7 rfl (by kernel_rfl) rfl rfl rfl (hp _ _) ?_
      refine WJ_skip 8 rfl (by kernel_rfl) rfl rfl rfl (hp _ _) ?_
      refine WJ_skip 9 rfl (by kernel_rfl) rfl rfl rfl (hp _ _) ?_
      refine WJ_skip 10 rfl (by kernel_rfl) rfl rfl rfl (hp _ _) ?_
      refine WJ_skip 11 rfl (by kernel_rfl) rfl rfl rfl (hp _ _) ?_
      refine WJ_skip 12 rfl (by kernel_rfl) rfl rfl rfl (hp _ _) ?_
      refine WJ_skip 13 rfl (by kernel_rfl) rfl rfl rfl (hp _ _) ?_
      refine WJ_skip 14 rfl (by kernel_rfl) rfl rfl rfl (hp _ _) ?_
      refine WJ_skip 15 rfl (by kernel_rfl) rfl rfl rfl (hp _ _) ?_
      refine WJ_skip 16 rfl (by kernel_rfl) rfl rfl rfl (hp _ _) ?_
      refine WJ_skip 17 rfl (by kernel_rfl) rfl rfl rfl (hp _ _) ?_
      refine WJ_skip 18 rfl (by kernel_rfl) rfl rfl rfl (hp _ _) ?_
      refine WJ_tp 19 rfl (Rd_pickT rfl rfl) rfl (hp _ _) ?_
      refine WJ_done (by kernel_rfl) ?_
      refine Ps_next hK25 ?_
      refine WC_condT rfl ?_
      exfalso
      first | omega | (simp_all; done) | (simp_all; omega)
     ·try simp only [dz, ne_eq] at hg26
      refine WJ_tp 3 rfl (Rd_move rfl) rfl (hp _ _) ?_
      refine WJ_tp 4 rfl (Rd_gtrN (j := 0) rfl rfl) rfl (hp _ _) ?_
      refine WJ_tp 5 rfl (Rd_move rfl) rfl (hp _ _) ?_
      refine WJ_bool 76 rfl (fun hg27 => ?_) (fun hg27 => ?_)
      ·try simp only [dz, ne_eq] at hg27
       refine WJ_tp 6 rfl (Rd_move rfl) rfl (hp _ _) ?_
       refine WJ_tp 7 rfl (Rd_move rfl) rfl (hp _ _) ?_
       refine WJ_tp 8 rfl (Rd_index_sv i rfl rfl ud22 sz24 (hA := hM) (hi := by omega)) rfl (hp _ _) ?_
       refine WJ_tp 9 rfl (Rd_fieldAddr rfl fo24_0) rfl (hp _ _) ?_
       refine WJ_tk 10 (Rd_load_sv (i := i) (j := 0) (y := q) rfl tk3 (hA := hM) (hl := hq) (hv := rfl)) hp ?_ rfl (by kernel_rfl) rfl rfl rfl
       refine WJ_tp 11 rfl (Rd_move rfl) rfl (hp _ _) ?_
       refine WJ_tp 12 rfl (Rd_move rfl) rfl (hp _ _) ?_
       refine WJ_tp 13 rfl (Rd_subN (j := 1) rfl rfl) rfl (hp _ _) ?_
       refine WJ_tp 14 rfl (Rd_index_sv (i - 1) rfl rfl ud22 sz24 (hA := hM) (hi := by omega)) rfl (hp _ _) ?_
       refine WJ_tp 15 rfl (Rd_fieldAddr rfl fo24_0) rfl (hp _ _) ?_
       refine WJ_tk 16 (Rd_load_sv (i := i - 1) (j := 0) (y := (matM (sizeM (lookP ps)) (lookP ps)).getD (i - 1) (0, 0)) rfl tk3 (hA := hM) (hl := getP (by omega)) (hv := rfl)) hp ?_ rfl (by kernel_rfl) rfl rfl rfl
       refine WJ_tp 17 rfl (Rd_leq rfl rfl) rfl (hp _ _) ?_
       refine WJ_tp 18 rfl (Rd_pickT rfl rfl) rfl (hp _ _) ?_
       refine WJ_tp 19 rfl (Rd_pickF rfl rfl) rfl (hp _ _) ?_
       refine WJ_done (by kernel_rfl) ?_
       refine Ps_next hK25 ?_
       refine WC_cond rfl (fun hc6 => ?_) (fun hc6 => ?_)
       ·try simp only [dz, ne_eq] at hc6
        exfalso
        first | omega | (simp_all; done) | (simp_all; omega)
       ·try simp only [dz, ne_eq] at hc6
        refine WC_skip ?_
        refine Ps_next hK24 ?_
        refine WC_sr fun K28 hK28 => ?_
        refine WL_r (Rd_assign rfl) rfl ?_
        refine WL_end hK28 ?_
        refine WC_block ?_
        refine WC_loopK (σ := Nat) (fun k => [(10, .int .i64 ((k : Nat) : Int))]) (fun k => []) (fun k => k ≤ i) (fun k => i - k) (0) [0, 3, 7, 8, 9, 50, 51, 52, 53, 54, 55, 56, 57, 58, 59, 60, 61, 62, 63, 64, 65, 66, 67, 68, 69, 70, 71, 72, 73, 74, 75, 76, 77, 78, 79, 80, 81, 82, 83, 84, 85, 86, 87, 88, 89, 90, 107, 108, 109] kpA (by (try dsimp only); repeat (first | with_reducible exact Gv.nil | (with_reducible apply Gv.cons; · (repeat (first | with_reducible exact Ext.here | with_reducible apply Ext.there))))) ?_ ?_ Sub.refl ?_
        ·exact Nat.zero_le _
        ·(try dsimp only); exact (Wk.cons lkA Wk.nil)
        ·rintro k hk K29 hK29
         simp only [List.cons_append, List.nil_append]
         refine WC_seq fun K30 hK30 => ?_
         refine WC_sr fun K31 hK31 => ?_
         refine WL_r (Rd_move rfl) rfl ?_
         refine WL_r (Rd_move rfl) rfl ?_
         refine WL_r (Rd_lssN rfl rfl) rfl ?_
         refine WL_end hK31 ?_
         refine WC_cond rfl (fun hc7 => ?_) (fun hc7 => ?_)
         ·try simp only [dz, ne_eq] at hc7
          obtain ⟨z, hz⟩ : ∃ z, (matM (sizeM (lookP ps)) (lookP ps))[k]? = some z := ⟨_, List.getElem?_eq_getElem (by omega)⟩
          have hne := snd_ne hmo.snd hq hz (by omega)
          refine WC_skip ?_
          refine Ps_next hK30 ?_
          refine WC_seq fun K32 hK32 => ?_
          refine WC_block ?_
          refine WC_seq fun K33 hK33 => ?_
          refine WC_drawA mix (fun i => ([2, 2, 2, 2, 2, 2, 2, 2, 2, 2, 2] : List Nat).getD i 0) ?_
          refine WJ_tp 0 rfl (Rd_move rfl) rfl (hp _ _) ?_
          refine WJ_tp 1 rfl (Rd_move rfl) rfl (hp _ _) ?_
          refine WJ_tp 2 rfl (Rd_index_sv k rfl rfl ud22 sz24 (hA := hM) (hi := by omega)) rfl (hp _ _) ?_
          refine WJ_tp 3 rfl (Rd_fieldAddr rfl fo24_1) rfl (hp _ _) ?_
          refine WJ_tk 4 (Rd_load_sv (i := k) (j := 1) (y := z) rfl tk3 (hA := hM) (hl := hz) (hv := rfl)) hp ?_ rfl (by kernel_rfl) rfl rfl rfl
          refine WJ_tp 5 rfl (Rd_move rfl) rfl (hp _ _) ?_
          refine WJ_tp 6 rfl (Rd_move rfl) rfl (hp _ _) ?_
          refine WJ_tp 7 rfl (Rd_index_sv i rfl rfl ud22 sz24 (hA := hM) (hi := by omega)) rfl (hp _ _) ?_
          refine WJ_tp 8 rfl (Rd_fieldAddr rfl fo24_1) rfl (hp _ _) ?_
          refine WJ_tk 9 (Rd_load_sv (i := i) (j := 1) (y := q) rfl tk3 (hA := hM) (hl := hq) (hv := rfl)) hp ?_ rfl (by kernel_rfl) rfl rfl rfl
          refine WJ_tp 10 rfl (Rd_eql rfl rfl) rfl (hp _ _) ?_
          refine WJ_done (by kernel_rfl) ?_
          refine Ps_next hK33 ?_
          refine WC_cond rfl (fun hc8 => ?_) (fun hc8 => ?_)
          ·try simp only [dz, ne_eq] at hc8
           exfalso
           first | omega | (simp_all; done)
          ·try simp only [dz, ne_eq] at hc8
           refine WC_skip ?_
           refine Ps_next hK32 ?_
           refine WC_region ?_
           refine WL_r (Rd_move rfl) rfl ?_
           refine WL_r (Rd_addN (j := 1) rfl rfl) rfl ?_
           refine WL_r (Rd_assign rfl) rfl ?_
           refine WL_nil ?_
           refine Ps_wkB (hK29 (k + 1) (by omega) (by omega))
         ·try simp only [dz, ne_eq] at hc7
          refine WC_exit ?_
          refine Ps_next hK15 ?_
          refine WC_region ?_
          refine WL_r (Rd_move rfl) rfl ?_
          refine WL_r (Rd_addN (j := 1) rfl rfl) rfl ?_
          refine WL_r (Rd_assign rfl) rfl ?_
          refine WL_nil ?_
          refine Ps_wkB (hK12 (i + 1) (by omega) (by omega))
      ·try simp only [dz, ne_eq] at hg27
       refine WJ_skip 6 rfl (by kernel_rfl) rfl rfl rfl (hp _ _) ?_
       refine WJ_skip 7 rfl (by kernel_rfl) rfl rfl rfl (hp _ _) ?_
       refine WJ_skip 8 rfl (by kernel_rfl) rfl rfl rfl (hp _ _) ?_
       refine WJ_skip 9 rfl (by kernel_rfl) rfl rfl rfl (hp _ _) ?_
       refine WJ_skip 10 rfl (by kernel_rfl) rfl rfl rfl (hp _ _) ?_
       refine WJ_skip 11 rfl (by kernel_rfl) rfl rfl rfl (hp _ _) ?_
       refine WJ_skip 12 rfl (by kernel_rfl) rfl rfl rfl (hp _ _) ?_
       refine WJ_skip 13 rfl (by kernel_rfl) rfl rfl rfl (hp _ _) ?_
       refine WJ_skip 14 rfl (by kernel_rfl) rfl rfl rfl (hp _ _) ?_
       refine WJ_skip 15 rfl (by kernel_rfl) rfl rfl rfl (hp _ _) ?_
       refine WJ_skip 16 rfl (by kernel_rfl) rfl rfl rfl (hp _ _) ?_
       refine WJ_skip 17 rfl (by kernel_rfl) rfl rfl rfl (hp _ _) ?_
       refine WJ_tp 18 rfl (Rd_pickF rfl rfl) rfl (hp _ _) ?_
       refine WJ_tp 19 rfl (Rd_pickF rfl rfl) rfl (hp _ _) ?_
       refine WJ_done (by kernel_rfl) ?_
       refine Ps_next hK25 ?_
       refine WC_condF rfl ?_
       refine WC_skip ?_
       refine Ps_next hK24 ?_
       refine WC_sr fun K34 hK34 => ?_
       refine WL_r (Rd_assign rfl) rfl ?_
       refine WL_end hK34 ?_
       refine WC_block ?_
       refine WC_loopK (σ := Nat) (fun k => [(10, .int .i64 ((k : Nat) : Int))]) (fun k => []) (fun k => k ≤ i) (fun k => i - k) (0) [0, 3, 7, 8, 9, 50, 51, 52, 53, 54, 55, 56, 57, 58, 59, 60, 61, 62, 63, 64, 65, 66, 67, 68, 69, 70, 71, 72, 73, 74, 75, 76, 77, 78, 79, 80, 81, 82, 83, 84, 85, 86, 87, 88, 89, 90, 107, 108, 109] kpA (by (try dsimp only); repeat (first | with_reducible exact Gv.nil | (with_reducible apply Gv.cons; · (repeat (first | with_reducible exact Ext.here | with_reducible apply Ext.there))))) ?_ ?_ Sub.refl ?_
       ·exact Nat.zero_le _
       ·(try dsimp only); exact (Wk.cons lkA Wk.nil)
       ·rintro k hk K35 hK35
        simp only [List.cons_append, List.nil_append]
        refine WC_seq fun K36 hK36 => ?_
        refine WC_sr fun K37 hK37 => ?_
        refine WL_r (Rd_move rfl) rfl ?_
        refine WL_r (Rd_move rfl) rfl ?_
        refine WL_r (Rd_lssN rfl rfl) rfl ?_
        refine WL_end hK37 ?_
        refine WC_cond rfl (fun hc7 => ?_) (fun hc7 => ?_)
        ·try simp only [dz, ne_eq] at hc7
         obtain ⟨z, hz⟩ : ∃ z, (matM (sizeM (lookP ps)) (lookP ps))[k]? = some z := ⟨_, List.getElem?_eq_getElem (by omega)⟩
         have hne := snd_ne hmo.snd hq hz (by omega)
         refine WC_skip ?_
         refine Ps_next hK36 ?_
         refine WC_seq fun K38 hK38 => ?_
         refine WC_block ?_
         refine WC_seq fun K39 hK39 => ?_
         refine WC_drawA mix (fun i => ([2, 2, 2, 2, 2, 2, 2, 2, 2, 2, 2] : List Nat).getD i 0) ?_
         refine WJ_tp 0 rfl (Rd_move rfl) rfl (hp _ _) ?_
         refine WJ_tp 1 rfl (Rd_move rfl) rfl (hp _ _) ?_
         refine WJ_tp 2 rfl (Rd_index_sv k rfl rfl ud22 sz24 (hA := hM) (hi := by omega)) rfl (hp _ _) ?_
         refine WJ_tp 3 rfl (Rd_fieldAddr rfl fo24_1) rfl (hp _ _) ?_
         refine WJ_tk 4 (Rd_load_sv (i := k) (j := 1) (y := z) rfl tk3 (hA := hM) (hl := hz) (hv := rfl)) hp ?_ rfl (by kernel_rfl) rfl rfl rfl
         refine WJ_tp 5 rfl (Rd_move rfl) rfl (hp _ _) ?_
         refine WJ_tp 6 rfl (Rd_move rfl) rfl (hp _ _) ?_
         refine WJ_tp 7 rfl (Rd_index_sv i rfl rfl ud22 sz24 (hA := hM) (hi := by omega)) rfl (hp _ _) ?_
         refine WJ_tp 8 rfl (Rd_fieldAddr rfl fo24_1) rfl (hp _ _) ?_
         refine WJ_tk 9 (Rd_load_sv (i := i) (j := 1) (y := q) rfl tk3 (hA := hM) (hl := hq) (hv := rfl)) hp ?_ rfl (by kernel_rfl) rfl rfl rfl
         refine WJ_tp 10 rfl (Rd_eql rfl rfl) rfl (hp _ _) ?_
         refine WJ_done (by kernel_rfl) ?_
         refine Ps_next hK39 ?_
         refine WC_cond rfl (fun hc8 => ?_) (fun hc8 => ?_)
         ·try simp only [dz, ne_eq] at hc8
          exfalso
          first | omega | (simp_all; done)
         ·try simp only [dz, ne_eq] at hc8
          refine WC_skip ?_
          refine Ps_next hK38 ?_
          refine WC_region ?_
          refine WL_r (Rd_move rfl) rfl ?_
          refine WL_r (Rd_addN (j := 1) rfl rfl) rfl ?_
          refine WL_r (Rd_assign rfl) rfl ?_
          refine WL_nil ?_
          refine Ps_wkB (hK35 (k + 1) (by omega) (by omega))
        ·try simp only [dz, ne_eq] at hc7
         refine WC_exit ?_
         refine Ps_next hK15 ?_
         refine WC_region ?_
         refine WL_r (Rd_move rfl) rfl ?_
         refine WL_r (Rd_addN (j := 1) rfl rfl) rfl ?_
         refine WL_r (Rd_assign rfl) rfl ?_
         refine WL_nil ?_
         refine Ps_wkB (hK12 (i + 1) (by omega) (by omega))
  ·try simp only [dz, ne_eq] at hc3
   obtain rfl : i = (matM (sizeM (lookP ps)) (lookP ps)).length := by omega
   refine WC_exit ?_
   refine Ps_next hK10 ?_
   refine WC_sr fun K40 hK40 => ?_
   refine WL_r (Rd_move rfl) rfl ?_
   refine WL_r (Rd_move rfl) rfl ?_
   refine WL_ac (Ac_call cf15 rfl (hs := Ct.un0 (Xs := [X, arr ga gc 2 24 ePr (matM (sizeM (lookP ps)) (lookP ps))]) (covered_ct (X := sep [X, arr ga gc 2 24 ePr (matM (sizeM (lookP ps)) (lookP ps))]) (ps := ps) (m := (matM (sizeM (lookP ps)) (lookP ps))) (hS.pk Has.here) (hM.pk (Has.there Has.here)) (by have := hm.1; omega) (by omega) hm.2 hmo hmax))) rfl rfl rfl ?_
   rintro _ _ ⟨⟨⟩, rfl, hA⟩
   simp only [List.cons_append, List.nil_append] at hA
   replace hA := hA.symm
   subst hA
   refine WL_r (Rd_assign rfl) rfl ?_
   refine WL_end hK40 ?_
   refine WC_ret ?_
   exact hret.gf () (Rs1 rfl rfl)

theorem matches_ct {X : Asn} {v : Value} {ps : List Pr} {ao : Option Addr} {cap : Nat} (hS : Sv [X] v 2 ePr ps ao cap) (hn : ps.length ≤ 100000000) : Ct Try.prog 6 [v] [X] (fun _ : Unit => .bool true) (fun _ => [X]) := by
  by_cases hm : mayP ps
  · exact matches_ok hS hn hm
  · exact matches_no hS hn hm
end Go.Proofs.Ytilmiikfjcdllaa
