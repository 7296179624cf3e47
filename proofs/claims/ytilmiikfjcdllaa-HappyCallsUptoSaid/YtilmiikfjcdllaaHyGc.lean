/-
  Contracts of functions that the claim reaches, or the logic and the plain laws that they rest on, or the row over them. (Conditions: none beyond the statement.)
-/
import Derived.Test.YtilmiikfjcdllaaHyGb
import Derived.Test.YtilmiikfjcdllaaHyLa
set_option linter.all false
namespace Go.Proofs.Ytilmiikfjcdllaa
open Go.RowKit Go.SL Go.ShM Go.HyM Go.Fl Go.SvM
set_option maxHeartbeats 1000000
set_option maxRecDepth 20000
set_option linter.all false
theorem cf18 : cfn Try.prog 18 = true := by kernel_rfl
theorem fo27_0 : fo Try.prog 27 0 = some (0, 3) := by kernel_rfl
theorem fo27_1 : fo Try.prog 27 1 = some (1, 3) := by kernel_rfl
theorem fo27_2 : fo Try.prog 27 2 = some (2, 3) := by kernel_rfl
theorem May_ct {X : Asn} {v : Value} {ps : List Pr} {ao : Option Addr} {cap : Nat} (hS : Sv [X] v 2 ePr ps ao cap) (hn : ps.length ≤ 100000000) : Ct Try.prog 18 [v] [X] (fun _ : Unit => .bool (decide (mayP ps))) (fun _ => [X]) := by
 refine Ct_body (n := 36) Try.func18 rfl rfl rfl fun F w0 Q hret hnorm hp => ?_
 change WC _ _ _ _ _ _ _ (_ :: F)
 refine WC_sr fun K1 hK1 => ?_
 refine WL_r (Rd_assign rfl) rfl ?_
 refine WL_end hK1 ?_
 refine WC_seq fun K2 hK2 => ?_
 refine WC_sr fun K3 hK3 => ?_
 refine WL_r (Rd_move rfl) rfl ?_
 refine WL_r (Rd_len_sv rfl rfl ud22) rfl ?_
 refine WL_r (Rd_gtrN (j := 8192) rfl rfl) rfl ?_
 refine WL_end hK3 ?_
 refine WC_cond rfl (fun hc0 => ?_) (fun hc0 => ?_)
 ·try simp only [dz, ne_eq] at hc0
  refine WC_sr fun K4 hK4 => ?_
  refine WL_r (Rd_assign rfl) rfl ?_
  refine WL_end hK4 ?_
  refine WC_ret ?_
  exact hret.gfE () (Rs1 rfl rfl) (congrArg Value.bool (decide_eq_false fun hm => absurd hm.1 (by omega)).symm)
 ·try simp only [dz, ne_eq] at hc0
  refine WC_skip ?_
  refine Ps_next hK2 ?_
  refine WC_seq fun K5 hK5 => ?_
  refine WC_sr fun K6 hK6 => ?_
  refine WL_r (Rd_assign rfl) rfl ?_
  refine WL_end hK6 ?_
  refine WC_block ?_
  refine WC_loopK (σ := Nat) (fun i => [(3, .int .i64 ((i : Nat) : Int))]) (fun i => []) (fun i => i ≤ ps.length ∧ (∀ q ∈ ps.take i, pOk q)) (fun i => ps.length - i) (0) [0] kpA (by (try dsimp only); repeat (first | with_reducible exact Gv.nil | (with_reducible apply Gv.cons; · (repeat (first | with_reducible exact Ext.here | with_reducible apply Ext.there))))) ?_ ?_ Sub.refl ?_
  ·exact ⟨Nat.zero_le _, fun q h => by simp at h⟩
  ·(try dsimp only); exact (Wk.cons lkA Wk.nil)
  ·rintro i ⟨hi, hall⟩ K7 hK7
   simp only [List.cons_append, List.nil_append]
   refine WC_seq fun K8 hK8 => ?_
   refine WC_sr fun K9 hK9 => ?_
   refine WL_r (Rd_move rfl) rfl ?_
   refine WL_r (Rd_move rfl) rfl ?_
   refine WL_r (Rd_len_sv rfl rfl ud22) rfl ?_
   refine WL_r (Rd_lssN rfl rfl) rfl ?_
   refine WL_end hK9 ?_
   refine WC_cond rfl (fun hc1 => ?_) (fun hc1 => ?_)
   ·try simp only [dz, ne_eq] at hc1
    obtain ⟨p, hp0⟩ : ∃ p, ps[i]? = some p := ⟨_, List.getElem?_eq_getElem (by omega)⟩
    have hpm := List.mem_of_getElem? hp0
    refine WC_skip ?_
    refine Ps_next hK8 ?_
    refine WC_seq fun K10 hK10 => ?_
    refine WC_block ?_
    refine WC_sr fun K11 hK11 => ?_
    refine WL_r (Rd_move rfl) rfl ?_
    refine WL_r (Rd_move rfl) rfl ?_
    refine WL_r (Rd_index_sv i rfl rfl ud22 sz24 (hA := hS) (hi := by omega)) rfl ?_
    refine WL_r (Rd_loadg_sv (f := ePr) (i := i) (y := p) rfl tk24 (hA := hS) (hl := hp0)) rfl ?_
    refine WL_ac (Ac_alloc zr24) rfl rfl rfl ?_
    rintro _ _ ⟨b4, rfl, rfl⟩
    refine WL_ac0 (Ac_store (ys := ePr p) rfl rfl sz24 (h1 := encPr.one p) (hv := rfl) (hr := rfl)) rfl rfl ?_
    rintro _ _ rfl
    refine WL_end hK11 ?_
    refine WC_sr fun K12 hK12 => ?_
    refine WL_r (Rd_fieldAddr rfl fo24_0) rfl ?_
    refine WL_r (Rd_load rfl tk3 (v := .int .i64 p.1)) rfl ?_
    refine WL_r (Rd_lss rfl rfl) rfl ?_
    refine WL_r (Rd_move rfl) rfl ?_
    refine WL_bool 21 rfl (fun hg13 => ?_) (fun hg13 => ?_)
    ·try simp only [dz, ne_eq] at hg13
     refine WL_skip rfl rfl rfl ?_
     refine WL_skip rfl rfl rfl ?_
     refine WL_skip rfl rfl rfl ?_
     refine WL_r (Rd_pickT rfl rfl) rfl ?_
     refine WL_r (Rd_move rfl) rfl ?_
     refine WL_skip rfl rfl rfl ?_
     refine WL_skip rfl rfl rfl ?_
     refine WL_skip rfl rfl rfl ?_
     refine WL_r (Rd_pickT rfl rfl) rfl ?_
     refine WL_r (Rd_move rfl) rfl ?_
     refine WL_skip rfl rfl rfl ?_
     refine WL_skip rfl rfl rfl ?_
     refine WL_skip rfl rfl rfl ?_
     refine WL_r (Rd_pickT rfl rfl) rfl ?_
     refine WL_end hK12 ?_
     refine WC_condT rfl ?_
     refine WC_sr fun K14 hK14 => ?_
     refine WL_r (Rd_assign rfl) rfl ?_
     refine WL_end hK14 ?_
     refine WC_ret ?_
     exact hret.gfE () (Rs1 rfl rfl) (congrArg Value.bool (decide_eq_false fun hm => absurd (hm.2 p hpm) (by unfold pOk; omega)).symm)
    ·try simp only [dz, ne_eq] at hg13
     refine WL_r (Rd_fieldAddr rfl fo24_0) rfl ?_
     refine WL_r (Rd_load rfl tk3 (v := .int .i64 p.1)) rfl ?_
     refine WL_r (Rd_geq rfl rfl) rfl ?_
     refine WL_r (Rd_pickF rfl rfl) rfl ?_
     refine WL_r (Rd_move rfl) rfl ?_
     refine WL_bool 26 rfl (fun hg15 => ?_) (fun hg15 => ?_)
     ·try simp only [dz, ne_eq] at hg15
      refine WL_skip rfl rfl rfl ?_
      refine WL_skip rfl rfl rfl ?_
      refine WL_skip rfl rfl rfl ?_
      refine WL_r (Rd_pickT rfl rfl) rfl ?_
      refine WL_r (Rd_move rfl) rfl ?_
      refine WL_skip rfl rfl rfl ?_
      refine WL_skip rfl rfl rfl ?_
      refine WL_skip rfl rfl rfl ?_
      refine WL_r (Rd_pickT rfl rfl) rfl ?_
      refine WL_end hK12 ?_
      refine WC_condT rfl ?_
      refine WC_sr fun K16 hK16 => ?_
      refine WL_r (Rd_assign rfl) rfl ?_
      refine WL_end hK16 ?_
      refine WC_ret ?_
      exact hret.gfE () (Rs1 rfl rfl) (congrArg Value.bool (decide_eq_false fun hm => absurd (hm.2 p hpm) (by unfold pOk; omega)).symm)
     ·try simp only [dz, ne_eq] at hg15
      refine WL_r (Rd_fieldAddr rfl fo24_1) rfl ?_
      refine WL_r (Rd_load rfl tk3 (v := .int .i64 p.2)) rfl ?_
      refine WL_r (Rd_lss rfl rfl) rfl ?_
      refine WL_r (Rd_pickF rfl rfl) rfl ?_
      refine WL_r (Rd_move rfl) rfl ?_
      refine WL_bool 31 rfl (fun hg17 => ?_) (fun hg17 => ?_)
      ·try simp only [dz, ne_eq] at hg17
       refine WL_skip rfl rfl rfl ?_
       refine WL_skip rfl rfl rfl ?_
       refine WL_skip rfl rfl rfl ?_
       refine WL_r (Rd_pickT rfl rfl) rfl ?_
       refine WL_end hK12 ?_
       refine WC_condT rfl ?_
       refine WC_sr fun K18 hK18 => ?_
       refine WL_r (Rd_assign rfl) rfl ?_
       refine WL_end hK18 ?_
       refine WC_ret ?_
       exact hret.gfE () (Rs1 rfl rfl) (congrArg Value.bool (decide_eq_false fun hm => absurd (hm.2 p hpm) (by unfold pOk; omega)).symm)
      ·try simp only [dz, ne_eq] at hg17
       refine WL_r (Rd_fieldAddr rfl fo24_1) rfl ?_
       refine WL_r (Rd_load rfl tk3 (v := .int .i64 p.2)) rfl ?_
       refine WL_r (Rd_geq rfl rfl) rfl ?_
       refine WL_r (Rd_pickF rfl rfl) rfl ?_
       refine WL_end hK12 ?_
       refine WC_cond rfl (fun hc2 => ?_) (fun hc2 => ?_)
       ·try simp only [dz, ne_eq] at hc2
        refine WC_sr fun K19 hK19 => ?_
        refine WL_r (Rd_assign rfl) rfl ?_
        refine WL_end hK19 ?_
        refine WC_ret ?_
        exact hret.gfE () (Rs1 rfl rfl) (congrArg Value.bool (decide_eq_false fun hm => absurd (hm.2 p hpm) (by unfold pOk; omega)).symm)
       ·try simp only [dz, ne_eq] at hc2
        have hpo : pOk p := by unfold pOk; omega
        refine WC_skip ?_
        refine Ps_next hK10 ?_
        refine WC_region ?_
        refine WL_r (Rd_move rfl) rfl ?_
        refine WL_r (Rd_addN (j := 1) rfl rfl) rfl ?_
        refine WL_r (Rd_assign rfl) rfl ?_
        refine WL_nil ?_
        refine Ps_wkB (hK7 (i + 1) (⟨by omega, all_takeP hp0 hall hpo⟩) (by omega))
   ·try simp only [dz, ne_eq] at hc1
    obtain rfl : i = ps.length := by omega
    rw [List.take_length] at hall
    refine WC_exit ?_
    refine Ps_next hK5 ?_
    refine WC_sr fun K20 hK20 => ?_
    refine WL_r (Rd_assign rfl) rfl ?_
    refine WL_end hK20 ?_
    refine WC_ret ?_
    exact hret.gfE () (Rs1 rfl rfl) (congrArg Value.bool (decide_eq_true ⟨by omega, hall⟩).symm)

end Go.Proofs.Ytilmiikfjcdllaa
namespace Go.Proofs.Ytilmiikfjcdllaa
open Go.RowKit Go.SL Go.ShM Go.HyM Go.Fl Go.SvM
set_option maxHeartbeats 1000000
set_option maxRecDepth 20000
set_option linter.all false

theorem lasts_no1 {X : Asn} {v w : Value} {ps : List Pr} {ao : Option Addr} {cap : Nat} {fl : List Nat} {ao2 : Option Addr} {cap2 : Nat} {k0 : Int} (hS : Sv [X] v 2 ePr ps ao cap) (hF : Sv [X] w 1 eF fl ao2 cap2) (hn : ps.length ≤ 100000000) (hn2 : fl.length ≤ 100000000) (hm : ¬ mayP ps) : Ct Try.prog 11 [v, w, .int .i64 k0] [X] (fun _ : Unit => .tuple #[.float .f64 0, .int .i64 230]) (fun _ => [X]) := by
 refine Ct_body (n := 86) Try.func11 rfl rfl rfl fun F w0 Q hret hnorm hp => ?_
 change WC _ _ _ _ _ _ _ (_ :: F)
 refine WC_sr fun K1 hK1 => ?_
 refine WL_r (Rd_assign rfl) rfl ?_
 refine WL_r (Rd_assign rfl) rfl ?_
 refine WL_end hK1 ?_
 refine WC_sr fun K2 hK2 => ?_
 refine WL_r (Rd_move rfl) rfl ?_
 refine WL_ac (Ac_call cf28 rfl (hs := look_no (X := X) (ps := ps) hS hn hm)) rfl rfl rfl ?_
 rintro _ _ ⟨⟨⟩, rfl, hA⟩
 simp only [List.cons_append, List.nil_append] at hA
 replace hA := hA.symm
 subst hA
 refine WL_r (Rd_move rfl) rfl ?_
 refine WL_r (Rd_ext0 rfl) rfl ?_
 refine WL_r (Rd_ext1 rfl) rfl ?_
 refine WL_r (Rd_assign rfl) rfl ?_
 refine WL_r (Rd_assign rfl) rfl ?_
 refine WL_end hK2 ?_
 refine WC_seq fun K3 hK3 => ?_
 refine WC_sr fun K4 hK4 => ?_
 refine WL_r (Rd_move rfl) rfl ?_
 refine WL_r (Rd_neqN (i := 230) (j := 0) rfl rfl) rfl ?_
 refine WL_end hK4 ?_
 refine WC_condT rfl ?_
 refine WC_sr fun K5 hK5 => ?_
 refine WL_r (Rd_move rfl) rfl ?_
 refine WL_r (Rd_assign rfl) rfl ?_
 refine WL_r (Rd_assign rfl) rfl ?_
 refine WL_end hK5 ?_
 refine WC_ret ?_
 exact hret.gf () (Rs2 rfl rfl rfl)

theorem lasts_no2 {X : Asn} {v w : Value} {ps : List Pr} {ao : Option Addr} {cap : Nat} {fl : List Nat} {ao2 : Option Addr} {cap2 : Nat} {k0 : Int} (hS : Sv [X] v 2 ePr ps ao cap) (hF : Sv [X] w 1 eF fl ao2 cap2) (hn : ps.length ≤ 100000000) (hn2 : fl.length ≤ 100000000) (hm : mayP ps) (hg : ¬ goodL (lookP ps) fl.length) : Ct Try.prog 11 [v, w, .int .i64 k0] [X] (fun _ : Unit => .tuple #[.float .f64 0, .int .i64 230]) (fun _ => [X]) := by
 refine Ct_body (n := 86) Try.func11 rfl rfl rfl fun F w0 Q hret hnorm hp => ?_
 change WC _ _ _ _ _ _ _ (_ :: F)
 have hpl := lookP_len ps
 have hpk := lookP_ok ps
 refine WC_sr fun K1 hK1 => ?_
 refine WL_r (Rd_assign rfl) rfl ?_
 refine WL_r (Rd_assign rfl) rfl ?_
 refine WL_end hK1 ?_
 refine WC_sr fun K2 hK2 => ?_
 refine WL_r (Rd_move rfl) rfl ?_
 refine WL_ac (Ac_call cf28 rfl (hs := look_ok (X := X) (ps := ps) hS hn hm)) rfl rfl rfl ?_
 rintro _ _ ⟨⟨ga, gc⟩, rfl, hA⟩
 simp only [List.cons_append, List.nil_append] at hA
 replace hA := hA.symm
 subst hA
 refine WL_fact (fun w h => arr_facts (a := ga) (cap := gc) (e := 2) (T := 24) (f := ePr) (l := (lookP ps)) hasA h) (fun hLf => ?_)
 have hL : Sv [arr ga gc 2 24 ePr (lookP ps)] (sl ga ((lookP ps)).length gc) 2 ePr (lookP ps) ((ga : Option Nat).map fun g => ⟨g, 0, none⟩) gc := Sv_own' encPr hLf.1 hLf.2
 refine WL_r (Rd_move rfl) rfl ?_
 refine WL_r (Rd_ext0 rfl) rfl ?_
 refine WL_r (Rd_ext1 rfl) rfl ?_
 refine WL_r (Rd_assign rfl) rfl ?_
 refine WL_r (Rd_assign rfl) rfl ?_
 refine WL_end hK2 ?_
 refine WC_seq fun K3 hK3 => ?_
 refine WC_sr fun K4 hK4 => ?_
 refine WL_r (Rd_move rfl) rfl ?_
 refine WL_r (Rd_neqN (i := 0) (j := 0) rfl rfl) rfl ?_
 refine WL_end hK4 ?_
 refine WC_condF rfl ?_
 refine WC_skip ?_
 refine Ps_next hK3 ?_
 refine WC_sr fun K5 hK5 => ?_
 refine WL_ac (Ac_makeP kfN vfN) rfl rfl rfl ?_
 rintro _ _ ⟨m10, rfl, rfl⟩
 refine WL_r (Rd_assign rfl) rfl ?_
 refine WL_end hK5 ?_
 refine WC_sr fun K6 hK6 => ?_
 refine WL_ac (Ac_makeP kfN vfN) rfl rfl rfl ?_
 rintro _ _ ⟨m11, rfl, rfl⟩
 refine WL_r (Rd_assign rfl) rfl ?_
 refine WL_end hK6 ?_
 refine WC_seq fun K7 hK7 => ?_
 refine WC_sr fun K8 hK8 => ?_
 refine WL_r (Rd_move rfl) rfl ?_
 refine WL_r (Rd_len rfl rfl ud22) rfl ?_
 refine WL_r (Rd_move rfl) rfl ?_
 refine WL_end hK8 ?_
 refine WC_block ?_
 refine WC_loopK (σ := Nat × (List (Int × Int)) × (List (Int × Int))) (fun ⟨i, HL, CL⟩ => [(29, .int .i64 ((i : Nat) : Int))]) (fun ⟨i, HL, CL⟩ => [mpP m10 kfN vfN HL, mpP m11 kfN vfN CL]) (fun ⟨i, HL, CL⟩ => i ≤ (lookP ps).length ∧ (∀ x, at0 x HL = ((cD ((lookP ps).take i) x : Nat) : Int)) ∧ (∀ x, at0 x CL = ((cS ((lookP ps).take i) x : Nat) : Int)) ∧ (∀ x, cD ((lookP ps).take i) x ≤ 1) ∧ (∀ q ∈ (lookP ps).take i, q.1 < (fl.length : Int))) (fun ⟨i, HL, CL⟩ => (lookP ps).length - i) ⟨0, [], []⟩ [1, 2, 8, 10, 11, 14, 15, 16, 27, 28, 56, 57, 58, 59, 60, 61, 62, 63, 64, 65, 66, 67, 68, 69, 70, 71, 72, 73, 74, 75, 76, 77, 78, 79, 80, 82, 83, 84, 85] kpA (by (try dsimp only); repeat (first | with_reducible exact Gv.nil | (with_reducible apply Gv.cons; · (repeat (first | with_reducible exact Ext.here | with_reducible apply Ext.there))))) ?_ ?_ Sub.refl ?_
 ·exact ⟨Nat.zero_le _, fun x => rfl, fun x => rfl, fun x => Nat.zero_le _, fun q h => by simp at h⟩
 ·(try dsimp only); exact (Wk.cons lkA Wk.nil)
 ·rintro ⟨i, HL, CL⟩ ⟨hi, hh, hc, hq1, hq2⟩ K9 hK9
  simp only [List.cons_append, List.nil_append]
  refine WC_sr fun K10 hK10 => ?_
  refine WL_r (Rd_lssN rfl rfl) rfl ?_
  refine WL_end hK10 ?_
  refine WC_seq fun K11 hK11 => ?_
  refine WC_cond rfl (fun hc1 => ?_) (fun hc1 => ?_)
  ·try simp only [dz, ne_eq] at hc1
   obtain ⟨p, hp0⟩ : ∃ p, (lookP ps)[i]? = some p := ⟨_, List.getElem?_eq_getElem (by omega)⟩
   have hDb := cD_le ((lookP ps).take i) p.2
   have hSb := cS_le ((lookP ps).take i) p.1
   rw [List.length_take] at hDb hSb
   refine WC_skip ?_
   refine Ps_next hK11 ?_
   refine WC_seq fun K12 hK12 => ?_
   refine WC_block ?_
   refine WC_sr fun K13 hK13 => ?_
   refine WL_r (Rd_index_sv i rfl rfl ud22 sz24 (hA := hL) (hi := by omega)) rfl ?_
   refine WL_r (Rd_loadg_sv (f := ePr) (i := i) (y := p) rfl tk24 (hA := hL) (hl := hp0)) rfl ?_
   refine WL_ac (Ac_alloc zr24) rfl rfl rfl ?_
   rintro _ _ ⟨b13, rfl, rfl⟩
   refine WL_ac0 (Ac_store (ys := ePr p) rfl rfl sz24 (h1 := encPr.one p) (hv := rfl) (hr := rfl)) rfl rfl ?_
   rintro _ _ rfl
   refine WL_end hK13 ?_
   refine WC_sr fun K14 hK14 => ?_
   refine WL_r (Rd_move rfl) rfl ?_
   refine WL_r (Rd_fieldAddr rfl fo24_1) rfl ?_
   refine WL_r (Rd_load rfl tk3 (v := .int .i64 p.2)) rfl ?_
   refine WL_r (Rd_valE (v := .int .i64 (((cD ((lookP ps).take i) p.2) : Nat) : Int)) (Rd_lookP1 (kf := kfN) (vf := vfN) (l := HL) keyN rfl rfl ud58 zvN) (look_c (hh p.2))) rfl ?_
   refine WL_r (Rd_addN (j := 1) rfl rfl) rfl ?_
   refine WL_ac0 (Ac_putP (kf := kfN) (vf := vfN) (((cD ((lookP ps).take i) p.2) + 1 : Nat) : Int) keyN rfl rfl rfl ud58) rfl rfl ?_
   rintro _ _ rfl
   refine WL_end hK14 ?_
   refine WC_sr fun K15 hK15 => ?_
   refine WL_r (Rd_move rfl) rfl ?_
   refine WL_r (Rd_fieldAddr rfl fo24_0) rfl ?_
   refine WL_r (Rd_load rfl tk3 (v := .int .i64 p.1)) rfl ?_
   refine WL_r (Rd_valE (v := .int .i64 (((cS ((lookP ps).take i) p.1) : Nat) : Int)) (Rd_lookP1 (kf := kfN) (vf := vfN) (l := CL) keyN rfl rfl ud58 zvN) (look_c (hc p.1))) rfl ?_
   refine WL_r (Rd_addN (j := 1) rfl rfl) rfl ?_
   refine WL_ac0 (Ac_putP (kf := kfN) (vf := vfN) (((cS ((lookP ps).take i) p.1) + 1 : Nat) : Int) keyN rfl rfl rfl ud58) rfl rfl ?_
   rintro _ _ rfl
   refine WL_end hK15 ?_
   refine WC_sr fun K16 hK16 => ?_
   refine WL_r (Rd_move rfl) rfl ?_
   refine WL_r (Rd_fieldAddr rfl fo24_1) rfl ?_
   refine WL_r (Rd_load rfl tk3 (v := .int .i64 p.2)) rfl ?_
   refine WL_r (Rd_valE (v := .int .i64 ((((cD ((lookP ps).take i) p.2) + 1) : Nat) : Int)) (Rd_lookP1 (kf := kfN) (vf := vfN) (l := (putL p.2 (((cD ((lookP ps).take i) p.2) + 1 : Nat) : Int) HL)) keyN rfl rfl ud58 zvN) look_p) rfl ?_
   refine WL_r (Rd_gtrN (j := 1) rfl rfl) rfl ?_
   refine WL_r (Rd_move rfl) rfl ?_
   refine WL_bool 48 rfl (fun hg17 => ?_) (fun hg17 => ?_)
   ·try simp only [dz, ne_eq] at hg17
    refine WL_skip rfl rfl rfl ?_
    refine WL_skip rfl rfl rfl ?_
    refine WL_skip rfl rfl rfl ?_
    refine WL_skip rfl rfl rfl ?_
    refine WL_skip rfl rfl rfl ?_
    refine WL_r (Rd_pickT rfl rfl) rfl ?_
    refine WL_end hK16 ?_
    refine WC_condT rfl ?_
    refine WC_sr fun K18 hK18 => ?_
    refine WL_r (Rd_assign rfl) rfl ?_
    refine WL_r (Rd_assign rfl) rfl ?_
    refine WL_end hK18 ?_
    refine WC_ret ?_
    exact hret.gf () (Rs2 rfl rfl rfl)
   ·try simp only [dz, ne_eq] at hg17
    refine WL_r (Rd_fieldAddr rfl fo24_0) rfl ?_
    refine WL_r (Rd_load rfl tk3 (v := .int .i64 p.1)) rfl ?_
    refine WL_r (Rd_move rfl) rfl ?_
    refine WL_r (Rd_len_sv rfl rfl ud34) rfl ?_
    refine WL_r (Rd_geq rfl rfl) rfl ?_
    refine WL_r (Rd_pickF rfl rfl) rfl ?_
    refine WL_end hK16 ?_
    refine WC_cond rfl (fun hc2 => ?_) (fun hc2 => ?_)
    ·try simp only [dz, ne_eq] at hc2
     refine WC_sr fun K19 hK19 => ?_
     refine WL_r (Rd_assign rfl) rfl ?_
     refine WL_r (Rd_assign rfl) rfl ?_
     refine WL_end hK19 ?_
     refine WC_ret ?_
     exact hret.gf () (Rs2 rfl rfl rfl)
    ·try simp only [dz, ne_eq] at hc2
     have hqq := good_snoc hp0 hq1 hq2 (by omega) (by omega)
     refine WC_skip ?_
     refine Ps_next hK12 ?_
     refine WC_region ?_
     refine WL_r (Rd_addN (j := 1) rfl rfl) rfl ?_
     refine WL_r (Rd_move rfl) rfl ?_
     refine WL_nil ?_
     refine Ps_wkB (hK9 ⟨i + 1, (putL p.2 (((cD ((lookP ps).take i) p.2) + 1 : Nat) : Int) HL), (putL p.1 (((cS ((lookP ps).take i) p.1) + 1 : Nat) : Int) CL)⟩ (⟨by (try dsimp only); omega, cntD_step hp0 hh, cntS_step hp0 hc, hqq.1, hqq.2⟩) (by (try dsimp only); omega))
  ·try simp only [dz, ne_eq] at hc1
   obtain rfl : i = (lookP ps).length := by omega
   rw [List.take_length] at hq1 hq2
   exact absurd ⟨hq1, hq2⟩ hg

theorem lasts_no3 {X : Asn} {v w : Value} {ps : List Pr} {ao : Option Addr} {cap : Nat} {fl : List Nat} {ao2 : Option Addr} {cap2 : Nat} {k0 : Int} (hS : Sv [X] v 2 ePr ps ao cap) (hF : Sv [X] w 1 eF fl ao2 cap2) (hn : ps.length ≤ 100000000) (hn2 : fl.length ≤ 100000000) (hm : mayP ps) (hg : goodL (lookP ps) fl.length) (ho : oddsOk fl = false) : Ct Try.prog 11 [v, w, .int .i64 k0] [X] (fun _ : Unit => .tuple #[.float .f64 0, .int .i64 231]) (fun _ => [X]) := by
 refine Ct_body (n := 86) Try.func11 rfl rfl rfl fun F w0 Q hret hnorm hp => ?_
 change WC _ _ _ _ _ _ _ (_ :: F)
 have hpl := lookP_len ps
 have hpk := lookP_ok ps
 refine WC_sr fun K1 hK1 => ?_
 refine WL_r (Rd_assign rfl) rfl ?_
 refine WL_r (Rd_assign rfl) rfl ?_
 refine WL_end hK1 ?_
 refine WC_sr fun K2 hK2 => ?_
 refine WL_r (Rd_move rfl) rfl ?_
 refine WL_ac (Ac_call cf28 rfl (hs := look_ok (X := X) (ps := ps) hS hn hm)) rfl rfl rfl ?_
 rintro _ _ ⟨⟨ga, gc⟩, rfl, hA⟩
 simp only [List.cons_append, List.nil_append] at hA
 replace hA := hA.symm
 subst hA
 refine WL_fact (fun w h => arr_facts (a := ga) (cap := gc) (e := 2) (T := 24) (f := ePr) (l := (lookP ps)) hasA h) (fun hLf => ?_)
 have hL : Sv [arr ga gc 2 24 ePr (lookP ps)] (sl ga ((lookP ps)).length gc) 2 ePr (lookP ps) ((ga : Option Nat).map fun g => ⟨g, 0, none⟩) gc := Sv_own' encPr hLf.1 hLf.2
 refine WL_r (Rd_move rfl) rfl ?_
 refine WL_r (Rd_ext0 rfl) rfl ?_
 refine WL_r (Rd_ext1 rfl) rfl ?_
 refine WL_r (Rd_assign rfl) rfl ?_
 refine WL_r (Rd_assign rfl) rfl ?_
 refine WL_end hK2 ?_
 refine WC_seq fun K3 hK3 => ?_
 refine WC_sr fun K4 hK4 => ?_
 refine WL_r (Rd_move rfl) rfl ?_
 refine WL_r (Rd_neqN (i := 0) (j := 0) rfl rfl) rfl ?_
 refine WL_end hK4 ?_
 refine WC_condF rfl ?_
 refine WC_skip ?_
 refine Ps_next hK3 ?_
 refine WC_sr fun K5 hK5 => ?_
 refine WL_ac (Ac_makeP kfN vfN) rfl rfl rfl ?_
 rintro _ _ ⟨m10, rfl, rfl⟩
 refine WL_r (Rd_assign rfl) rfl ?_
 refine WL_end hK5 ?_
 refine WC_sr fun K6 hK6 => ?_
 refine WL_ac (Ac_makeP kfN vfN) rfl rfl rfl ?_
 rintro _ _ ⟨m11, rfl, rfl⟩
 refine WL_r (Rd_assign rfl) rfl ?_
 refine WL_end hK6 ?_
 refine WC_seq fun K7 hK7 => ?_
 refine WC_sr fun K8 hK8 => ?_
 refine WL_r (Rd_move rfl) rfl ?_
 refine WL_r (Rd_len rfl rfl ud22) rfl ?_
 refine WL_r (Rd_move rfl) rfl ?_
 refine WL_end hK8 ?_
 refine WC_block ?_
 refine WC_loopK (σ := Nat × (List (Int × Int)) × (List (Int × Int))) (fun ⟨i, HL, CL⟩ => [(29, .int .i64 ((i : Nat) : Int))]) (fun ⟨i, HL, CL⟩ => [mpP m10 kfN vfN HL, mpP m11 kfN vfN CL]) (fun ⟨i, HL, CL⟩ => i ≤ (lookP ps).length ∧ (∀ x, at0 x HL = ((cD ((lookP ps).take i) x : Nat) : Int)) ∧ (∀ x, at0 x CL = ((cS ((lookP ps).take i) x : Nat) : Int)) ∧ (∀ x, cD ((lookP ps).take i) x ≤ 1) ∧ (∀ q ∈ (lookP ps).take i, q.1 < (fl.length : Int))) (fun ⟨i, HL, CL⟩ => (lookP ps).length - i) ⟨0, [], []⟩ [1, 2, 8, 10, 11, 14, 15, 16, 27, 28, 56, 57, 58, 59, 60, 61, 62, 63, 64, 65, 66, 67, 68, 69, 70, 71, 72, 73, 74, 75, 76, 77, 78, 79, 80, 82, 83, 84, 85] kpA (by (try dsimp only); repeat (first | with_reducible exact Gv.nil | (with_reducible apply Gv.cons; · (repeat (first | with_reducible exact Ext.here | with_reducible apply Ext.there))))) ?_ ?_ Sub.refl ?_
 ·exact ⟨Nat.zero_le _, fun x => rfl, fun x => rfl, fun x => Nat.zero_le _, fun q h => by simp at h⟩
 ·(try dsimp only); exact (Wk.cons lkA Wk.nil)
 ·rintro ⟨i, HL, CL⟩ ⟨hi, hh, hc, hq1, hq2⟩ K9 hK9
  simp only [List.cons_append, List.nil_append]
  refine WC_sr fun K10 hK10 => ?_
  refine WL_r (Rd_lssN rfl rfl) rfl ?_
  refine WL_end hK10 ?_
  refine WC_seq fun K11 hK11 => ?_
  refine WC_cond rfl (fun hc1 => ?_) (fun hc1 => ?_)
  ·try simp only [dz, ne_eq] at hc1
   obtain ⟨p, hp0⟩ : ∃ p, (lookP ps)[i]? = some p := ⟨_, List.getElem?_eq_getElem (by omega)⟩
   have hDb := cD_le ((lookP ps).take i) p.2
   have hSb := cS_le ((lookP ps).take i) p.1
   rw [List.length_take] at hDb hSb
   refine WC_skip ?_
   refine Ps_next hK11 ?_
   refine WC_seq fun K12 hK12 => ?_
   refine WC_block ?_
   refine WC_sr fun K13 hK13 => ?_
   refine WL_r (Rd_index_sv i rfl rfl ud22 sz24 (hA := hL) (hi := by omega)) rfl ?_
   refine WL_r (Rd_loadg_sv (f := ePr) (i := i) (y := p) rfl tk24 (hA := hL) (hl := hp0)) rfl ?_
   refine WL_ac (Ac_alloc zr24) rfl rfl rfl ?_
   rintro _ _ ⟨b13, rfl, rfl⟩
   refine WL_ac0 (Ac_store (ys := ePr p) rfl rfl sz24 (h1 := encPr.one p) (hv := rfl) (hr := rfl)) rfl rfl ?_
   rintro _ _ rfl
   refine WL_end hK13 ?_
   refine WC_sr fun K14 hK14 => ?_
   refine WL_r (Rd_move rfl) rfl ?_
   refine WL_r (Rd_fieldAddr rfl fo24_1) rfl ?_
   refine WL_r (Rd_load rfl tk3 (v := .int .i64 p.2)) rfl ?_
   refine WL_r (Rd_valE (v := .int .i64 (((cD ((lookP ps).take i) p.2) : Nat) : Int)) (Rd_lookP1 (kf := kfN) (vf := vfN) (l := HL) keyN rfl rfl ud58 zvN) (look_c (hh p.2))) rfl ?_
   refine WL_r (Rd_addN (j := 1) rfl rfl) rfl ?_
   refine WL_ac0 (Ac_putP (kf := kfN) (vf := vfN) (((cD ((lookP ps).take i) p.2) + 1 : Nat) : Int) keyN rfl rfl rfl ud58) rfl rfl ?_
   rintro _ _ rfl
   refine WL_end hK14 ?_
   refine WC_sr fun K15 hK15 => ?_
   refine WL_r (Rd_move rfl) rfl ?_
   refine WL_r (Rd_fieldAddr rfl fo24_0) rfl ?_
   refine WL_r (Rd_load rfl tk3 (v := .int .i64 p.1)) rfl ?_
   refine WL_r (Rd_valE (v := .int .i64 (((cS ((lookP ps).take i) p.1) : Nat) : Int)) (Rd_lookP1 (kf := kfN) (vf := vfN) (l := CL) keyN rfl rfl ud58 zvN) (look_c (hc p.1))) rfl ?_
   refine WL_r (Rd_addN (j := 1) rfl rfl) rfl ?_
   refine WL_ac0 (Ac_putP (kf := kfN) (vf := vfN) (((cS ((lookP ps).take i) p.1) + 1 : Nat) : Int) keyN rfl rfl rfl ud58) rfl rfl ?_
   rintro _ _ rfl
   refine WL_end hK15 ?_
   refine WC_sr fun K16 hK16 => ?_
   refine WL_r (Rd_move rfl) rfl ?_
   refine WL_r (Rd_fieldAddr rfl fo24_1) rfl ?_
   refine WL_r (Rd_load rfl tk3 (v := .int .i64 p.2)) rfl ?_
   refine WL_r (Rd_valE (v := .int .i64 ((((cD ((lookP ps).take i) p.2) + 1) : Nat) : Int)) (Rd_lookP1 (kf := kfN) (vf := vfN) (l := (putL p.2 (((cD ((lookP ps).take i) p.2) + 1 : Nat) : Int) HL)) keyN rfl rfl ud58 zvN) look_p) rfl ?_
   refine WL_r (Rd_gtrN (j := 1) rfl rfl) rfl ?_
   refine WL_r (Rd_move rfl) rfl ?_
   refine WL_bool 48 rfl (fun hg17 => ?_) (fun hg17 => ?_)
   ·try simp only [dz, ne_eq] at hg17
    refine WL_skip rfl rfl rfl ?_
    refine WL_skip rfl rfl rfl ?_
    refine WL_skip rfl rfl rfl ?_
    refine WL_skip rfl rfl rfl ?_
    refine WL_skip rfl rfl rfl ?_
    refine WL_r (Rd_pickT rfl rfl) rfl ?_
    refine WL_end hK16 ?_
    refine WC_condT rfl ?_
    have hgs := good_step hp0 hg
    exfalso
    omega
   ·try simp only [dz, ne_eq] at hg17
    refine WL_r (Rd_fieldAddr rfl fo24_0) rfl ?_
    refine WL_r (Rd_load rfl tk3 (v := .int .i64 p.1)) rfl ?_
    refine WL_r (Rd_move rfl) rfl ?_
    refine WL_r (Rd_len_sv rfl rfl ud34) rfl ?_
    refine WL_r (Rd_geq rfl rfl) rfl ?_
    refine WL_r (Rd_pickF rfl rfl) rfl ?_
    refine WL_end hK16 ?_
    refine WC_cond rfl (fun hc2 => ?_) (fun hc2 => ?_)
    ·try simp only [dz, ne_eq] at hc2
     have hgs := good_step hp0 hg
     exfalso
     omega
    ·try simp only [dz, ne_eq] at hc2
     have hqq := good_snoc hp0 hq1 hq2 (by omega) (by omega)
     refine WC_skip ?_
     refine Ps_next hK12 ?_
     refine WC_region ?_
     refine WL_r (Rd_addN (j := 1) rfl rfl) rfl ?_
     refine WL_r (Rd_move rfl) rfl ?_
     refine WL_nil ?_
     refine Ps_wkB (hK9 ⟨i + 1, (putL p.2 (((cD ((lookP ps).take i) p.2) + 1 : Nat) : Int) HL), (putL p.1 (((cS ((lookP ps).take i) p.1) + 1 : Nat) : Int) CL)⟩ (⟨by (try dsimp only); omega, cntD_step hp0 hh, cntS_step hp0 hc, hqq.1, hqq.2⟩) (by (try dsimp only); omega))
  ·try simp only [dz, ne_eq] at hc1
   obtain rfl : i = (lookP ps).length := by omega
   rw [List.take_length] at hq1 hq2 hc
   refine WC_exit ?_
   refine Ps_next hK7 ?_
   refine WC_seq fun K18 hK18 => ?_
   refine WC_sr fun K19 hK19 => ?_
   refine WL_r (Rd_move rfl) rfl ?_
   refine WL_ac (Ac_call cf33 rfl (hs := prob_ct (X := X) (l := fl) hF (by omega))) rfl rfl rfl ?_
   rintro _ _ ⟨⟨⟩, rfl, hA⟩
   simp only [List.cons_append, List.nil_append] at hA
   replace hA := hA.symm
   subst hA
   rw [ho]
   refine WL_r (Rd_not rfl) rfl ?_
   refine WL_end hK19 ?_
   refine WC_condT rfl ?_
   refine WC_sr fun K20 hK20 => ?_
   refine WL_r (Rd_assign rfl) rfl ?_
   refine WL_r (Rd_assign rfl) rfl ?_
   refine WL_end hK20 ?_
   refine WC_ret ?_
   exact hret.gf () (Rs2 rfl rfl rfl)

theorem lasts_ok {X : Asn} {v w : Value} {ps : List Pr} {ao : Option Addr} {cap : Nat} {fl : List Nat} {ao2 : Option Addr} {cap2 : Nat} {k0 : Int} (hS : Sv [X] v 2 ePr ps ao cap) (hF : Sv [X] w 1 eF fl ao2 cap2) (hn : ps.length ≤ 100000000) (hn2 : fl.length ≤ 100000000) (hm : mayP ps) (hg : goodL (lookP ps) fl.length) (hw : ∀ x ∈ fl, x < 2 ^ 64) (ho : oddsOk fl = true) : Ct Try.prog 11 [v, w, .int .i64 k0] [X] (fun _ : Unit => .tuple #[.float .f64 (lastP (lookP ps) fl k0), .int .i64 0]) (fun _ => [X]) := by
 refine Ct_body (n := 86) Try.func11 rfl rfl rfl fun F w0 Q hret hnorm hp => ?_
 change WC _ _ _ _ _ _ _ (_ :: F)
 have hpl := lookP_len ps
 have hpk := lookP_ok ps
 have hU := oddsOk_U hw ho
 refine WC_sr fun K1 hK1 => ?_
 refine WL_r (Rd_assign rfl) rfl ?_
 refine WL_r (Rd_assign rfl) rfl ?_
 refine WL_end hK1 ?_
 refine WC_sr fun K2 hK2 => ?_
 refine WL_r (Rd_move rfl) rfl ?_
 refine WL_ac (Ac_call cf28 rfl (hs := look_ok (X := X) (ps := ps) hS hn hm)) rfl rfl rfl ?_
 rintro _ _ ⟨⟨ga, gc⟩, rfl, hA⟩
 simp only [List.cons_append, List.nil_append] at hA
 replace hA := hA.symm
 subst hA
 refine WL_fact (fun w h => arr_facts (a := ga) (cap := gc) (e := 2) (T := 24) (f := ePr) (l := (lookP ps)) hasA h) (fun hLf => ?_)
 have hL : Sv [arr ga gc 2 24 ePr (lookP ps)] (sl ga ((lookP ps)).length gc) 2 ePr (lookP ps) ((ga : Option Nat).map fun g => ⟨g, 0, none⟩) gc := Sv_own' encPr hLf.1 hLf.2
 refine WL_r (Rd_move rfl) rfl ?_
 refine WL_r (Rd_ext0 rfl) rfl ?_
 refine WL_r (Rd_ext1 rfl) rfl ?_
 refine WL_r (Rd_assign rfl) rfl ?_
 refine WL_r (Rd_assign rfl) rfl ?_
 refine WL_end hK2 ?_
 refine WC_seq fun K3 hK3 => ?_
 refine WC_sr fun K4 hK4 => ?_
 refine WL_r (Rd_move rfl) rfl ?_
 refine WL_r (Rd_neqN (i := 0) (j := 0) rfl rfl) rfl ?_
 refine WL_end hK4 ?_
 refine WC_condF rfl ?_
 refine WC_skip ?_
 refine Ps_next hK3 ?_
 refine WC_sr fun K5 hK5 => ?_
 refine WL_ac (Ac_makeP kfN vfN) rfl rfl rfl ?_
 rintro _ _ ⟨m10, rfl, rfl⟩
 refine WL_r (Rd_assign rfl) rfl ?_
 refine WL_end hK5 ?_
 refine WC_sr fun K6 hK6 => ?_
 refine WL_ac (Ac_makeP kfN vfN) rfl rfl rfl ?_
 rintro _ _ ⟨m11, rfl, rfl⟩
 refine WL_r (Rd_assign rfl) rfl ?_
 refine WL_end hK6 ?_
 refine WC_seq fun K7 hK7 => ?_
 refine WC_sr fun K8 hK8 => ?_
 refine WL_r (Rd_move rfl) rfl ?_
 refine WL_r (Rd_len rfl rfl ud22) rfl ?_
 refine WL_r (Rd_move rfl) rfl ?_
 refine WL_end hK8 ?_
 refine WC_block ?_
 refine WC_loopK (σ := Nat × (List (Int × Int)) × (List (Int × Int))) (fun ⟨i, HL, CL⟩ => [(29, .int .i64 ((i : Nat) : Int))]) (fun ⟨i, HL, CL⟩ => [mpP m10 kfN vfN HL, mpP m11 kfN vfN CL]) (fun ⟨i, HL, CL⟩ => i ≤ (lookP ps).length ∧ (∀ x, at0 x HL = ((cD ((lookP ps).take i) x : Nat) : Int)) ∧ (∀ x, at0 x CL = ((cS ((lookP ps).take i) x : Nat) : Int)) ∧ (∀ x, cD ((lookP ps).take i) x ≤ 1) ∧ (∀ q ∈ (lookP ps).take i, q.1 < (fl.length : Int))) (fun ⟨i, HL, CL⟩ => (lookP ps).length - i) ⟨0, [], []⟩ [1, 2, 8, 10, 11, 14, 15, 16, 27, 28, 56, 57, 58, 59, 60, 61, 62, 63, 64, 65, 66, 67, 68, 69, 70, 71, 72, 73, 74, 75, 76, 77, 78, 79, 80, 82, 83, 84, 85] kpA (by (try dsimp only); repeat (first | with_reducible exact Gv.nil | (with_reducible apply Gv.cons; · (repeat (first | with_reducible exact Ext.here | with_reducible apply Ext.there))))) ?_ ?_ Sub.refl ?_
 ·exact ⟨Nat.zero_le _, fun x => rfl, fun x => rfl, fun x => Nat.zero_le _, fun q h => by simp at h⟩
 ·(try dsimp only); exact (Wk.cons lkA Wk.nil)
 ·rintro ⟨i, HL, CL⟩ ⟨hi, hh, hc, hq1, hq2⟩ K9 hK9
  simp only [List.cons_append, List.nil_append]
  refine WC_sr fun K10 hK10 => ?_
  refine WL_r (Rd_lssN rfl rfl) rfl ?_
  refine WL_end hK10 ?_
  refine WC_seq fun K11 hK11 => ?_
  refine WC_cond rfl (fun hc1 => ?_) (fun hc1 => ?_)
  ·try simp only [dz, ne_eq] at hc1
   obtain ⟨p, hp0⟩ : ∃ p, (lookP ps)[i]? = some p := ⟨_, List.getElem?_eq_getElem (by omega)⟩
   have hDb := cD_le ((lookP ps).take i) p.2
   have hSb := cS_le ((lookP ps).take i) p.1
   rw [List.length_take] at hDb hSb
   refine WC_skip ?_
   refine Ps_next hK11 ?_
   refine WC_seq fun K12 hK12 => ?_
   refine WC_block ?_
   refine WC_sr fun K13 hK13 => ?_
   refine WL_r (Rd_index_sv i rfl rfl ud22 sz24 (hA := hL) (hi := by omega)) rfl ?_
   refine WL_r (Rd_loadg_sv (f := ePr) (i := i) (y := p) rfl tk24 (hA := hL) (hl := hp0)) rfl ?_
   refine WL_ac (Ac_alloc zr24) rfl rfl rfl ?_
   rintro _ _ ⟨b13, rfl, rfl⟩
   refine WL_ac0 (Ac_store (ys := ePr p) rfl rfl sz24 (h1 := encPr.one p) (hv := rfl) (hr := rfl)) rfl rfl ?_
   rintro _ _ rfl
   refine WL_end hK13 ?_
   refine WC_sr fun K14 hK14 => ?_
   refine WL_r (Rd_move rfl) rfl ?_
   refine WL_r (Rd_fieldAddr rfl fo24_1) rfl ?_
   refine WL_r (Rd_load rfl tk3 (v := .int .i64 p.2)) rfl ?_
   refine WL_r (Rd_valE (v := .int .i64 (((cD ((lookP ps).take i) p.2) : Nat) : Int)) (Rd_lookP1 (kf := kfN) (vf := vfN) (l := HL) keyN rfl rfl ud58 zvN) (look_c (hh p.2))) rfl ?_
   refine WL_r (Rd_addN (j := 1) rfl rfl) rfl ?_
   refine WL_ac0 (Ac_putP (kf := kfN) (vf := vfN) (((cD ((lookP ps).take i) p.2) + 1 : Nat) : Int) keyN rfl rfl rfl ud58) rfl rfl ?_
   rintro _ _ rfl
   refine WL_end hK14 ?_
   refine WC_sr fun K15 hK15 => ?_
   refine WL_r (Rd_move rfl) rfl ?_
   refine WL_r (Rd_fieldAddr rfl fo24_0) rfl ?_
   refine WL_r (Rd_load rfl tk3 (v := .int .i64 p.1)) rfl ?_
   refine WL_r (Rd_valE (v := .int .i64 (((cS ((lookP ps).take i) p.1) : Nat) : Int)) (Rd_lookP1 (kf := kfN) (vf := vfN) (l := CL) keyN rfl rfl ud58 zvN) (look_c (hc p.1))) rfl ?_
   refine WL_r (Rd_addN (j := 1) rfl rfl) rfl ?_
   refine WL_ac0 (Ac_putP (kf := kfN) (vf := vfN) (((cS ((lookP ps).take i) p.1) + 1 : Nat) : Int) keyN rfl rfl rfl ud58) rfl rfl ?_
   rintro _ _ rfl
   refine WL_end hK15 ?_
   refine WC_sr fun K16 hK16 => ?_
   refine WL_r (Rd_move rfl) rfl ?_
   refine WL_r (Rd_fieldAddr rfl fo24_1) rfl ?_
   refine WL_r (Rd_load rfl tk3 (v := .int .i64 p.2)) rfl ?_
   refine WL_r (Rd_valE (v := .int .i64 ((((cD ((lookP ps).take i) p.2) + 1) : Nat) : Int)) (Rd_lookP1 (kf := kfN) (vf := vfN) (l := (putL p.2 (((cD ((lookP ps).take i) p.2) + 1 : Nat) : Int) HL)) keyN rfl rfl ud58 zvN) look_p) rfl ?_
   refine WL_r (Rd_gtrN (j := 1) rfl rfl) rfl ?_
   refine WL_r (Rd_move rfl) rfl ?_
   refine WL_bool 48 rfl (fun hg17 => ?_) (fun hg17 => ?_)
   ·try simp only [dz, ne_eq] at hg17
    refine WL_skip rfl rfl rfl ?_
    refine WL_skip rfl rfl rfl ?_
    refine WL_skip rfl rfl rfl ?_
    refine WL_skip rfl rfl rfl ?_
    refine WL_skip rfl rfl rfl ?_
    refine WL_r (Rd_pickT rfl rfl) rfl ?_
    refine WL_end hK16 ?_
    refine WC_condT rfl ?_
    have hgs := good_step hp0 hg
    exfalso
    omega
   ·try simp only [dz, ne_eq] at hg17
    refine WL_r (Rd_fieldAddr rfl fo24_0) rfl ?_
    refine WL_r (Rd_load rfl tk3 (v := .int .i64 p.1)) rfl ?_
    refine WL_r (Rd_move rfl) rfl ?_
    refine WL_r (Rd_len_sv rfl rfl ud34) rfl ?_
    refine WL_r (Rd_geq rfl rfl) rfl ?_
    refine WL_r (Rd_pickF rfl rfl) rfl ?_
    refine WL_end hK16 ?_
    refine WC_cond rfl (fun hc2 => ?_) (fun hc2 => ?_)
    ·try simp only [dz, ne_eq] at hc2
     have hgs := good_step hp0 hg
     exfalso
     omega
    ·try simp only [dz, ne_eq] at hc2
     have hqq := good_snoc hp0 hq1 hq2 (by omega) (by omega)
     refine WC_skip ?_
     refine Ps_next hK12 ?_
     refine WC_region ?_
     refine WL_r (Rd_addN (j := 1) rfl rfl) rfl ?_
     refine WL_r (Rd_move rfl) rfl ?_
     refine WL_nil ?_
     refine Ps_wkB (hK9 ⟨i + 1, (putL p.2 (((cD ((lookP ps).take i) p.2) + 1 : Nat) : Int) HL), (putL p.1 (((cS ((lookP ps).take i) p.1) + 1 : Nat) : Int) CL)⟩ (⟨by (try dsimp only); omega, cntD_step hp0 hh, cntS_step hp0 hc, hqq.1, hqq.2⟩) (by (try dsimp only); omega))
  ·try simp only [dz, ne_eq] at hc1
   obtain rfl : i = (lookP ps).length := by omega
   rw [List.take_length] at hq1 hq2 hc
   refine WC_exit ?_
   refine Ps_next hK7 ?_
   refine WC_seq fun K18 hK18 => ?_
   refine WC_sr fun K19 hK19 => ?_
   refine WL_r (Rd_move rfl) rfl ?_
   refine WL_ac (Ac_call cf33 rfl (hs := prob_ct (X := X) (l := fl) hF (by omega))) rfl rfl rfl ?_
   rintro _ _ ⟨⟨⟩, rfl, hA⟩
   simp only [List.cons_append, List.nil_append] at hA
   replace hA := hA.symm
   subst hA
   rw [ho]
   refine WL_r (Rd_not rfl) rfl ?_
   refine WL_end hK19 ?_
   refine WC_condF rfl ?_
   refine WC_skip ?_
   refine Ps_next hK18 ?_
   refine WC_sr fun K20 hK20 => ?_
   refine WL_r (Rd_move rfl) rfl ?_
   refine WL_r (Rd_len rfl rfl ud22) rfl ?_
   refine WL_r (Rd_addN (j := 1) rfl rfl) rfl ?_
   refine WL_ac (Ac_make (f := eF) encF 0 rfl rfl ud34 el35 zr35) rfl rfl rfl ?_
   rintro _ _ ⟨b62, rfl, rfl⟩
   refine WL_r (Rd_assign rfl) rfl ?_
   refine WL_end hK20 ?_
   refine WC_sr fun K21 hK21 => ?_
   refine WL_r (Rd_move rfl) rfl ?_
   refine WL_r (Rd_index 0 rfl rfl ud34 sz35 (hj := by omega)) rfl ?_
   refine WL_ac0 (Ac_store_arr ONE rfl rfl sz35 (i := 0) (j := 0) (hl := by rw [List.replicate_succ]; rfl)) rfl rfl ?_
   rintro _ _ rfl
   rw [show (List.replicate ((lookP ps).length + 1) 0).set 0 ONE = begP (lookP ps).length from rfl]
   refine WL_end hK21 ?_
   refine WC_seq fun K22 hK22 => ?_
   refine WC_sr fun K23 hK23 => ?_
   refine WL_r (Rd_move rfl) rfl ?_
   refine WL_r (Rd_len_sv rfl rfl ud34) rfl ?_
   refine WL_r (Rd_move rfl) rfl ?_
   refine WL_end hK23 ?_
   refine WC_block ?_
   rw [show arr (some b62) ((lookP ps).length + 1) 1 35 eF (begP (lookP ps).length) = arr (some b62) ((lookP ps).length + 1) 1 35 eF (lasT (lookP ps) (begP (lookP ps).length) (fl.take 0)) from rfl]
   refine WC_loopK (σ := Nat) (fun s => [(67, .int .i64 ((s : Nat) : Int))]) (fun s => [arr (some b62) ((lookP ps).length + 1) 1 35 eF (lasT (lookP ps) (begP (lookP ps).length) (fl.take s))]) (fun s => s ≤ fl.length) (fun s => fl.length - s) (0) [2, 6, 7, 11, 14, 65, 66, 83, 84, 85] kpA (by (try dsimp only); repeat (first | with_reducible exact Gv.nil | (with_reducible apply Gv.cons; · (repeat (first | with_reducible exact Ext.here | with_reducible apply Ext.there))))) ?_ ?_ Sub.refl ?_
   ·exact Nat.zero_le _
   ·(try dsimp only); exact (Wk.cons lkA Wk.nil)
   ·rintro s hs K24 hK24
    simp only [List.cons_append, List.nil_append]
    refine WC_sr fun K25 hK25 => ?_
    refine WL_r (Rd_lssN rfl rfl) rfl ?_
    refine WL_end hK25 ?_
    refine WC_seq fun K26 hK26 => ?_
    refine WC_cond rfl (fun hc4 => ?_) (fun hc4 => ?_)
    ·try simp only [dz, ne_eq] at hc4
     obtain ⟨x, hx⟩ : ∃ x, fl[s]? = some x := ⟨_, List.getElem?_eq_getElem (by omega)⟩
     refine WC_skip ?_
     refine Ps_next hK26 ?_
     refine WC_seq fun K27 hK27 => ?_
     refine WC_block ?_
     refine WC_sr fun K28 hK28 => ?_
     refine WL_r (Rd_move rfl) rfl ?_
     refine WL_r (Rd_index_sv s rfl rfl ud34 sz35 (hA := hF) (hi := by omega)) rfl ?_
     refine WL_r (Rd_load_sv (i := s) (j := 0) (y := x) rfl tk35 (hA := hF) (hl := hx) (hv := rfl)) rfl ?_
     refine WL_r (Rd_assign rfl) rfl ?_
     refine WL_r (Rd_assign rfl) rfl ?_
     refine WL_end hK28 ?_
     refine WC_sr fun K29 hK29 => ?_
     refine WL_r (Rd_move rfl) rfl ?_
     refine WL_r (Rd_move rfl) rfl ?_
     refine WL_r (Rd_valE (v := .int .i64 (((cS (lookP ps) ((s : Nat) : Int)) : Nat) : Int)) (Rd_lookP1 (kf := kfN) (vf := vfN) (l := CL) keyN rfl rfl ud58 zvN) (look_c (hc _))) rfl ?_
     refine WL_r (Rd_gtrN (j := 0) rfl rfl) rfl ?_
     refine WL_end hK29 ?_
     refine WC_cond rfl (fun hc5 => ?_) (fun hc5 => ?_)
     ·try simp only [dz, ne_eq] at hc5
      refine WC_region ?_
      refine WL_r (Rd_move rfl) rfl ?_
      refine WL_r (Rd_move rfl) rfl ?_
      refine WL_r (Rd_move rfl) rfl ?_
      refine WL_r (Rd_valE (v := .int .i64 (((cS (lookP ps) ((s : Nat) : Int)) : Nat) : Int)) (Rd_lookP1 (kf := kfN) (vf := vfN) (l := CL) keyN rfl rfl ud58 zvN) (look_c (hc _))) rfl ?_
      refine WL_r (Rd_move rfl) rfl ?_
      refine WL_ac (Ac_call cf34 rfl (hs := taken_ct (ga := b62) (cap := ((lookP ps).length + 1)) (n := ((lookP ps).length + 1)) (c := cS (lookP ps) ((s : Nat) : Int)) (x := x) (p := (lasT (lookP ps) (begP (lookP ps).length) (fl.take s))) (by rw [lasT_len, begP_len]) (lasT_un _ (begP_un _) fun y hy => hU y (List.mem_of_mem_take hy)) (hU x (List.mem_of_getElem? hx)) (by have := cS_le (lookP ps) ((s : Nat) : Int); omega) (by omega))) rfl rfl rfl ?_
      rintro _ _ ⟨⟨⟩, rfl, hA⟩
      simp only [List.cons_append, List.nil_append] at hA
      replace hA := hA.symm
      subst hA
      rw [lasT_yes hx (by first | assumption | omega)]
      refine WL_nil ?_
      refine Ps_next hK27 ?_
      refine WC_region ?_
      refine WL_r (Rd_addN (j := 1) rfl rfl) rfl ?_
      refine WL_r (Rd_move rfl) rfl ?_
      refine WL_nil ?_
      refine Ps_wkB (hK24 (s + 1) (by omega) (by omega))
     ·try simp only [dz, ne_eq] at hc5
      rw [lasT_no hx (by first | assumption | omega)]
      refine WC_skip ?_
      refine Ps_next hK27 ?_
      refine WC_region ?_
      refine WL_r (Rd_addN (j := 1) rfl rfl) rfl ?_
      refine WL_r (Rd_move rfl) rfl ?_
      refine WL_nil ?_
      refine Ps_wkB (hK24 (s + 1) (by omega) (by omega))
    ·try simp only [dz, ne_eq] at hc4
     obtain rfl : s = fl.length := by omega
     rw [List.take_length]
     refine WC_exit ?_
     refine Ps_next hK22 ?_
     refine WC_sr fun K30 hK30 => ?_
     refine WL_r (Rd_move rfl) rfl ?_
     refine WL_r (Rd_move rfl) rfl ?_
     refine WL_ac (Ac_call cf35 rfl (hs := tail_ct (ga := b62) (cap := ((lookP ps).length + 1)) (n := ((lookP ps).length + 1)) (k0 := k0) (p := (lasT (lookP ps) (begP (lookP ps).length) fl)) (by rw [lasT_len, begP_len]) (lasT_un _ (begP_un _) hU) (by omega) (by omega))) rfl rfl rfl ?_
     rintro _ _ ⟨⟨⟩, rfl, hA⟩
     simp only [List.cons_append, List.nil_append] at hA
     replace hA := hA.symm
     subst hA
     refine WL_r (Rd_assign rfl) rfl ?_
     refine WL_r (Rd_assign rfl) rfl ?_
     refine WL_end hK30 ?_
     refine WC_ret ?_
     exact hret.gf () (Rs2 rfl rfl rfl)
end Go.Proofs.Ytilmiikfjcdllaa
namespace Go.Proofs.Ytilmiikfjcdllaa
open Go.RowKit Go.SL Go.ShM Go.HyM Go.Fl Go.SvM
set_option maxHeartbeats 1000000
set_option maxRecDepth 20000
set_option linter.all false
theorem cf11 : cfn Try.prog 11 = true := by kernel_rfl
theorem cf13 : cfn Try.prog 13 = true := by kernel_rfl
theorem sz4 : sz Try.prog 4 = some 1 := by kernel_rfl
theorem tk4 : tk Try.prog 4 = some none := by kernel_rfl
theorem sameF_ct {x : Nat} (hx : NN x) : Ct Try.prog 13 [.float .f64 x, .float .f64 x] [] (fun _ : Unit => .bool true) (fun _ => []) := by
 refine Ct_body (n := 19) Try.func13 rfl rfl rfl fun F w0 Q hret hnorm hp => ?_
 change WC _ _ _ _ _ _ _ (F)
 obtain ⟨y, hy, hyN⟩ := fdiv_ok hx
 refine WC_sr fun K1 hK1 => ?_
 refine WL_r (Rd_assign rfl) rfl ?_
 refine WL_end hK1 ?_
 refine WC_sr fun K2 hK2 => ?_
 refine WL_r (Rd_move rfl) rfl ?_
 refine WL_r (Rd_move rfl) rfl ?_
 refine WL_r (Rd_valE (v := .bool true) (Rd_feql (a := x) (b := x) rfl rfl) (congrArg Value.bool (by rw [ord_refl hx]; rfl))) rfl ?_
 refine WL_r (Rd_move rfl) rfl ?_
 refine WL_r (Rd_move rfl) rfl ?_
 refine WL_r (Rd_fneq (b := 0) rfl rfl) rfl ?_
 refine WL_r (Rd_move rfl) rfl ?_
 refine WL_bool 11 rfl (fun hg3 => ?_) (fun hg3 => ?_)
 ·try simp only [dz, ne_eq] at hg3
  refine WL_skip rfl rfl rfl ?_
  refine WL_skip rfl rfl rfl ?_
  refine WL_skip rfl rfl rfl ?_
  refine WL_skip rfl rfl rfl ?_
  refine WL_skip rfl rfl rfl ?_
  refine WL_r (Rd_pickT rfl rfl) rfl ?_
  refine WL_r (Rd_pickT rfl rfl) rfl ?_
  refine WL_r (Rd_assign rfl) rfl ?_
  refine WL_end hK2 ?_
  refine WC_ret ?_
  exact hret.gfE () (Rs1 rfl rfl) (by first | rfl | simp_all)
 ·try simp only [dz, ne_eq] at hg3
  refine WL_r (Rd_move rfl) rfl ?_
  refine WL_r (Rd_fop (a := ONE) rfl rfl hy) rfl ?_
  refine WL_r (Rd_move rfl) rfl ?_
  refine WL_r (Rd_fop (a := ONE) rfl rfl hy) rfl ?_
  refine WL_r (Rd_valE (v := .bool true) (Rd_feql (a := y) (b := y) rfl rfl) (congrArg Value.bool (by rw [ord_refl hyN]; rfl))) rfl ?_
  refine WL_r (Rd_pickF rfl rfl) rfl ?_
  refine WL_r (Rd_pickT rfl rfl) rfl ?_
  refine WL_r (Rd_assign rfl) rfl ?_
  refine WL_end hK2 ?_
  refine WC_ret ?_
  exact hret.gfE () (Rs1 rfl rfl) (by first | rfl | simp_all)

end Go.Proofs.Ytilmiikfjcdllaa
