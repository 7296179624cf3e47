/-
  Contracts of functions that the claim reaches, or the logic and the plain laws that they rest on, or the row over them. (Conditions: none beyond the statement.)
-/
import Derived.Test.YtilmiikfjcdllaaHyGb
import Derived.Test.YtilmiikfjcdllaaHyLa
set_option linter.all false
namespace Go.Proofs.Ytilmiikfjcdllaa
open Go.RowKit Go.SL Go.ShM Go.HyM Go.Fl Go.SvM
set_option maxHeartbeats 1000000
set_option maxRecDepth 20000
set_option linter.all false
theorem cf10 : cfn Try.prog 10 = true := by kernel_rfl
theorem cf18 : cfn Try.prog 18 = true := by kernel_rfl
theorem fo27_2 : fo Try.prog 27 2 = some (2, 3) := by kernel_rfl
theorem May_ct {X : Asn} {v : Value} {ps : List Pr} {ao : Option Addr} {cap : Nat} (hS : Sv [X] v 2 ePr ps ao cap) (hn : ps.length ≤ 100000000) : Ct Try.prog 18 [v] [X] (fun _ : Unit => .bool (decide (mayP ps))) (fun _ => [X]) := by
 refine Ct_body (n := 36) Try.func18 rfl rfl rfl fun F w0 Q hret hnorm hp => ?_
 change WC _ _ _ _ _ _ _ (_ :: F)
 refine WC_sr fun K1 hK1 => ?_
 refine WL_r (Rd_assign rfl) rfl ?_
 refine WL_end hK1 ?_
 refine WC_seq fun K2 hK2 => ?_
 refine WC_sr fun K3 hK3 => ?_
 refine WL_r (Rd_move rfl) rfl ?_
 refine WL_r (Rd_len_sv rfl rfl ud22) rfl ?_
 refine WL_r (Rd_gtrN (j := 8192) rfl rfl) rfl ?_
 refine WL_end hK3 ?_
 refine WC_cond rfl (fun hc0 => ?_) (fun hc0 => ?_)
 ·try simp only [dz, ne_eq] at hc0
  refine WC_sr fun K4 hK4 => ?_
  refine WL_r (Rd_assign rfl) rfl ?_
  refine WL_end hK4 ?_
  refine WC_ret ?_
  exact hret.gfE () (Rs1 rfl rfl) (congrArg Value.bool (decide_eq_false fun hm => absurd hm.1 (by omega)).symm)
 ·try simp only [dz, ne_eq] at hc0
  refine WC_skip ?_
  refine Ps_next hK2 ?_
  refine WC_seq fun K5 hK5 => ?_
  refine WC_sr fun K6 hK6 => ?_
  refine WL_r (Rd_assign rfl) rfl ?_
  refine WL_end hK6 ?_
  refine WC_block ?_
  refine WC_loopK (σ := Nat) (fun i => [(3, .int .i64 ((i : Nat) : Int))]) (fun i => []) (fun i => i ≤ ps.length ∧ (∀ q ∈ ps.take i, pOk q)) (fun i => ps.length - i) (0) [0] kpA (by (try dsimp only); repeat (first | with_reducible exact Gv.nil | (with_reducible apply Gv.cons; · (repeat (first | with_reducible exact Ext.here | with_reducible apply Ext.there))))) ?_ ?_ Sub.refl ?_
  ·exact ⟨Nat.zero_le _, fun q h => by simp at h⟩
  ·(try dsimp only); exact (Wk.cons lkA Wk.nil)
  ·rintro i ⟨hi, hall⟩ K7 hK7
   simp only [List.cons_append, List.nil_append]
   refine WC_seq fun K8 hK8 => ?_
   refine WC_sr fun K9 hK9 => ?_
   refine WL_r (Rd_move rfl) rfl ?_
   refine WL_r (Rd_move rfl) rfl ?_
   refine WL_r (Rd_len_sv rfl rfl ud22) rfl ?_
   refine WL_r (Rd_lssN rfl rfl) rfl ?_
   refine WL_end hK9 ?_
   refine WC_cond rfl (fun hc1 => ?_) (fun hc1 => ?_)
   ·try simp only [dz, ne_eq] at hc1
    obtain ⟨p, hp0⟩ : ∃ p, ps[i]? = some p := ⟨_, List.getElem?_eq_getElem (by omega)⟩
    have hpm := List.mem_of_getElem? hp0
    refine WC_skip ?_
    refine Ps_next hK8 ?_
    refine WC_seq fun K10 hK10 => ?_
    refine WC_block ?_
    refine WC_sr fun K11 hK11 => ?_
    refine WL_r (Rd_move rfl) rfl ?_
    refine WL_r (Rd_move rfl) rfl ?_
    refine WL_r (Rd_index_sv i rfl rfl ud22 sz24 (hA := hS) (hi := by omega)) rfl ?_
    refine WL_r (Rd_loadg_sv (f := ePr) (i := i) (y := p) rfl tk24 (hA := hS) (hl := hp0)) rfl ?_
    refine WL_ac (Ac_alloc zr24) rfl rfl rfl ?_
    rintro _ _ ⟨b4, rfl, rfl⟩
    refine WL_ac0 (Ac_store (ys := ePr p) rfl rfl sz24 (h1 := encPr.one p) (hv := rfl) (hr := rfl)) rfl rfl ?_
    rintro _ _ rfl
    refine WL_end hK11 ?_
    refine WC_sr fun K12 hK12 => ?_
    refine WL_r (Rd_fieldAddr rfl fo24_0) rfl ?_
    refine WL_r (Rd_load rfl tk3 (v := .int .i64 p.1)) rfl ?_
    refine WL_r (Rd_lss rfl rfl) rfl ?_
    refine WL_r (Rd_move rfl) rfl ?_
    refine WL_bool 21 rfl (fun hg13 => ?_) (fun hg13 => ?_)
    ·try simp only [dz, ne_eq] at hg13
     refine WL_skip rfl rfl rfl ?_
     refine WL_skip rfl rfl rfl ?_
     refine WL_skip rfl rfl rfl ?_
     refine WL_r (Rd_pickT rfl rfl) rfl ?_
     refine WL_r (Rd_move rfl) rfl ?_
     refine WL_skip rfl rfl rfl ?_
     refine WL_skip rfl rfl rfl ?_
     refine WL_skip rfl rfl rfl ?_
     refine WL_r (Rd_pickT rfl rfl) rfl ?_
     refine WL_r (Rd_move rfl) rfl ?_
     refine WL_skip rfl rfl rfl ?_
     refine WL_skip rfl rfl rfl ?_
     refine WL_skip rfl rfl rfl ?_
     refine WL_r (Rd_pickT rfl rfl) rfl ?_
     refine WL_end hK12 ?_
     refine WC_condT rfl ?_
     refine WC_sr fun K14 hK14 => ?_
     refine WL_r (Rd_assign rfl) rfl ?_
     refine WL_end hK14 ?_
     refine WC_ret ?_
     exact hret.gfE () (Rs1 rfl rfl) (congrArg Value.bool (decide_eq_false fun hm => absurd (hm.2 p hpm) (by unfold pOk; omega)).symm)
    ·try simp only [dz, ne_eq] at hg13
     refine WL_r (Rd_fieldAddr rfl fo24_0) rfl ?_
     refine WL_r (Rd_load rfl tk3 (v := .int .i64 p.1)) rfl ?_
     refine WL_r (Rd_geq rfl rfl) rfl ?_
     refine WL_r (Rd_pickF rfl rfl) rfl ?_
     refine WL_r (Rd_move rfl) rfl ?_
     refine WL_bool 26 rfl (fun hg15 => ?_) (fun hg15 => ?_)
     ·try simp only [dz, ne_eq] at hg15
      refine WL_skip rfl rfl rfl ?_
      refine WL_skip rfl rfl rfl ?_
      refine WL_skip rfl rfl rfl ?_
      refine WL_r (Rd_pickT rfl rfl) rfl ?_
      refine WL_r (Rd_move rfl) rfl ?_
      refine WL_skip rfl rfl rfl ?_
      refine WL_skip rfl rfl rfl ?_
      refine WL_skip rfl rfl rfl ?_
      refine WL_r (Rd_pickT rfl rfl) rfl ?_
      refine WL_end hK12 ?_
      refine WC_condT rfl ?_
      refine WC_sr fun K16 hK16 => ?_
      refine WL_r (Rd_assign rfl) rfl ?_
      refine WL_end hK16 ?_
      refine WC_ret ?_
      exact hret.gfE () (Rs1 rfl rfl) (congrArg Value.bool (decide_eq_false fun hm => absurd (hm.2 p hpm) (by unfold pOk; omega)).symm)
     ·try simp only [dz, ne_eq] at hg15
      refine WL_r (Rd_fieldAddr rfl fo24_1) rfl ?_
      refine WL_r (Rd_load rfl tk3 (v := .int .i64 p.2)) rfl ?_
      refine WL_r (Rd_lss rfl rfl) rfl ?_
      refine WL_r (Rd_pickF rfl rfl) rfl ?_
      refine WL_r (Rd_move rfl) rfl ?_
      refine WL_bool 31 rfl (fun hg17 => ?_) (fun hg17 => ?_)
      ·try simp only [dz, ne_eq] at hg17
       refine WL_skip rfl rfl rfl ?_
       refine WL_skip rfl rfl rfl ?_
       refine WL_skip rfl rfl rfl ?_
       refine WL_r (Rd_pickT rfl rfl) rfl ?_
       refine WL_end hK12 ?_
       refine WC_condT rfl ?_
       refine WC_sr fun K18 hK18 => ?_
       refine WL_r (Rd_assign rfl) rfl ?_
       refine WL_end hK18 ?_
       refine WC_ret ?_
       exact hret.gfE () (Rs1 rfl rfl) (congrArg Value.bool (decide_eq_false fun hm => absurd (hm.2 p hpm) (by unfold pOk; omega)).symm)
      ·try simp only [dz, ne_eq] at hg17
       refine WL_r (Rd_fieldAddr rfl fo24_1) rfl ?_
       refine WL_r (Rd_load rfl tk3 (v := .int .i64 p.2)) rfl ?_
       refine WL_r (Rd_geq rfl rfl) rfl ?_
       refine WL_r (Rd_pickF rfl rfl) rfl ?_
       refine WL_end hK12 ?_
       refine WC_cond rfl (fun hc2 => ?_) (fun hc2 => ?_)
       ·try simp only [dz, ne_eq] at hc2
        refine WC_sr fun K19 hK19 => ?_
        refine WL_r (Rd_assign rfl) rfl ?_
        refine WL_end hK19 ?_
        refine WC_ret ?_
        exact hret.gfE () (Rs1 rfl rfl) (congrArg Value.bool (decide_eq_false fun hm => absurd (hm.2 p hpm) (by unfold pOk; omega)).symm)
       ·try simp only [dz, ne_eq] at hc2
        have hpo : pOk p := by unfold pOk; omega
        refine WC_skip ?_
        refine Ps_next hK10 ?_
        refine WC_region ?_
        refine WL_r (Rd_move rfl) rfl ?_
        refine WL_r (Rd_addN (j := 1) rfl rfl) rfl ?_
        refine WL_r (Rd_assign rfl) rfl ?_
        refine WL_nil ?_
        refine Ps_wkB (hK7 (i + 1) (⟨by omega, all_takeP hp0 hall hpo⟩) (by omega))
   ·try simp only [dz, ne_eq] at hc1
    obtain rfl : i = ps.length := by omega
    rw [List.take_length] at hall
    refine WC_exit ?_
    refine Ps_next hK5 ?_
    refine WC_sr fun K20 hK20 => ?_
    refine WL_r (Rd_assign rfl) rfl ?_
    refine WL_end hK20 ?_
    refine WC_ret ?_
    exact hret.gfE () (Rs1 rfl rfl) (congrArg Value.bool (decide_eq_true ⟨by omega, hall⟩).symm)

theorem may_ct {X : Asn} {v : Value} {ps : List Pr} {ao : Option Addr} {cap : Nat} (hS : Sv [X] v 2 ePr ps ao cap) (hn : ps.length ≤ 100000000) : Ct Try.prog 10 [v] [X] (fun _ : Unit => .bool (decide (mayP ps))) (fun _ => [X]) := by
 refine Ct_body (n := 5) Try.func10 rfl rfl rfl fun F w0 Q hret hnorm hp => ?_
 change WC _ _ _ _ _ _ _ (_ :: F)
 refine WC_sr fun K1 hK1 => ?_
 refine WL_r (Rd_assign rfl) rfl ?_
 refine WL_end hK1 ?_
 refine WC_sr fun K2 hK2 => ?_
 refine WL_r (Rd_move rfl) rfl ?_
 refine WL_ac (Ac_call cf18 rfl (hs := May_ct (X := X) (ps := ps) hS hn)) rfl rfl rfl ?_
 rintro _ _ ⟨⟨⟩, rfl, hA⟩
 simp only [List.cons_append, List.nil_append] at hA
 replace hA := hA.symm
 subst hA
 refine WL_r (Rd_assign rfl) rfl ?_
 refine WL_end hK2 ?_
 refine WC_ret ?_
 exact hret.gf () (Rs1 rfl rfl)

end Go.Proofs.Ytilmiikfjcdllaa
namespace Go.Proofs.Ytilmiikfjcdllaa
open Go.RowKit Go.SL Go.ShM Go.HyM Go.Fl Go.SvM
set_option maxHeartbeats 1000000
set_option maxRecDepth 20000
set_option linter.all false

end Go.Proofs.Ytilmiikfjcdllaa
namespace Go.Proofs.Ytilmiikfjcdllaa
open Go.RowKit Go.SL Go.ShM Go.HyM Go.Fl Go.SvM
set_option maxHeartbeats 1000000
set_option maxRecDepth 20000
set_option linter.all false
theorem sz4 : sz Try.prog 4 = some 1 := by kernel_rfl
theorem tk4 : tk Try.prog 4 = some none := by kernel_rfl
end Go.Proofs.Ytilmiikfjcdllaa
