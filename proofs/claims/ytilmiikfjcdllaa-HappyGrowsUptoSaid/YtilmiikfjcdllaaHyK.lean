/-
  Contracts of functions that the claim reaches, or the logic and the plain laws that they rest on, or the row over them. (Conditions: none beyond the statement.)
-/
import Derived.Test.YtilmiikfjcdllaaHyGb
import Derived.Test.YtilmiikfjcdllaaHyLa
set_option linter.all false
namespace Go.Proofs.Ytilmiikfjcdllaa
open Go.RowKit Go.SL Go.ShM Go.HyM Go.Fl Go.SvM
set_option maxHeartbeats 1000000
set_option maxRecDepth 20000
set_option linter.all false
theorem cf10 : cfn Try.prog 10 = true := by kernel_rfl
theorem cf18 : cfn Try.prog 18 = true := by kernel_rfl
theorem fo27_0 : fo Try.prog 27 0 = some (0, 3) := by kernel_rfl
theorem fo27_1 : fo Try.prog 27 1 = some (1, 3) := by kernel_rfl
theorem fo27_2 : fo Try.prog 27 2 = some (2, 3) := by kernel_rfl
theorem ud4 : Try.prog.underlying 4 = some (.bool) := by kernel_rfl
theorem May_ct {X : Asn} {v : Value} {ps : List Pr} {ao : Option Addr} {cap : Nat} (hS : Sv [X] v 2 ePr ps ao cap) (hn : ps.length ≤ 100000000) : Ct Try.prog 18 [v] [X] (fun _ : Unit => .bool (decide (mayP ps))) (fun _ => [X]) := by
 refine Ct_body (n := 36) Try.func18 rfl rfl rfl fun F w0 Q hret hnorm hp => ?_
 change WC _ _ _ _ _ _ _ (_ :: F)
 refine WC_sr fun K1 hK1 => ?_
 refine WL_r (Rd_assign rfl) rfl ?_
 refine WL_end hK1 ?_
 refine WC_seq fun K2 hK2 => ?_
 refine WC_sr fun K3 hK3 => ?_
 refine WL_r (Rd_move rfl) rfl ?_
 refine WL_r (Rd_len_sv rfl rfl ud22) rfl ?_
 refine WL_r (Rd_gtrN (j := 8192) rfl rfl) rfl ?_
 refine WL_end hK3 ?_
 refine WC_cond rfl (fun hc0 => ?_) (fun hc0 => ?_)
 ·try simp only [dz, ne_eq] at hc0
  refine WC_sr fun K4 hK4 => ?_
  refine WL_r (Rd_assign rfl) rfl ?_
  refine WL_end hK4 ?_
  refine WC_ret ?_
  exact hret.gfE () (Rs1 rfl rfl) (congrArg Value.bool (decide_eq_false fun hm => absurd hm.1 (by omega)).symm)
 ·try simp only [dz, ne_eq] at hc0
  refine WC_skip ?_
  refine Ps_next hK2 ?_
  refine WC_seq fun K5 hK5 => ?_
  refine WC_sr fun K6 hK6 => ?_
  refine WL_r (Rd_assign rfl) rfl ?_
  refine WL_end hK6 ?_
  refine WC_block ?_
  refine WC_loopK (σ := Nat) (fun i => [(3, .int .i64 ((i : Nat) : Int))]) (fun i => []) (fun i => i ≤ ps.length ∧ (∀ q ∈ ps.take i, pOk q)) (fun i => ps.length - i) (0) [0] kpA (by (try dsimp only); repeat (first | with_reducible exact Gv.nil | (with_reducible apply Gv.cons; · (repeat (first | with_reducible exact Ext.here | with_reducible apply Ext.there))))) ?_ ?_ Sub.refl ?_
  ·exact ⟨Nat.zero_le _, fun q h => by simp at h⟩
  ·(try dsimp only); exact (Wk.cons lkA Wk.nil)
  ·rintro i ⟨hi, hall⟩ K7 hK7
   simp only [List.cons_append, List.nil_append]
   refine WC_seq fun K8 hK8 => ?_
   refine WC_sr fun K9 hK9 => ?_
   refine WL_r (Rd_move rfl) rfl ?_
   refine WL_r (Rd_move rfl) rfl ?_
   refine WL_r (Rd_len_sv rfl rfl ud22) rfl ?_
   refine WL_r (Rd_lssN rfl rfl) rfl ?_
   refine WL_end hK9 ?_
   refine WC_cond rfl (fun hc1 => ?_) (fun hc1 => ?_)
   ·try simp only [dz, ne_eq] at hc1
    obtain ⟨p, hp0⟩ : ∃ p, ps[i]? = some p := ⟨_, List.getElem?_eq_getElem (by omega)⟩
    have hpm := List.mem_of_getElem? hp0
    refine WC_skip ?_
    refine Ps_next hK8 ?_
    refine WC_seq fun K10 hK10 => ?_
    refine WC_block ?_
    refine WC_sr fun K11 hK11 => ?_
    refine WL_r (Rd_move rfl) rfl ?_
    refine WL_r (Rd_move rfl) rfl ?_
    refine WL_r (Rd_index_sv i rfl rfl ud22 sz24 (hA := hS) (hi := by omega)) rfl ?_
    refine WL_r (Rd_loadg_sv (f := ePr) (i := i) (y := p) rfl tk24 (hA := hS) (hl := hp0)) rfl ?_
    refine WL_ac (Ac_alloc zr24) rfl rfl rfl ?_
    rintro _ _ ⟨b4, rfl, rfl⟩
    refine WL_ac0 (Ac_store (ys := ePr p) rfl rfl sz24 (h1 := encPr.one p) (hv := rfl) (hr := rfl)) rfl rfl ?_
    rintro _ _ rfl
    refine WL_end hK11 ?_
    refine WC_sr fun K12 hK12 => ?_
    refine WL_r (Rd_fieldAddr rfl fo24_0) rfl ?_
    refine WL_r (Rd_load rfl tk3 (v := .int .i64 p.1)) rfl ?_
    refine WL_r (Rd_lss rfl rfl) rfl ?_
    refine WL_r (Rd_move rfl) rfl ?_
    refine WL_bool 21 rfl (fun hg13 => ?_) (fun hg13 => ?_)
    ·try simp only [dz, ne_eq] at hg13
     refine WL_skip rfl rfl rfl ?_
     refine WL_skip rfl rfl rfl ?_
     refine WL_skip rfl rfl rfl ?_
     refine WL_r (Rd_pickT rfl rfl) rfl ?_
     refine WL_r (Rd_move rfl) rfl ?_
     refine WL_skip rfl rfl rfl ?_
     refine WL_skip rfl rfl rfl ?_
     refine WL_skip rfl rfl rfl ?_
     refine WL_r (Rd_pickT rfl rfl) rfl ?_
     refine WL_r (Rd_move rfl) rfl ?_
     refine WL_skip rfl rfl rfl ?_
     refine WL_skip rfl rfl rfl ?_
     refine WL_skip rfl rfl rfl ?_
     refine WL_r (Rd_pickT rfl rfl) rfl ?_
     refine WL_end hK12 ?_
     refine WC_condT rfl ?_
     refine WC_sr fun K14 hK14 => ?_
     refine WL_r (Rd_assign rfl) rfl ?_
     refine WL_end hK14 ?_
     refine WC_ret ?_
     exact hret.gfE () (Rs1 rfl rfl) (congrArg Value.bool (decide_eq_false fun hm => absurd (hm.2 p hpm) (by unfold pOk; omega)).symm)
    ·try simp only [dz, ne_eq] at hg13
     refine WL_r (Rd_fieldAddr rfl fo24_0) rfl ?_
     refine WL_r (Rd_load rfl tk3 (v := .int .i64 p.1)) rfl ?_
     refine WL_r (Rd_geq rfl rfl) rfl ?_
     refine WL_r (Rd_pickF rfl rfl) rfl ?_
     refine WL_r (Rd_move rfl) rfl ?_
     refine WL_bool 26 rfl (fun hg15 => ?_) (fun hg15 => ?_)
     ·try simp only [dz, ne_eq] at hg15
      refine WL_skip rfl rfl rfl ?_
      refine WL_skip rfl rfl rfl ?_
      refine WL_skip rfl rfl rfl ?_
      refine WL_r (Rd_pickT rfl rfl) rfl ?_
      refine WL_r (Rd_move rfl) rfl ?_
      refine WL_skip rfl rfl rfl ?_
      refine WL_skip rfl rfl rfl ?_
      refine WL_skip rfl rfl rfl ?_
      refine WL_r (Rd_pickT rfl rfl) rfl ?_
      refine WL_end hK12 ?_
      refine WC_condT rfl ?_
      refine WC_sr fun K16 hK16 => ?_
      refine WL_r (Rd_assign rfl) rfl ?_
      refine WL_end hK16 ?_
      refine WC_ret ?_
      exact hret.gfE () (Rs1 rfl rfl) (congrArg Value.bool (decide_eq_false fun hm => absurd (hm.2 p hpm) (by unfold pOk; omega)).symm)
     ·try simp only [dz, ne_eq] at hg15
      refine WL_r (Rd_fieldAddr rfl fo24_1) rfl ?_
      refine WL_r (Rd_load rfl tk3 (v := .int .i64 p.2)) rfl ?_
      refine WL_r (Rd_lss rfl rfl) rfl ?_
      refine WL_r (Rd_pickF rfl rfl) rfl ?_
      refine WL_r (Rd_move rfl) rfl ?_
      refine WL_bool 31 rfl (fun hg17 => ?_) (fun hg17 => ?_)
      ·try simp only [dz, ne_eq] at hg17
       refine WL_skip rfl rfl rfl ?_
       refine WL_skip rfl rfl rfl ?_
       refine WL_skip rfl rfl rfl ?_
       refine WL_r (Rd_pickT rfl rfl) rfl ?_
       refine WL_end hK12 ?_
       refine WC_condT rfl ?_
       refine WC_sr fun K18 hK18 => ?_
       refine WL_r (Rd_assign rfl) rfl ?_
       refine WL_end hK18 ?_
       refine WC_ret ?_
       exact hret.gfE () (Rs1 rfl rfl) (congrArg Value.bool (decide_eq_false fun hm => absurd (hm.2 p hpm) (by unfold pOk; omega)).symm)
      ·try simp only [dz, ne_eq] at hg17
       refine WL_r (Rd_fieldAddr rfl fo24_1) rfl ?_
       refine WL_r (Rd_load rfl tk3 (v := .int .i64 p.2)) rfl ?_
       refine WL_r (Rd_geq rfl rfl) rfl ?_
       refine WL_r (Rd_pickF rfl rfl) rfl ?_
       refine WL_end hK12 ?_
       refine WC_cond rfl (fun hc2 => ?_) (fun hc2 => ?_)
       ·try simp only [dz, ne_eq] at hc2
        refine WC_sr fun K19 hK19 => ?_
        refine WL_r (Rd_assign rfl) rfl ?_
        refine WL_end hK19 ?_
        refine WC_ret ?_
        exact hret.gfE () (Rs1 rfl rfl) (congrArg Value.bool (decide_eq_false fun hm => absurd (hm.2 p hpm) (by unfold pOk; omega)).symm)
       ·try simp only [dz, ne_eq] at hc2
        have hpo : pOk p := by unfold pOk; omega
        refine WC_skip ?_
        refine Ps_next hK10 ?_
        refine WC_region ?_
        refine WL_r (Rd_move rfl) rfl ?_
        refine WL_r (Rd_addN (j := 1) rfl rfl) rfl ?_
        refine WL_r (Rd_assign rfl) rfl ?_
        refine WL_nil ?_
        refine Ps_wkB (hK7 (i + 1) (⟨by omega, all_takeP hp0 hall hpo⟩) (by omega))
   ·try simp only [dz, ne_eq] at hc1
    obtain rfl : i = ps.length := by omega
    rw [List.take_length] at hall
    refine WC_exit ?_
    refine Ps_next hK5 ?_
    refine WC_sr fun K20 hK20 => ?_
    refine WL_r (Rd_assign rfl) rfl ?_
    refine WL_end hK20 ?_
    refine WC_ret ?_
    exact hret.gfE () (Rs1 rfl rfl) (congrArg Value.bool (decide_eq_true ⟨by omega, hall⟩).symm)

theorem may_ct {X : Asn} {v : Value} {ps : List Pr} {ao : Option Addr} {cap : Nat} (hS : Sv [X] v 2 ePr ps ao cap) (hn : ps.length ≤ 100000000) : Ct Try.prog 10 [v] [X] (fun _ : Unit => .bool (decide (mayP ps))) (fun _ => [X]) := by
 refine Ct_body (n := 5) Try.func10 rfl rfl rfl fun F w0 Q hret hnorm hp => ?_
 change WC _ _ _ _ _ _ _ (_ :: F)
 refine WC_sr fun K1 hK1 => ?_
 refine WL_r (Rd_assign rfl) rfl ?_
 refine WL_end hK1 ?_
 refine WC_sr fun K2 hK2 => ?_
 refine WL_r (Rd_move rfl) rfl ?_
 refine WL_ac (Ac_call cf18 rfl (hs := May_ct (X := X) (ps := ps) hS hn)) rfl rfl rfl ?_
 rintro _ _ ⟨⟨⟩, rfl, hA⟩
 simp only [List.cons_append, List.nil_append] at hA
 replace hA := hA.symm
 subst hA
 refine WL_r (Rd_assign rfl) rfl ?_
 refine WL_end hK2 ?_
 refine WC_ret ?_
 exact hret.gf () (Rs1 rfl rfl)

theorem grows_yy {X : Asn} {v : Value} {ps : List Pr} {ao : Option Addr} {cap : Nat} {q : Pr} (hS : Sv [X] v 2 ePr ps ao cap) (hn : ps.length ≤ 10000000) (h1 : mayP ps) (h2 : mayP (ps ++ [q])) : Ct Try.prog 3 [v, .agg (ePr q).toArray] [X] (fun _ : Unit => .bool true) (fun _ => [X]) := by
 refine Ct_body (n := 126) Try.func3 rfl rfl rfl fun F w0 Q hret hnorm hp => ?_
 change WC _ _ _ _ _ _ _ (_ :: F)
 have f1 := size_fst (lookP_ok ps)
 have f2 := size_snd (lookP_ok ps)
 have f3 := size_fst (lookP_ok (ps ++ [q]))
 have f4 := size_snd (lookP_ok (ps ++ [q]))
 have f5 := cnt_more h2.2 Prod.fst
 have f6 := cnt_more h2.2 Prod.snd
 have f7 := size_more h2.2
 have f8 := cnt_le (lookP ps) Prod.fst
 have f9 := cnt_le (lookP ps) Prod.snd
 refine WC_sr fun K1 hK1 => ?_
 refine WL_ac (Ac_box (xs := ePr q) rfl rfl) rfl rfl rfl ?_
 rintro _ _ ⟨b1, rfl, rfl⟩
 refine WL_r (Rd_assign rfl) rfl ?_
 refine WL_end hK1 ?_
 refine WC_seq fun K2 hK2 => ?_
 refine WC_sr fun K3 hK3 => ?_
 refine WL_ac (Ac_call cf8 rfl (hs := lives_ct)) rfl rfl rfl ?_
 rintro _ _ ⟨⟨⟩, rfl, hA⟩
 simp only [List.cons_append, List.nil_append] at hA
 replace hA := hA.symm
 subst hA
 refine WL_r (Rd_not rfl) rfl ?_
 refine WL_end hK3 ?_
 refine WC_condF rfl ?_
 refine WC_skip ?_
 refine Ps_next hK2 ?_
 refine WC_sr fun K4 hK4 => ?_
 refine WL_r (Rd_move rfl) rfl ?_
 refine WL_ac (Ac_call cf9 rfl (hs := Look_ok (X := X) (ps := ps) hS (by omega) h1)) rfl rfl rfl ?_
 rintro _ _ ⟨⟨⟩, rfl, hA⟩
 simp only [List.cons_append, List.nil_append] at hA
 replace hA := hA.symm
 subst hA
 refine WL_r (Rd_move rfl) rfl ?_
 refine WL_r (Rd_ext0 rfl) rfl ?_
 refine WL_r (Rd_ext1 rfl) rfl ?_
 refine WL_ac (Ac_alloc zr27) rfl rfl rfl ?_
 rintro _ _ ⟨b5, rfl, rfl⟩
 refine WL_ac0 (Ac_store (ys := [.int .i64 (((cntM (lookP ps) Prod.fst) : Nat) : Int), .int .i64 (((cntM (lookP ps) Prod.snd) : Nat) : Int), .int .i64 (((sizeM (lookP ps)) : Nat) : Int)]) rfl rfl sz27 (h1 := by simp [setAt, Value.cells, Value.oneCell']) (hr := rfl)) rfl rfl ?_
 rintro _ _ rfl
 refine WL_r (Rd_assign rfl) rfl ?_
 refine WL_end hK4 ?_
 refine WC_sr fun K5 hK5 => ?_
 refine WL_nilarr ePr 2 24 ?_
 refine WL_r (Rd_assign (v := sl none 0 0) rfl) rfl ?_
 refine WL_nilarr ePr 2 24 ?_
 refine WL_end hK5 ?_
 refine WC_sr fun K6 hK6 => ?_
 refine WL_r (Rd_move rfl) rfl ?_
 refine WL_r (Rd_move rfl) rfl ?_
 refine WL_ac (Ac_appendS (f := ePr) encPr rfl rfl ud22 ud22 el24 (a := none) (cap := 0) (l := []) (l2 := ps) (hS := hS) (hb := by rw [List.length_nil]; omega)) rfl rfl rfl ?_
 rintro _ _ ⟨a19, cap19, rfl, rfl⟩
 rw [List.nil_append, show ([] : List Pr).length + ps.length = ps.length from by simp]
 refine WL_r (Rd_assign rfl) rfl ?_
 refine WL_end hK6 ?_
 refine WC_sr fun K7 hK7 => ?_
 refine WL_r (Rd_move rfl) rfl ?_
 refine WL_r (Rd_loadg (vs := ePr q) rfl tk24) rfl ?_
 refine WL_ac (Ac_bs1 (xs := ePr q) rfl ud22 zr24 sz24 (hl := encPr.len _)) rfl rfl rfl ?_
 rintro _ _ ⟨b22, rfl, rfl⟩
 refine WL_ac (Ac_append1 (f := ePr) encPr q rfl rfl ud22 ud22 el24) rfl rfl rfl ?_
 rintro _ _ ⟨a23, cap23, rfl, rfl⟩
 rw [show ps.length + 1 = (ps ++ [q]).length from by simp]
 refine WL_r (Rd_assign rfl) rfl ?_
 refine WL_end hK7 ?_
 refine WC_sr fun K8 hK8 => ?_
 refine WL_r (Rd_move rfl) rfl ?_
 refine WL_fact (fun w h => arr_facts (a := a23) (cap := cap23) (e := 2) (T := 24) (f := ePr) (l := (ps ++ [q])) hasA h) (fun hQf => ?_)
 have hQ : Sv [arr a23 cap23 2 24 ePr (ps ++ [q])] (sl a23 ((ps ++ [q])).length cap23) 2 ePr (ps ++ [q]) ((a23 : Option Nat).map fun g => ⟨g, 0, none⟩) cap23 := Sv_own' encPr hQf.1 hQf.2
 refine WL_ac (Ac_call cf9 rfl (hs := Look_ok (X := arr a23 cap23 2 24 ePr (ps ++ [q])) (ps := (ps ++ [q])) hQ (by simp; omega) h2)) rfl rfl rfl ?_
 rintro _ _ ⟨⟨⟩, rfl, hA⟩
 simp only [List.cons_append, List.nil_append] at hA
 replace hA := hA.symm
 subst hA
 refine WL_r (Rd_move rfl) rfl ?_
 refine WL_r (Rd_ext0 rfl) rfl ?_
 refine WL_r (Rd_ext1 rfl) rfl ?_
 refine WL_ac (Ac_alloc zr27) rfl rfl rfl ?_
 rintro _ _ ⟨b8, rfl, rfl⟩
 refine WL_ac0 (Ac_store (ys := [.int .i64 (((cntM (lookP (ps ++ [q])) Prod.fst) : Nat) : Int), .int .i64 (((cntM (lookP (ps ++ [q])) Prod.snd) : Nat) : Int), .int .i64 (((sizeM (lookP (ps ++ [q]))) : Nat) : Int)]) rfl rfl sz27 (h1 := by simp [setAt, Value.cells, Value.oneCell']) (hr := rfl)) rfl rfl ?_
 rintro _ _ rfl
 refine WL_r (Rd_assign rfl) rfl ?_
 refine WL_end hK8 ?_
 refine WC_seq fun K9 hK9 => ?_
 refine WC_sr fun K10 hK10 => ?_
 refine WL_r (Rd_move rfl) rfl ?_
 refine WL_ac (Ac_call cf10 rfl (hs := may_ct (X := X) (ps := ps) hS (by omega))) rfl rfl rfl ?_
 rintro _ _ ⟨⟨⟩, rfl, hA⟩
 simp only [List.cons_append, List.nil_append] at hA
 replace hA := hA.symm
 subst hA
 rw [show decide (mayP ps) = true from decide_eq_true h1]
 refine WL_r (Rd_not rfl) rfl ?_
 refine WL_r (Rd_move rfl) rfl ?_
 refine WL_r (Rd_move rfl) rfl ?_
 refine WL_ac (Ac_call cf10 rfl (hs := may_ct (X := arr a23 cap23 2 24 ePr (ps ++ [q])) (ps := (ps ++ [q])) hQ (by simp; omega))) rfl rfl rfl ?_
 rintro _ _ ⟨⟨⟩, rfl, hA⟩
 simp only [List.cons_append, List.nil_append] at hA
 replace hA := hA.symm
 subst hA
 rw [show decide (mayP (ps ++ [q])) = true from decide_eq_true h2]
 refine WL_r (Rd_not rfl) rfl ?_
 refine WL_r (Rd_pickF rfl rfl) rfl ?_
 refine WL_end hK10 ?_
 refine WC_condF rfl ?_
 refine WC_skip ?_
 refine Ps_next hK9 ?_
 refine WC_seq fun K11 hK11 => ?_
 refine WC_sr fun K12 hK12 => ?_
 refine WL_r (Rd_move rfl) rfl ?_
 refine WL_r (Rd_neqN (i := 0) (j := 0) rfl rfl) rfl ?_
 refine WL_r (Rd_move rfl) rfl ?_
 refine WL_r (Rd_move rfl) rfl ?_
 refine WL_r (Rd_neqN (i := 0) (j := 0) rfl rfl) rfl ?_
 refine WL_r (Rd_pickF rfl rfl) rfl ?_
 refine WL_r (Rd_move rfl) rfl ?_
 refine WL_r (Rd_fieldAddr rfl fo27_2) rfl ?_
 refine WL_r (Rd_load rfl tk3 (v := .int .i64 (((sizeM (lookP ps)) : Nat) : Int))) rfl ?_
 refine WL_r (Rd_fieldAddr rfl fo27_0) rfl ?_
 refine WL_r (Rd_load rfl tk3 (v := .int .i64 (((cntM (lookP ps) Prod.fst) : Nat) : Int))) rfl ?_
 refine WL_r (Rd_valE (v := .bool false) (Rd_gtrN rfl rfl) (congrArg Value.bool (decide_eq_false (by omega)))) rfl ?_
 refine WL_r (Rd_pickF rfl rfl) rfl ?_
 refine WL_r (Rd_move rfl) rfl ?_
 refine WL_r (Rd_fieldAddr rfl fo27_2) rfl ?_
 refine WL_r (Rd_load rfl tk3 (v := .int .i64 (((sizeM (lookP ps)) : Nat) : Int))) rfl ?_
 refine WL_r (Rd_fieldAddr rfl fo27_1) rfl ?_
 refine WL_r (Rd_load rfl tk3 (v := .int .i64 (((cntM (lookP ps) Prod.snd) : Nat) : Int))) rfl ?_
 refine WL_r (Rd_valE (v := .bool false) (Rd_gtrN rfl rfl) (congrArg Value.bool (decide_eq_false (by omega)))) rfl ?_
 refine WL_r (Rd_pickF rfl rfl) rfl ?_
 refine WL_r (Rd_move rfl) rfl ?_
 refine WL_r (Rd_fieldAddr rfl fo27_2) rfl ?_
 refine WL_r (Rd_load rfl tk3 (v := .int .i64 (((sizeM (lookP (ps ++ [q]))) : Nat) : Int))) rfl ?_
 refine WL_r (Rd_fieldAddr rfl fo27_0) rfl ?_
 refine WL_r (Rd_load rfl tk3 (v := .int .i64 (((cntM (lookP (ps ++ [q])) Prod.fst) : Nat) : Int))) rfl ?_
 refine WL_r (Rd_valE (v := .bool false) (Rd_gtrN rfl rfl) (congrArg Value.bool (decide_eq_false (by omega)))) rfl ?_
 refine WL_r (Rd_pickF rfl rfl) rfl ?_
 refine WL_r (Rd_move rfl) rfl ?_
 refine WL_r (Rd_fieldAddr rfl fo27_2) rfl ?_
 refine WL_r (Rd_load rfl tk3 (v := .int .i64 (((sizeM (lookP (ps ++ [q]))) : Nat) : Int))) rfl ?_
 refine WL_r (Rd_fieldAddr rfl fo27_1) rfl ?_
 refine WL_r (Rd_load rfl tk3 (v := .int .i64 (((cntM (lookP (ps ++ [q])) Prod.snd) : Nat) : Int))) rfl ?_
 refine WL_r (Rd_valE (v := .bool false) (Rd_gtrN rfl rfl) (congrArg Value.bool (decide_eq_false (by omega)))) rfl ?_
 refine WL_r (Rd_pickF rfl rfl) rfl ?_
 refine WL_end hK12 ?_
 refine WC_condF rfl ?_
 refine WC_skip ?_
 refine Ps_next hK11 ?_
 refine WC_sr fun K13 hK13 => ?_
 refine WL_r (Rd_fieldAddr rfl fo27_0) rfl ?_
 refine WL_r (Rd_load rfl tk3 (v := .int .i64 (((cntM (lookP (ps ++ [q])) Prod.fst) : Nat) : Int))) rfl ?_
 refine WL_r (Rd_fieldAddr rfl fo27_0) rfl ?_
 refine WL_r (Rd_load rfl tk3 (v := .int .i64 (((cntM (lookP ps) Prod.fst) : Nat) : Int))) rfl ?_
 refine WL_r (Rd_valE (v := .bool true) (Rd_geqN rfl rfl) (congrArg Value.bool (decide_eq_true (by omega)))) rfl ?_
 refine WL_r (Rd_move rfl) rfl ?_
 refine WL_r (Rd_fieldAddr rfl fo27_1) rfl ?_
 refine WL_r (Rd_load rfl tk3 (v := .int .i64 (((cntM (lookP (ps ++ [q])) Prod.snd) : Nat) : Int))) rfl ?_
 refine WL_r (Rd_fieldAddr rfl fo27_1) rfl ?_
 refine WL_r (Rd_load rfl tk3 (v := .int .i64 (((cntM (lookP ps) Prod.snd) : Nat) : Int))) rfl ?_
 refine WL_r (Rd_valE (v := .bool true) (Rd_geqN rfl rfl) (congrArg Value.bool (decide_eq_true (by omega)))) rfl ?_
 refine WL_r (Rd_pickT rfl rfl) rfl ?_
 refine WL_r (Rd_move rfl) rfl ?_
 refine WL_r (Rd_fieldAddr rfl fo27_2) rfl ?_
 refine WL_r (Rd_load rfl tk3 (v := .int .i64 (((sizeM (lookP (ps ++ [q]))) : Nat) : Int))) rfl ?_
 refine WL_r (Rd_fieldAddr rfl fo27_2) rfl ?_
 refine WL_r (Rd_load rfl tk3 (v := .int .i64 (((sizeM (lookP ps)) : Nat) : Int))) rfl ?_
 refine WL_r (Rd_valE (v := .bool true) (Rd_geqN rfl rfl) (congrArg Value.bool (decide_eq_true (by omega)))) rfl ?_
 refine WL_r (Rd_pickT rfl rfl) rfl ?_
 refine WL_r (Rd_move rfl) rfl ?_
 refine WL_r (Rd_fieldAddr rfl fo27_2) rfl ?_
 refine WL_r (Rd_load rfl tk3 (v := .int .i64 (((sizeM (lookP (ps ++ [q]))) : Nat) : Int))) rfl ?_
 refine WL_r (Rd_fieldAddr rfl fo27_2) rfl ?_
 refine WL_r (Rd_load rfl tk3 (v := .int .i64 (((sizeM (lookP ps)) : Nat) : Int))) rfl ?_
 refine WL_r (Rd_addN (j := 1) rfl rfl) rfl ?_
 refine WL_r (Rd_valE (v := .bool true) (Rd_leqN rfl rfl) (congrArg Value.bool (decide_eq_true (by omega)))) rfl ?_
 refine WL_r (Rd_pickT rfl rfl) rfl ?_
 refine WL_r (Rd_move rfl) rfl ?_
 refine WL_r (Rd_fieldAddr rfl fo27_0) rfl ?_
 refine WL_r (Rd_load rfl tk3 (v := .int .i64 (((cntM (lookP (ps ++ [q])) Prod.fst) : Nat) : Int))) rfl ?_
 refine WL_r (Rd_fieldAddr rfl fo27_0) rfl ?_
 refine WL_r (Rd_load rfl tk3 (v := .int .i64 (((cntM (lookP ps) Prod.fst) : Nat) : Int))) rfl ?_
 refine WL_r (Rd_addN (j := 1) rfl rfl) rfl ?_
 refine WL_r (Rd_valE (v := .bool true) (Rd_leqN rfl rfl) (congrArg Value.bool (decide_eq_true (by omega)))) rfl ?_
 refine WL_r (Rd_pickT rfl rfl) rfl ?_
 refine WL_r (Rd_move rfl) rfl ?_
 refine WL_r (Rd_fieldAddr rfl fo27_1) rfl ?_
 refine WL_r (Rd_load rfl tk3 (v := .int .i64 (((cntM (lookP (ps ++ [q])) Prod.snd) : Nat) : Int))) rfl ?_
 refine WL_r (Rd_fieldAddr rfl fo27_1) rfl ?_
 refine WL_r (Rd_load rfl tk3 (v := .int .i64 (((cntM (lookP ps) Prod.snd) : Nat) : Int))) rfl ?_
 refine WL_r (Rd_addN (j := 1) rfl rfl) rfl ?_
 refine WL_r (Rd_valE (v := .bool true) (Rd_leqN rfl rfl) (congrArg Value.bool (decide_eq_true (by omega)))) rfl ?_
 refine WL_r (Rd_pickT rfl rfl) rfl ?_
 refine WL_r (Rd_assign rfl) rfl ?_
 refine WL_end hK13 ?_
 refine WC_ret ?_
 exact hret.gf () (Rs1 rfl rfl)

theorem grows_yn {X : Asn} {v : Value} {ps : List Pr} {ao : Option Addr} {cap : Nat} {q : Pr} (hS : Sv [X] v 2 ePr ps ao cap) (hn : ps.length ≤ 10000000) (h1 : mayP ps) (h2 : ¬ mayP (ps ++ [q])) : Ct Try.prog 3 [v, .agg (ePr q).toArray] [X] (fun _ : Unit => .bool true) (fun _ => [X]) := by
 refine Ct_body (n := 126) Try.func3 rfl rfl rfl fun F w0 Q hret hnorm hp => ?_
 change WC _ _ _ _ _ _ _ (_ :: F)
 refine WC_sr fun K1 hK1 => ?_
 refine WL_ac (Ac_box (xs := ePr q) rfl rfl) rfl rfl rfl ?_
 rintro _ _ ⟨b1, rfl, rfl⟩
 refine WL_r (Rd_assign rfl) rfl ?_
 refine WL_end hK1 ?_
 refine WC_seq fun K2 hK2 => ?_
 refine WC_sr fun K3 hK3 => ?_
 refine WL_ac (Ac_call cf8 rfl (hs := lives_ct)) rfl rfl rfl ?_
 rintro _ _ ⟨⟨⟩, rfl, hA⟩
 simp only [List.cons_append, List.nil_append] at hA
 replace hA := hA.symm
 subst hA
 refine WL_r (Rd_not rfl) rfl ?_
 refine WL_end hK3 ?_
 refine WC_condF rfl ?_
 refine WC_skip ?_
 refine Ps_next hK2 ?_
 refine WC_sr fun K4 hK4 => ?_
 refine WL_r (Rd_move rfl) rfl ?_
 refine WL_ac (Ac_call cf9 rfl (hs := Look_ok (X := X) (ps := ps) hS (by omega) h1)) rfl rfl rfl ?_
 rintro _ _ ⟨⟨⟩, rfl, hA⟩
 simp only [List.cons_append, List.nil_append] at hA
 replace hA := hA.symm
 subst hA
 refine WL_r (Rd_move rfl) rfl ?_
 refine WL_r (Rd_ext0 rfl) rfl ?_
 refine WL_r (Rd_ext1 rfl) rfl ?_
 refine WL_ac (Ac_alloc zr27) rfl rfl rfl ?_
 rintro _ _ ⟨b5, rfl, rfl⟩
 refine WL_ac0 (Ac_store (ys := [.int .i64 (((cntM (lookP ps) Prod.fst) : Nat) : Int), .int .i64 (((cntM (lookP ps) Prod.snd) : Nat) : Int), .int .i64 (((sizeM (lookP ps)) : Nat) : Int)]) rfl rfl sz27 (h1 := by simp [setAt, Value.cells, Value.oneCell']) (hr := rfl)) rfl rfl ?_
 rintro _ _ rfl
 refine WL_r (Rd_assign rfl) rfl ?_
 refine WL_end hK4 ?_
 refine WC_sr fun K5 hK5 => ?_
 refine WL_nilarr ePr 2 24 ?_
 refine WL_r (Rd_assign (v := sl none 0 0) rfl) rfl ?_
 refine WL_nilarr ePr 2 24 ?_
 refine WL_end hK5 ?_
 refine WC_sr fun K6 hK6 => ?_
 refine WL_r (Rd_move rfl) rfl ?_
 refine WL_r (Rd_move rfl) rfl ?_
 refine WL_ac (Ac_appendS (f := ePr) encPr rfl rfl ud22 ud22 el24 (a := none) (cap := 0) (l := []) (l2 := ps) (hS := hS) (hb := by rw [List.length_nil]; omega)) rfl rfl rfl ?_
 rintro _ _ ⟨a19, cap19, rfl, rfl⟩
 rw [List.nil_append, show ([] : List Pr).length + ps.length = ps.length from by simp]
 refine WL_r (Rd_assign rfl) rfl ?_
 refine WL_end hK6 ?_
 refine WC_sr fun K7 hK7 => ?_
 refine WL_r (Rd_move rfl) rfl ?_
 refine WL_r (Rd_loadg (vs := ePr q) rfl tk24) rfl ?_
 refine WL_ac (Ac_bs1 (xs := ePr q) rfl ud22 zr24 sz24 (hl := encPr.len _)) rfl rfl rfl ?_
 rintro _ _ ⟨b22, rfl, rfl⟩
 refine WL_ac (Ac_append1 (f := ePr) encPr q rfl rfl ud22 ud22 el24) rfl rfl rfl ?_
 rintro _ _ ⟨a23, cap23, rfl, rfl⟩
 rw [show ps.length + 1 = (ps ++ [q]).length from by simp]
 refine WL_r (Rd_assign rfl) rfl ?_
 refine WL_end hK7 ?_
 refine WC_sr fun K8 hK8 => ?_
 refine WL_r (Rd_move rfl) rfl ?_
 refine WL_fact (fun w h => arr_facts (a := a23) (cap := cap23) (e := 2) (T := 24) (f := ePr) (l := (ps ++ [q])) hasA h) (fun hQf => ?_)
 have hQ : Sv [arr a23 cap23 2 24 ePr (ps ++ [q])] (sl a23 ((ps ++ [q])).length cap23) 2 ePr (ps ++ [q]) ((a23 : Option Nat).map fun g => ⟨g, 0, none⟩) cap23 := Sv_own' encPr hQf.1 hQf.2
 refine WL_ac (Ac_call cf9 rfl (hs := Look_no (X := arr a23 cap23 2 24 ePr (ps ++ [q])) (ps := (ps ++ [q])) hQ (by simp; omega) h2)) rfl rfl rfl ?_
 rintro _ _ ⟨⟨⟩, rfl, hA⟩
 simp only [List.cons_append, List.nil_append] at hA
 replace hA := hA.symm
 subst hA
 refine WL_r (Rd_move rfl) rfl ?_
 refine WL_r (Rd_ext0 rfl) rfl ?_
 refine WL_r (Rd_ext1 rfl) rfl ?_
 refine WL_ac (Ac_alloc zr27) rfl rfl rfl ?_
 rintro _ _ ⟨b8, rfl, rfl⟩
 refine WL_ac0 (Ac_store (ys := [.int .i64 0, .int .i64 0, .int .i64 0]) rfl rfl sz27 (h1 := by simp [setAt, Value.cells, Value.oneCell']) (hr := rfl)) rfl rfl ?_
 rintro _ _ rfl
 refine WL_r (Rd_assign rfl) rfl ?_
 refine WL_end hK8 ?_
 refine WC_seq fun K9 hK9 => ?_
 refine WC_sr fun K10 hK10 => ?_
 refine WL_r (Rd_move rfl) rfl ?_
 refine WL_ac (Ac_call cf10 rfl (hs := may_ct (X := X) (ps := ps) hS (by omega))) rfl rfl rfl ?_
 rintro _ _ ⟨⟨⟩, rfl, hA⟩
 simp only [List.cons_append, List.nil_append] at hA
 replace hA := hA.symm
 subst hA
 rw [show decide (mayP ps) = true from decide_eq_true h1]
 refine WL_r (Rd_not rfl) rfl ?_
 refine WL_r (Rd_move rfl) rfl ?_
 refine WL_r (Rd_move rfl) rfl ?_
 refine WL_ac (Ac_call cf10 rfl (hs := may_ct (X := arr a23 cap23 2 24 ePr (ps ++ [q])) (ps := (ps ++ [q])) hQ (by simp; omega))) rfl rfl rfl ?_
 rintro _ _ ⟨⟨⟩, rfl, hA⟩
 simp only [List.cons_append, List.nil_append] at hA
 replace hA := hA.symm
 subst hA
 rw [show decide (mayP (ps ++ [q])) = false from decide_eq_false h2]
 refine WL_r (Rd_not rfl) rfl ?_
 refine WL_r (Rd_pickF rfl rfl) rfl ?_
 refine WL_end hK10 ?_
 refine WC_condT rfl ?_
 refine WC_sr fun K11 hK11 => ?_
 refine WL_r (Rd_move rfl) rfl ?_
 refine WL_r (Rd_eqlN (i := 0) (j := 0) rfl rfl) rfl ?_
 refine WL_r (Rd_move rfl) rfl ?_
 refine WL_ac (Ac_call cf10 rfl (hs := may_ct (X := X) (ps := ps) hS (by omega))) rfl rfl rfl ?_
 rintro _ _ ⟨⟨⟩, rfl, hA⟩
 simp only [List.cons_append, List.nil_append] at hA
 replace hA := hA.symm
 subst hA
 rw [show decide (mayP ps) = true from decide_eq_true h1]
 refine WL_r (Rd_valE (v := .bool true) (Rd_beq (p := true) (q := true) rfl rfl ud4) rfl) rfl ?_
 refine WL_r (Rd_move rfl) rfl ?_
 refine WL_r (Rd_move rfl) rfl ?_
 refine WL_r (Rd_eqlN (i := 230) (j := 0) rfl rfl) rfl ?_
 refine WL_r (Rd_move rfl) rfl ?_
 refine WL_ac (Ac_call cf10 rfl (hs := may_ct (X := arr a23 cap23 2 24 ePr (ps ++ [q])) (ps := (ps ++ [q])) hQ (by simp; omega))) rfl rfl rfl ?_
 rintro _ _ ⟨⟨⟩, rfl, hA⟩
 simp only [List.cons_append, List.nil_append] at hA
 replace hA := hA.symm
 subst hA
 rw [show decide (mayP (ps ++ [q])) = false from decide_eq_false h2]
 refine WL_r (Rd_valE (v := .bool true) (Rd_beq (p := false) (q := false) rfl rfl ud4) rfl) rfl ?_
 refine WL_r (Rd_pickT rfl rfl) rfl ?_
 refine WL_r (Rd_assign rfl) rfl ?_
 refine WL_end hK11 ?_
 refine WC_ret ?_
 exact hret.gf () (Rs1 rfl rfl)

theorem grows_nn {X : Asn} {v : Value} {ps : List Pr} {ao : Option Addr} {cap : Nat} {q : Pr} (hS : Sv [X] v 2 ePr ps ao cap) (hn : ps.length ≤ 10000000) (h1 : ¬ mayP ps) (h2 : ¬ mayP (ps ++ [q])) : Ct Try.prog 3 [v, .agg (ePr q).toArray] [X] (fun _ : Unit => .bool true) (fun _ => [X]) := by
 refine Ct_body (n := 126) Try.func3 rfl rfl rfl fun F w0 Q hret hnorm hp => ?_
 change WC _ _ _ _ _ _ _ (_ :: F)
 refine WC_sr fun K1 hK1 => ?_
 refine WL_ac (Ac_box (xs := ePr q) rfl rfl) rfl rfl rfl ?_
 rintro _ _ ⟨b1, rfl, rfl⟩
 refine WL_r (Rd_assign rfl) rfl ?_
 refine WL_end hK1 ?_
 refine WC_seq fun K2 hK2 => ?_
 refine WC_sr fun K3 hK3 => ?_
 refine WL_ac (Ac_call cf8 rfl (hs := lives_ct)) rfl rfl rfl ?_
 rintro _ _ ⟨⟨⟩, rfl, hA⟩
 simp only [List.cons_append, List.nil_append] at hA
 replace hA := hA.symm
 subst hA
 refine WL_r (Rd_not rfl) rfl ?_
 refine WL_end hK3 ?_
 refine WC_condF rfl ?_
 refine WC_skip ?_
 refine Ps_next hK2 ?_
 refine WC_sr fun K4 hK4 => ?_
 refine WL_r (Rd_move rfl) rfl ?_
 refine WL_ac (Ac_call cf9 rfl (hs := Look_no (X := X) (ps := ps) hS (by omega) h1)) rfl rfl rfl ?_
 rintro _ _ ⟨⟨⟩, rfl, hA⟩
 simp only [List.cons_append, List.nil_append] at hA
 replace hA := hA.symm
 subst hA
 refine WL_r (Rd_move rfl) rfl ?_
 refine WL_r (Rd_ext0 rfl) rfl ?_
 refine WL_r (Rd_ext1 rfl) rfl ?_
 refine WL_ac (Ac_alloc zr27) rfl rfl rfl ?_
 rintro _ _ ⟨b5, rfl, rfl⟩
 refine WL_ac0 (Ac_store (ys := [.int .i64 0, .int .i64 0, .int .i64 0]) rfl rfl sz27 (h1 := by simp [setAt, Value.cells, Value.oneCell']) (hr := rfl)) rfl rfl ?_
 rintro _ _ rfl
 refine WL_r (Rd_assign rfl) rfl ?_
 refine WL_end hK4 ?_
 refine WC_sr fun K5 hK5 => ?_
 refine WL_nilarr ePr 2 24 ?_
 refine WL_r (Rd_assign (v := sl none 0 0) rfl) rfl ?_
 refine WL_nilarr ePr 2 24 ?_
 refine WL_end hK5 ?_
 refine WC_sr fun K6 hK6 => ?_
 refine WL_r (Rd_move rfl) rfl ?_
 refine WL_r (Rd_move rfl) rfl ?_
 refine WL_ac (Ac_appendS (f := ePr) encPr rfl rfl ud22 ud22 el24 (a := none) (cap := 0) (l := []) (l2 := ps) (hS := hS) (hb := by rw [List.length_nil]; omega)) rfl rfl rfl ?_
 rintro _ _ ⟨a19, cap19, rfl, rfl⟩
 rw [List.nil_append, show ([] : List Pr).length + ps.length = ps.length from by simp]
 refine WL_r (Rd_assign rfl) rfl ?_
 refine WL_end hK6 ?_
 refine WC_sr fun K7 hK7 => ?_
 refine WL_r (Rd_move rfl) rfl ?_
 refine WL_r (Rd_loadg (vs := ePr q) rfl tk24) rfl ?_
 refine WL_ac (Ac_bs1 (xs := ePr q) rfl ud22 zr24 sz24 (hl := encPr.len _)) rfl rfl rfl ?_
 rintro _ _ ⟨b22, rfl, rfl⟩
 refine WL_ac (Ac_append1 (f := ePr) encPr q rfl rfl ud22 ud22 el24) rfl rfl rfl ?_
 rintro _ _ ⟨a23, cap23, rfl, rfl⟩
 rw [show ps.length + 1 = (ps ++ [q]).length from by simp]
 refine WL_r (Rd_assign rfl) rfl ?_
 refine WL_end hK7 ?_
 refine WC_sr fun K8 hK8 => ?_
 refine WL_r (Rd_move rfl) rfl ?_
 refine WL_fact (fun w h => arr_facts (a := a23) (cap := cap23) (e := 2) (T := 24) (f := ePr) (l := (ps ++ [q])) hasA h) (fun hQf => ?_)
 have hQ : Sv [arr a23 cap23 2 24 ePr (ps ++ [q])] (sl a23 ((ps ++ [q])).length cap23) 2 ePr (ps ++ [q]) ((a23 : Option Nat).map fun g => ⟨g, 0, none⟩) cap23 := Sv_own' encPr hQf.1 hQf.2
 refine WL_ac (Ac_call cf9 rfl (hs := Look_no (X := arr a23 cap23 2 24 ePr (ps ++ [q])) (ps := (ps ++ [q])) hQ (by simp; omega) h2)) rfl rfl rfl ?_
 rintro _ _ ⟨⟨⟩, rfl, hA⟩
 simp only [List.cons_append, List.nil_append] at hA
 replace hA := hA.symm
 subst hA
 refine WL_r (Rd_move rfl) rfl ?_
 refine WL_r (Rd_ext0 rfl) rfl ?_
 refine WL_r (Rd_ext1 rfl) rfl ?_
 refine WL_ac (Ac_alloc zr27) rfl rfl rfl ?_
 rintro _ _ ⟨b8, rfl, rfl⟩
 refine WL_ac0 (Ac_store (ys := [.int .i64 0, .int .i64 0, .int .i64 0]) rfl rfl sz27 (h1 := by simp [setAt, Value.cells, Value.oneCell']) (hr := rfl)) rfl rfl ?_
 rintro _ _ rfl
 refine WL_r (Rd_assign rfl) rfl ?_
 refine WL_end hK8 ?_
 refine WC_seq fun K9 hK9 => ?_
 refine WC_sr fun K10 hK10 => ?_
 refine WL_r (Rd_move rfl) rfl ?_
 refine WL_ac (Ac_call cf10 rfl (hs := may_ct (X := X) (ps := ps) hS (by omega))) rfl rfl rfl ?_
 rintro _ _ ⟨⟨⟩, rfl, hA⟩
 simp only [List.cons_append, List.nil_append] at hA
 replace hA := hA.symm
 subst hA
 rw [show decide (mayP ps) = false from decide_eq_false h1]
 refine WL_r (Rd_not rfl) rfl ?_
 refine WL_r (Rd_move rfl) rfl ?_
 refine WL_skip rfl rfl rfl ?_
 refine WL_skip rfl rfl rfl ?_
 refine WL_skip rfl rfl rfl ?_
 refine WL_r (Rd_pickT rfl rfl) rfl ?_
 refine WL_end hK10 ?_
 refine WC_condT rfl ?_
 refine WC_sr fun K11 hK11 => ?_
 refine WL_r (Rd_move rfl) rfl ?_
 refine WL_r (Rd_eqlN (i := 230) (j := 0) rfl rfl) rfl ?_
 refine WL_r (Rd_move rfl) rfl ?_
 refine WL_ac (Ac_call cf10 rfl (hs := may_ct (X := X) (ps := ps) hS (by omega))) rfl rfl rfl ?_
 rintro _ _ ⟨⟨⟩, rfl, hA⟩
 simp only [List.cons_append, List.nil_append] at hA
 replace hA := hA.symm
 subst hA
 rw [show decide (mayP ps) = false from decide_eq_false h1]
 refine WL_r (Rd_valE (v := .bool true) (Rd_beq (p := false) (q := false) rfl rfl ud4) rfl) rfl ?_
 refine WL_r (Rd_move rfl) rfl ?_
 refine WL_r (Rd_move rfl) rfl ?_
 refine WL_r (Rd_eqlN (i := 230) (j := 0) rfl rfl) rfl ?_
 refine WL_r (Rd_move rfl) rfl ?_
 refine WL_ac (Ac_call cf10 rfl (hs := may_ct (X := arr a23 cap23 2 24 ePr (ps ++ [q])) (ps := (ps ++ [q])) hQ (by simp; omega))) rfl rfl rfl ?_
 rintro _ _ ⟨⟨⟩, rfl, hA⟩
 simp only [List.cons_append, List.nil_append] at hA
 replace hA := hA.symm
 subst hA
 rw [show decide (mayP (ps ++ [q])) = false from decide_eq_false h2]
 refine WL_r (Rd_valE (v := .bool true) (Rd_beq (p := false) (q := false) rfl rfl ud4) rfl) rfl ?_
 refine WL_r (Rd_pickT rfl rfl) rfl ?_
 refine WL_r (Rd_assign rfl) rfl ?_
 refine WL_end hK11 ?_
 refine WC_ret ?_
 exact hret.gf () (Rs1 rfl rfl)

theorem grows_ct {X : Asn} {v : Value} {ps : List Pr} {ao : Option Addr} {cap : Nat} {q : Pr} (hS : Sv [X] v 2 ePr ps ao cap) (hn : ps.length ≤ 10000000) : Ct Try.prog 3 [v, .agg (ePr q).toArray] [X] (fun _ : Unit => .bool true) (fun _ => [X]) := by
  by_cases h2 : mayP (ps ++ [q])
  · exact grows_yy hS hn (may_of h2) h2
  · by_cases h1 : mayP ps
    · exact grows_yn hS hn h1 h2
    · exact grows_nn hS hn h1 h2
end Go.Proofs.Ytilmiikfjcdllaa
