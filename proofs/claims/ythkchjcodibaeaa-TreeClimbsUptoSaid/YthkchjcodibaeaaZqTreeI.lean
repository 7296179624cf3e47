/-
  Contracts of functions that the claim reaches, or the logic and the plain laws that they rest on, or the row over them. (Conditions: none beyond the statement.)
-/
import Derived.Test.YthkchjcodibaeaaZqTreeH
import Derived.Test.YthkchjcodibaeaaZqTreeG
set_option linter.all false
namespace Go.Proofs.Ythkchjcodibaeaa
open Go.RowKit Go.SL Go.ShM
set_option maxHeartbeats 1000000
set_option maxRecDepth 20000
set_option linter.all false
theorem cf39 : cfn Try.prog 39 = true := by kernel_rfl
theorem cf65 : cfn Try.prog 65 = true := by kernel_rfl
theorem mem_getD {l : List Nat} {i : Nat} (h : i < l.length) : l.getD i 0 ∈ l := by
  rw [List.getD_eq_getElem?_getD, List.getElem?_eq_getElem h]; exact List.getElem_mem h
theorem chD_step {ns : List Dg} {l : List Nat} {j : Nat} (h : j < l.length) : chD ns (l.take j) ++ [ns.getD (l.getD j 0 - 1) zD] = chD ns (l.take (j + 1)) := by
  rw [← chD_snoc, List.getD_eq_getElem?_getD, List.getElem?_eq_getElem h]; simp
theorem chD_stepL {ns : List Dg} {l : List Nat} {j : Nat} (h : j < l.length) : (chD ns (l.take j)).length + 1 = (chD ns (l.take (j + 1))).length := by
  rw [← chD_step h]; simp

theorem TreeClimbs_ct {X : Asn} {v : Value} {ls : List Dg} {ao : Option Addr} {cap2 : Nat} {x : Int} (hS : Sv [X] v 32 fD ls ao cap2 := by assumption) (hln : ls.length ≤ 900000000000 := by omega) : Ct Try.prog 17 [v, .int .i64 x] [X] (fun _ : Unit => .bool true) (fun _ => [X]) := by
  refine Ct_body (n := 150) Try.func17 rfl rfl rfl fun F w0 Q hret hnorm hp => ?_
  change WC _ _ _ _ _ _ _ (_ :: F)
  have hrl := Dg_len (rootM ls)
  have hz32 : (List.replicate 32 0#8).length = 32 := rfl
  refine WC_sr fun K1 hK1 => ?_
  refine WL_rd (Rd_assign rfl) rfl rfl rfl ?_
  refine WL_end hK1 ?_
  refine WC_seq fun K2 hK2 => ?_
  refine WC_sr fun K3 hK3 => ?_
  refine WL_ac (Ac_call cf53 rfl (hs := trlives_ct)) rfl rfl rfl ?_
  rintro _ _ ⟨⟨⟩, rfl, hA⟩
  simp only [List.cons_append, List.nil_append] at hA
  replace hA := hA.symm
  subst hA
  refine WL_rd (Rd_not rfl) rfl rfl rfl ?_
  refine WL_end hK3 ?_
  refine WC_condF rfl ?_
  refine WC_skip ?_
  refine Ps_next hK2 ?_
  refine WC_sr fun K4 hK4 => ?_
  refine WL_rd (Rd_move rfl) rfl rfl rfl ?_
  refine WL_ac (Ac_call cf54 rfl (hs := build_ct (X := X) (ls := ls) (hS := hS))) rfl rfl rfl ?_
  rintro _ _ ⟨⟨a23, cap23⟩, rfl, hA⟩
  simp only [List.cons_append, List.nil_append] at hA
  replace hA := hA.symm
  subst hA
  refine WL_rd (Rd_move rfl) rfl rfl rfl ?_
  refine WL_rd (Rd_ext0 rfl) rfl rfl rfl ?_
  refine WL_rd (Rd_ext1 rfl) rfl rfl rfl ?_
  refine WL_rd (Rd_assign rfl) rfl rfl rfl ?_
  refine WL_rd (Rd_assign rfl) rfl rfl rfl ?_
  refine WL_end hK4 ?_
  refine WC_seq fun K5 hK5 => ?_
  refine WC_sr fun K6 hK6 => ?_
  refine WL_rd (Rd_move rfl) rfl rfl rfl ?_
  refine WL_rd (Rd_len_sv rfl rfl ud76) rfl rfl rfl ?_
  refine WL_rd (Rd_lssN (j := 1) rfl rfl) rfl rfl rfl ?_
  refine WL_rd (Rd_move rfl) rfl rfl rfl ?_
  refine WL_bool 29 rfl (fun hg7 => ?_) (fun hg7 => ?_)
  · try simp only [decide_eq_true_eq, decide_eq_false_iff_not, Bool.not_eq_true', Bool.not_eq_false', Bool.not_eq_true, Bool.not_eq_false, Int.not_lt, Int.not_le, Nat.not_lt, Nat.not_le, Decidable.not_not, ne_eq] at hg7
    refine WL_skip rfl rfl rfl ?_
    refine WL_skip rfl rfl rfl ?_
    refine WL_skip rfl rfl rfl ?_
    refine WL_rd (Rd_pickT rfl rfl) rfl rfl rfl ?_
    refine WL_end hK6 ?_
    refine WC_condT rfl ?_
    have hw : wdE ls.length = 110 := by unfold wdE; rw [if_pos (by omega)]
    have hb0 : (bldM ls).length = 0 := by rw [bld_no (by omega)]; rfl
    refine WC_sr fun K8 hK8 => ?_
    refine WL_rd (Rd_move rfl) rfl rfl rfl ?_
    refine WL_rd (Rd_isT (Rd_eqlN (j := 110) rfl rfl) (by rw [hw]; rfl)) rfl rfl rfl ?_
    refine WL_rd (Rd_move rfl) rfl rfl rfl ?_
    refine WL_rd (Rd_move rfl) rfl rfl rfl ?_
    refine WL_rd (Rd_len rfl rfl ud76) rfl rfl rfl ?_
    refine WL_rd (Rd_isT (Rd_eqlN (j := 0) rfl rfl) (by rw [hb0]; rfl)) rfl rfl rfl ?_
    refine WL_rd (Rd_pickT rfl rfl) rfl rfl rfl ?_
    refine WL_rd (Rd_assign rfl) rfl rfl rfl ?_
    refine WL_end hK8 ?_
    refine WC_ret ?_
    first | exact hret.goE () (Rs1 rfl rfl) rfl
  · try simp only [decide_eq_true_eq, decide_eq_false_iff_not, Bool.not_eq_true', Bool.not_eq_false', Bool.not_eq_true, Bool.not_eq_false, Int.not_lt, Int.not_le, Nat.not_lt, Nat.not_le, Decidable.not_not, ne_eq] at hg7
    refine WL_rd (Rd_move rfl) rfl rfl rfl ?_
    refine WL_rd (Rd_len_sv rfl rfl ud76) rfl rfl rfl ?_
    refine WL_rd (Rd_gtrN (j := 512) rfl rfl) rfl rfl rfl ?_
    refine WL_rd (Rd_pickF rfl rfl) rfl rfl rfl ?_
    refine WL_end hK6 ?_
    refine WC_cond rfl (fun hc1 => ?_) (fun hc1 => ?_)
    · try simp only [decide_eq_true_eq, decide_eq_false_iff_not, Bool.not_eq_true', Bool.not_eq_false', Bool.not_eq_true, Bool.not_eq_false, Int.not_lt, Int.not_le, Nat.not_lt, Nat.not_le, Decidable.not_not, ne_eq] at hc1
      have hw : wdE ls.length = 110 := by unfold wdE; rw [if_pos (by omega)]
      have hb0 : (bldM ls).length = 0 := by rw [bld_no (by omega)]; rfl
      refine WC_sr fun K9 hK9 => ?_
      refine WL_rd (Rd_move rfl) rfl rfl rfl ?_
      refine WL_rd (Rd_isT (Rd_eqlN (j := 110) rfl rfl) (by rw [hw]; rfl)) rfl rfl rfl ?_
      refine WL_rd (Rd_move rfl) rfl rfl rfl ?_
      refine WL_rd (Rd_move rfl) rfl rfl rfl ?_
      refine WL_rd (Rd_len rfl rfl ud76) rfl rfl rfl ?_
      refine WL_rd (Rd_isT (Rd_eqlN (j := 0) rfl rfl) (by rw [hb0]; rfl)) rfl rfl rfl ?_
      refine WL_rd (Rd_pickT rfl rfl) rfl rfl rfl ?_
      refine WL_rd (Rd_assign rfl) rfl rfl rfl ?_
      refine WL_end hK9 ?_
      refine WC_ret ?_
      first | exact hret.goE () (Rs1 rfl rfl) rfl
    · try simp only [decide_eq_true_eq, decide_eq_false_iff_not, Bool.not_eq_true', Bool.not_eq_false', Bool.not_eq_true, Bool.not_eq_false, Int.not_lt, Int.not_le, Nat.not_lt, Nat.not_le, Decidable.not_not, ne_eq] at hc1
      have hw : wdE ls.length = 0 := wdE_iff.2 ⟨by omega, by omega⟩
      have hwo := wd_ok (n := ls.length) (by omega) (by omega)
      have hbl := bld_len hw
      have hpl := pickN_lt (x := x) (n := ls.length) (by omega)
      refine WC_some (a := a23) (by repeat (first | with_reducible exact Has.here | with_reducible refine Has.there ?_)) (by omega) (fun g23 hg23 hcp23 => ?_)
      subst hg23
      obtain ⟨hnd, hnm, hmem, hc5, hc4⟩ := climbs_law hw hpl
      obtain ⟨hv1, hv2, hv3⟩ := lv_bld hw
      have hnsl : (chL (ndM (ls.length : Int) ((pickN x ls.length) : Int))).length ≤ 1024 := Nat.le_trans (chL_lenle _) (nd_le _ _)
      refine WC_skip ?_
      refine Ps_next hK5 ?_
      refine WC_sr fun K10 hK10 => ?_
      refine WL_rd (Rd_move rfl) rfl rfl rfl ?_
      refine WL_ac (Ac_call cf63 rfl (hs := root_ct_ (X := X) (ls := ls) (hS := hS))) rfl rfl rfl ?_
      rintro _ _ ⟨⟨⟩, rfl, hA⟩
      simp only [List.cons_append, List.nil_append] at hA
      replace hA := hA.symm
      subst hA
      refine WL_rd (Rd_move rfl) rfl rfl rfl ?_
      refine WL_rd (Rd_ext0 rfl) rfl rfl rfl ?_
      refine WL_rd (Rd_ext1 rfl) rfl rfl rfl ?_
      refine WL_ac (Ac_allocW (k := .u8) (w := 8) (m := 32) zr42) rfl rfl rfl ?_
      rintro _ _ ⟨b7, rfl, rfl⟩
      refine WL_ac0 (Ac_storeW rfl rfl sz42) rfl rfl ?_
      rintro _ _ rfl
      refine WL_rd (Rd_assign rfl) rfl rfl rfl ?_
      refine WL_end hK10 ?_
      refine WC_sr fun K11 hK11 => ?_
      refine WL_rd (Rd_move rfl) rfl rfl rfl ?_
      refine WL_rd (Rd_move rfl) rfl rfl rfl ?_
      refine WL_rd (Rd_len_sv rfl rfl ud76) rfl rfl rfl ?_
      refine WL_ac (Ac_call cf39 rfl (hs := pick_ct (x := x) (n := ls.length))) rfl rfl rfl ?_
      rintro _ _ ⟨⟨⟩, rfl, hA⟩
      simp only [List.cons_append, List.nil_append] at hA
      replace hA := hA.symm
      subst hA
      refine WL_rd (Rd_assign rfl) rfl rfl rfl ?_
      refine WL_end hK11 ?_
      refine WC_sr fun K12 hK12 => ?_
      refine WL_rd (Rd_move rfl) rfl rfl rfl ?_
      refine WL_rd (Rd_len_sv rfl rfl ud76) rfl rfl rfl ?_
      refine WL_rd (Rd_move rfl) rfl rfl rfl ?_
      refine WL_ac (Ac_call cf64 rfl (hs := chain_ct (n := (ls.length : Int)) (l := ((pickN x ls.length) : Int)))) rfl rfl rfl ?_
      rintro _ _ ⟨⟨a54, cap54⟩, rfl, hA⟩
      simp only [List.cons_append, List.nil_append] at hA
      replace hA := hA.symm
      subst hA
      refine WL_rd (Rd_move rfl) rfl rfl rfl ?_
      refine WL_rd (Rd_ext0 rfl) rfl rfl rfl ?_
      refine WL_rd (Rd_ext1 rfl) rfl rfl rfl ?_
      refine WL_rd (Rd_assign rfl) rfl rfl rfl ?_
      refine WL_rd (Rd_assign rfl) rfl rfl rfl ?_
      refine WL_end hK12 ?_
      refine WC_seq fun K13 hK13 => ?_
      refine WC_seq fun K14 hK14 => ?_
      refine WC_drawA mix (fun i => ([2, 2, 2, 2, 2, 2, 2, 2, 2, 2, 2, 2, 2, 2, 2, 2, 2, 2, 2, 2, 2, 2] : List Nat).getD i 0) ?_
      refine WJ_takeP 0 rfl (by kernel_rfl) (Rd_move rfl) rfl rfl rfl (hp _ _) ?_
      refine WJ_takeP 1 rfl (by kernel_rfl) (Rd_isF (Rd_neqN (j := 0) rfl rfl) (by rw [hw]; rfl)) rfl rfl rfl (hp _ _) ?_
      refine WJ_takeP 2 rfl (by kernel_rfl) (Rd_move rfl) rfl rfl rfl (hp _ _) ?_
      refine WJ_takeP 3 rfl (by kernel_rfl) (Rd_move rfl) rfl rfl rfl (hp _ _) ?_
      refine WJ_takeP 4 rfl (by kernel_rfl) (Rd_isF (Rd_neqN (j := 0) rfl rfl) (by rw [hw]; rfl)) rfl rfl rfl (hp _ _) ?_
      refine WJ_takeP 5 rfl (by kernel_rfl) (Rd_pickF rfl rfl) rfl rfl rfl (hp _ _) ?_
      refine WJ_takeP 6 rfl (by kernel_rfl) (Rd_move rfl) rfl rfl rfl (hp _ _) ?_
      refine WJ_takeP 7 rfl (by kernel_rfl) (Rd_move rfl) rfl rfl rfl (hp _ _) ?_
      refine WJ_takeP 8 rfl (by kernel_rfl) (Rd_isF (Rd_neqN (j := 0) rfl rfl) (by rw [hnd]; rfl)) rfl rfl rfl (hp _ _) ?_
      refine WJ_takeP 9 rfl (by kernel_rfl) (Rd_pickF rfl rfl) rfl rfl rfl (hp _ _) ?_
      refine WJ_takeP 10 rfl (by kernel_rfl) (Rd_move rfl) rfl rfl rfl (hp _ _) ?_
      refine WJ_takeP 11 rfl (by kernel_rfl) (Rd_move rfl) rfl rfl rfl (hp _ _) ?_
      refine WJ_takeP 12 rfl (by kernel_rfl) (Rd_len rfl rfl ud76) rfl rfl rfl (hp _ _) ?_
      refine WJ_takeP 13 rfl (by kernel_rfl) (Rd_isF (Rd_lssN (j := 1) rfl rfl) (by exact decide_eq_false (by omega))) rfl rfl rfl (hp _ _) ?_
      refine WJ_takeP 14 rfl (by kernel_rfl) (Rd_pickF rfl rfl) rfl rfl rfl (hp _ _) ?_
      refine WJ_takeP 15 rfl (by kernel_rfl) (Rd_move rfl) rfl rfl rfl (hp _ _) ?_
      refine WJ_takeP 16 rfl (by kernel_rfl) (Rd_move rfl) rfl rfl rfl (hp _ _) ?_
      refine WJ_takeP 17 rfl (by kernel_rfl) (Rd_index 0 rfl rfl ud76 sz42) rfl rfl rfl (hp _ _) ?_
      refine WJ_tk 18 (Rd_aU (k := .u8) (l := (((bldM ls)).getD (0) zD).1) (Rd_loadg_arr (i := 0) rfl tk42 (hl := at_of (by omega))) rfl) hp ?_ rfl (by kernel_rfl) rfl rfl rfl
      refine WJ_tk 19 (Rd_loadW rfl tk42) hp ?_ rfl (by kernel_rfl) rfl rfl rfl
      refine WJ_takeP 20 rfl (by kernel_rfl) (Rd_isF (Rd_neW (l := ((bldM ls).getD 0 zD).1) (l' := (rootM ls).1) rfl rfl ais42 (Dg_len _) (Dg_len _)) (by simp [rootM])) rfl rfl rfl (hp _ _) ?_
      refine WJ_takeP 21 rfl (by kernel_rfl) (Rd_pickF rfl rfl) rfl rfl rfl (hp _ _) ?_
      refine WJ_done (by kernel_rfl) ?_
      refine Ps_next hK14 ?_
      refine WC_condF rfl ?_
      refine WC_skip ?_
      refine Ps_next hK13 ?_
      refine WC_sr fun K15 hK15 => ?_
      refine WL_rd (Rd_assign (v := sl none 0 0) rfl) rfl rfl rfl ?_
      refine WL_nilarr fD 32 42 ?_
      refine WL_end hK15 ?_
      refine WC_seq fun K16 hK16 => ?_
      refine WC_sr fun K17 hK17 => ?_
      refine WL_rd (Rd_assign rfl) rfl rfl rfl ?_
      refine WL_end hK17 ?_
      refine WC_block ?_
      rw [show arr none 0 32 42 fD ([] : List Dg) = arr none 0 32 42 fD (chD (bldM ls) ((chL (ndM (ls.length : Int) ((pickN x ls.length) : Int))).take 0)) from rfl]
      refine WC_loopK (σ := Nat × (Option Nat) × Nat) (fun ⟨j', a', cap'⟩ => [(12, sl a' (chD (bldM ls) ((chL (ndM (ls.length : Int) ((pickN x ls.length) : Int))).take j')).length cap'), (13, .int .i64 ((j' : Nat) : Int))]) (fun ⟨j', a', cap'⟩ => [arr a' cap' 32 42 fD (chD (bldM ls) ((chL (ndM (ls.length : Int) ((pickN x ls.length) : Int))).take j'))]) (fun ⟨j', a', cap'⟩ => j' ≤ (chL (ndM (ls.length : Int) ((pickN x ls.length) : Int))).length) (fun ⟨j', a', cap'⟩ => (chL (ndM (ls.length : Int) ((pickN x ls.length) : Int))).length - j') ⟨0, none, 0⟩ [0, 5, 7, 9, 10, 14, 15, 16, 17, 18, 110, 111, 112, 113, 114, 115, 116, 117, 118, 119, 120, 121, 122, 123, 124, 125, 126, 127, 128, 129, 130, 131, 132, 133, 134, 135, 136, 137, 138, 139, 140, 141, 142, 143, 144, 145, 146, 147, 148, 149] (by repeat (first | exact Kep.nil | apply Kep.drop rfl | apply Kep.keep rfl)) (by (try dsimp only); repeat (first | with_reducible exact Gv.nil | (with_reducible apply Gv.cons; · (repeat (first | with_reducible exact Ext.here | with_reducible apply Ext.there))))) ?_ ?_ Sub.refl ?_
      · exact Nat.zero_le _
      · (try dsimp only); exact (Wk.cons (by first | rfl | (simp only [List.length_append, List.length_cons, List.length_nil, List.length_replicate, Nat.zero_add]; rfl) | (simp; done)) (Wk.cons (by first | rfl | (simp only [List.length_append, List.length_cons, List.length_nil, List.length_replicate, Nat.zero_add]; rfl) | (simp; done)) Wk.nil))
      · rintro ⟨j', a', cap'⟩ hj K18 hK18
        simp only [List.cons_append, List.nil_append]
        refine WC_seq fun K19 hK19 => ?_
        refine WC_sr fun K20 hK20 => ?_
        refine WL_rd (Rd_move rfl) rfl rfl rfl ?_
        refine WL_rd (Rd_move rfl) rfl rfl rfl ?_
        refine WL_rd (Rd_len rfl rfl ud101) rfl rfl rfl ?_
        refine WL_rd (Rd_lssN rfl rfl) rfl rfl rfl ?_
        refine WL_end hK20 ?_
        refine WC_cond rfl (fun hc3 => ?_) (fun hc3 => ?_)
        · try simp only [decide_eq_true_eq, decide_eq_false_iff_not, Bool.not_eq_true', Bool.not_eq_false', Bool.not_eq_true, Bool.not_eq_false, Int.not_lt, Int.not_le, Nat.not_lt, Nat.not_le, Decidable.not_not, ne_eq] at hc3
          refine WC_some (a := a54) (by repeat (first | with_reducible exact Has.here | with_reducible refine Has.there ?_)) (by omega) (fun g54 hg54 hcp54 => ?_)
          subst hg54
          have hnx := hmem _ (mem_getD hc3)
          have hun := Dg_len ((bldM ls).getD ((chL (ndM (ls.length : Int) ((pickN x ls.length) : Int))).getD j' 0 - 1) zD)
          have hcl0 : (chD (bldM ls) ((chL (ndM (ls.length : Int) ((pickN x ls.length) : Int))).take j')).length = j' := by rw [chD_len, List.length_take]; omega
          refine WC_skip ?_
          refine Ps_next hK19 ?_
          refine WC_seq fun K21 hK21 => ?_
          refine WC_block ?_
          refine WC_seq fun K22 hK22 => ?_
          refine WC_sr fun K23 hK23 => ?_
          refine WL_rd (Rd_move rfl) rfl rfl rfl ?_
          refine WL_rd (Rd_move rfl) rfl rfl rfl ?_
          refine WL_rd (Rd_index j' rfl rfl ud101 sz3 (hj := by omega)) rfl rfl rfl ?_
          refine WL_rd (Rd_load_arr (i := j') (j := 0) rfl tk3 (hl := at_N (by omega))) rfl rfl rfl ?_
          refine WL_rd (Rd_isF (Rd_lssN (j := 1) rfl rfl) (by exact decide_eq_false (by omega))) rfl rfl rfl ?_
          refine WL_rd (Rd_move rfl) rfl rfl rfl ?_
          refine WL_rd (Rd_move rfl) rfl rfl rfl ?_
          refine WL_rd (Rd_move rfl) rfl rfl rfl ?_
          refine WL_rd (Rd_index j' rfl rfl ud101 sz3 (hj := by omega)) rfl rfl rfl ?_
          refine WL_rd (Rd_load_arr (i := j') (j := 0) rfl tk3 (hl := at_N (by omega))) rfl rfl rfl ?_
          refine WL_rd (Rd_move rfl) rfl rfl rfl ?_
          refine WL_rd (Rd_len rfl rfl ud76) rfl rfl rfl ?_
          refine WL_rd (Rd_isF (Rd_gtrN rfl rfl) (by exact decide_eq_false (by omega))) rfl rfl rfl ?_
          refine WL_rd (Rd_pickF rfl rfl) rfl rfl rfl ?_
          refine WL_end hK23 ?_
          refine WC_condF rfl ?_
          refine WC_skip ?_
          refine Ps_next hK22 ?_
          refine WC_region ?_
          refine WL_rd (Rd_move rfl) rfl rfl rfl ?_
          refine WL_rd (Rd_move rfl) rfl rfl rfl ?_
          refine WL_rd (Rd_move rfl) rfl rfl rfl ?_
          refine WL_rd (Rd_move rfl) rfl rfl rfl ?_
          refine WL_rd (Rd_index j' rfl rfl ud101 sz3 (hj := by omega)) rfl rfl rfl ?_
          refine WL_rd (Rd_load_arr (i := j') (j := 0) rfl tk3 (hl := at_N (by omega))) rfl rfl rfl ?_
          refine WL_rd (Rd_subN (j := 1) rfl rfl) rfl rfl rfl ?_
          refine WL_rd (Rd_index ((chL (ndM (ls.length : Int) ((pickN x ls.length) : Int))).getD j' 0 - 1) rfl rfl ud76 sz42 (hj := by omega)) rfl rfl rfl ?_
          refine WL_rd (Rd_aU (k := .u8) (l := (((bldM ls)).getD ((chL (ndM (ls.length : Int) ((pickN x ls.length) : Int))).getD j' 0 - 1) zD).1) (Rd_loadg_arr (i := (chL (ndM (ls.length : Int) ((pickN x ls.length) : Int))).getD j' 0 - 1) rfl tk42 (hl := at_of (by omega))) rfl) rfl rfl rfl ?_
          refine WL_ac (Ac_bs1 (xs := fD ((bldM ls).getD ((chL (ndM (ls.length : Int) ((pickN x ls.length) : Int))).getD j' 0 - 1) zD)) rfl ud76 zr42 sz42 (hl := encD.len _)) rfl rfl rfl ?_
          rintro _ _ ⟨b108, rfl, rfl⟩
          refine WL_ac (Ac_append1 (f := fD) encD ((bldM ls).getD ((chL (ndM (ls.length : Int) ((pickN x ls.length) : Int))).getD j' 0 - 1) zD) rfl rfl ud76 ud76 el42) rfl rfl rfl ?_
          rintro _ _ ⟨a109, cap109, rfl, rfl⟩
          rw [chD_step hc3, chD_stepL hc3]
          refine WL_rd (Rd_assign rfl) rfl rfl rfl ?_
          refine WL_nil ?_
          refine Ps_next hK21 ?_
          refine WC_region ?_
          refine WL_rd (Rd_move rfl) rfl rfl rfl ?_
          refine WL_rd (Rd_addN (j := 1) rfl rfl) rfl rfl rfl ?_
          refine WL_rd (Rd_assign rfl) rfl rfl rfl ?_
          refine WL_nil ?_
          refine Ps_wk (by (try simp only [List.cons_append, List.nil_append]); repeat (first | with_reducible exact Wk.nil | refine Wk.cons (by first | rfl | (simp only [List.length_append, List.length_cons, List.length_nil, List.length_replicate, Nat.zero_add]; rfl) | (simp; done)) ?_)) (by (try simp only [List.cons_append, List.nil_append]); repeat (first | with_reducible exact Sub.refl | with_reducible exact Sub.nil | with_reducible refine Sub.cons (by repeat (first | with_reducible exact Ext.here | with_reducible apply Ext.there)) ?_ | with_reducible refine Sub.tail ?_)) (hK18 ⟨j' + 1, a109, cap109⟩ (by (try dsimp only); omega) (by (try dsimp only); omega))
        · try simp only [decide_eq_true_eq, decide_eq_false_iff_not, Bool.not_eq_true', Bool.not_eq_false', Bool.not_eq_true, Bool.not_eq_false, Int.not_lt, Int.not_le, Nat.not_lt, Nat.not_le, Decidable.not_not, ne_eq] at hc3
          obtain rfl : j' = (chL (ndM (ls.length : Int) ((pickN x ls.length) : Int))).length := by omega
          rw [List.take_length]
          have hcl1 : (chD (bldM ls) (chL (ndM (ls.length : Int) ((pickN x ls.length) : Int)))).length = (chL (ndM (ls.length : Int) ((pickN x ls.length) : Int))).length := chD_len _ _
          have hde := Dg_len (ls.getD (pickN x ls.length) zD)
          refine WC_exit ?_
          refine Ps_next hK16 ?_
          refine WC_sr fun K24 hK24 => ?_
          refine WL_rd (Rd_move rfl) rfl rfl rfl ?_
          refine WL_rd (Rd_len_sv rfl rfl ud76) rfl rfl rfl ?_
          refine WL_rd (Rd_move rfl) rfl rfl rfl ?_
          refine WL_rd (Rd_move rfl) rfl rfl rfl ?_
          refine WL_rd (Rd_move rfl) rfl rfl rfl ?_
          refine WL_rd (Rd_index_sv ((pickN x ls.length)) rfl rfl ud76 sz42 (hA := hS) (hj := by omega) (hi := by omega)) rfl rfl rfl ?_
          refine WL_rd (Rd_aU (k := .u8) (l := ((ls).getD ((pickN x ls.length)) zD).1) (Rd_loadg_sv (i := (pickN x ls.length)) rfl tk42 (hA := hS) (hl := at_of (by omega))) rfl) rfl rfl rfl ?_
          refine WL_rd (Rd_move rfl) rfl rfl rfl ?_
          refine WL_fact (fun w h => arr_facts (a := a') (cap := cap') (e := 32) (T := 42) (f := fD) (l := (chD (bldM ls) (chL (ndM (ls.length : Int) ((pickN x ls.length) : Int))))) (by repeat (first | with_reducible exact Has.here | with_reducible refine Has.there ?_)) h) (fun hScf => ?_)
          have hSc : Sv [arr a' cap' 32 42 fD (chD (bldM ls) (chL (ndM (ls.length : Int) ((pickN x ls.length) : Int))))] (sl a' (chD (bldM ls) (chL (ndM (ls.length : Int) ((pickN x ls.length) : Int)))).length cap') 32 fD (chD (bldM ls) (chL (ndM (ls.length : Int) ((pickN x ls.length) : Int)))) (a'.map fun g => ⟨g, 0, none⟩) cap' := Sv_own' encD hScf.1 hScf.2
          refine WL_ac (Ac_call cf59 rfl (hs := climb_ct (X := arr a' cap' 32 42 fD (chD (bldM ls) (chL (ndM (ls.length : Int) ((pickN x ls.length) : Int))))) (cs := (chD (bldM ls) (chL (ndM (ls.length : Int) ((pickN x ls.length) : Int))))) (n := (ls.length : Int)) (l := ((pickN x ls.length) : Int)) (d := ls.getD (pickN x ls.length) zD) (hS := hSc) (hcl := by omega))) rfl rfl rfl ?_
          rintro _ _ ⟨⟨⟩, rfl, hA⟩
          simp only [List.cons_append, List.nil_append] at hA
          replace hA := hA.symm
          subst hA
          rw [hc4, hc5]
          refine WL_rd (Rd_move rfl) rfl rfl rfl ?_
          refine WL_rd (Rd_ext0 rfl) rfl rfl rfl ?_
          refine WL_rd (Rd_ext1 rfl) rfl rfl rfl ?_
          refine WL_ac (Ac_allocW (k := .u8) (w := 8) (m := 32) zr42) rfl rfl rfl ?_
          rintro _ _ ⟨b14, rfl, rfl⟩
          refine WL_ac0 (Ac_storeW rfl rfl sz42) rfl rfl ?_
          rintro _ _ rfl
          refine WL_rd (Rd_assign rfl) rfl rfl rfl ?_
          refine WL_end hK24 ?_
          refine WC_sr fun K25 hK25 => ?_
          refine WL_rd (Rd_move rfl) rfl rfl rfl ?_
          refine WL_rd (Rd_len_sv rfl rfl ud76) rfl rfl rfl ?_
          refine WL_rd (Rd_move rfl) rfl rfl rfl ?_
          refine WL_fact (fun w h => arr_facts (a := (some g23)) (cap := cap23) (e := 32) (T := 42) (f := fD) (l := (bldM ls)) (by repeat (first | with_reducible exact Has.here | with_reducible refine Has.there ?_)) h) (fun hSbf => ?_)
          have hSb : Sv [arr (some g23) cap23 32 42 fD (bldM ls)] (sl (some g23) (bldM ls).length cap23) 32 fD (bldM ls) ((some g23).map fun g => ⟨g, 0, none⟩) cap23 := Sv_own' encD hSbf.1 hSbf.2
          refine WL_ac (Ac_call cf65 rfl (hs := leaves_ct (X := arr (some g23) cap23 32 42 fD (bldM ls)) (n := ls.length) (ls := (bldM ls)) (hS := hSb))) rfl rfl rfl ?_
          rintro _ _ ⟨⟨a126, cap126⟩, rfl, hA⟩
          simp only [List.cons_append, List.nil_append] at hA
          replace hA := hA.symm
          subst hA
          rw [hv1, hv2, hv3]
          refine WL_rd (Rd_move rfl) rfl rfl rfl ?_
          refine WL_rd (Rd_ext0 rfl) rfl rfl rfl ?_
          refine WL_rd (Rd_ext1 rfl) rfl rfl rfl ?_
          refine WL_rd (Rd_ext2 rfl) rfl rfl rfl ?_
          refine WL_rd (Rd_assign rfl) rfl rfl rfl ?_
          refine WL_rd (Rd_assign rfl) rfl rfl rfl ?_
          refine WL_rd (Rd_assign rfl) rfl rfl rfl ?_
          refine WL_end hK25 ?_
          refine WC_sr fun K26 hK26 => ?_
          refine WL_rd (Rd_move rfl) rfl rfl rfl ?_
          refine WL_rd (Rd_eqlN (i := 0) (j := 0) rfl rfl) rfl rfl rfl ?_
          refine WL_rd (Rd_move rfl) rfl rfl rfl ?_
          refine WL_rd (Rd_loadW rfl tk42) rfl rfl rfl ?_
          refine WL_rd (Rd_loadW rfl tk42) rfl rfl rfl ?_
          refine WL_rd (Rd_isT (Rd_eqW rfl rfl ais42) (by simp)) rfl rfl rfl ?_
          refine WL_rd (Rd_pickT rfl rfl) rfl rfl rfl ?_
          refine WL_rd (Rd_move rfl) rfl rfl rfl ?_
          refine WL_rd (Rd_move rfl) rfl rfl rfl ?_
          refine WL_rd (Rd_eqlN (i := 0) (j := 0) rfl rfl) rfl rfl rfl ?_
          refine WL_rd (Rd_pickT rfl rfl) rfl rfl rfl ?_
          refine WL_rd (Rd_move rfl) rfl rfl rfl ?_
          refine WL_rd (Rd_move rfl) rfl rfl rfl ?_
          refine WL_rd (Rd_eqlN (i := 0) (j := 0) rfl rfl) rfl rfl rfl ?_
          refine WL_rd (Rd_pickT rfl rfl) rfl rfl rfl ?_
          refine WL_rd (Rd_move rfl) rfl rfl rfl ?_
          refine WL_rd (Rd_move rfl) rfl rfl rfl ?_
          refine WL_rd (Rd_move rfl) rfl rfl rfl ?_
          refine WL_fact (fun w h => arr_facts (a := a126) (cap := cap126) (e := 32) (T := 42) (f := fD) (l := ls) (by repeat (first | with_reducible exact Has.here | with_reducible refine Has.there ?_)) h) (fun hSdf => ?_)
          have hSd : Sv [arr a126 cap126 32 42 fD ls] (sl a126 ls.length cap126) 32 fD ls (a126.map fun g => ⟨g, 0, none⟩) cap126 := Sv_own' encD hSdf.1 hSdf.2
          refine WL_ac (Ac_call cf56 rfl (hs := Ct.un0 (Xs := [arr a126 cap126 32 42 fD ls, X]) (sameD_ct (X := sep [arr a126 cap126 32 42 fD ls, X]) (l := ls) (l' := ls) (hS := hSd.pk (by repeat (first | with_reducible exact Has.here | with_reducible refine Has.there ?_))) (hS' := hS.pk (by repeat (first | with_reducible exact Has.here | with_reducible refine Has.there ?_)))))) rfl rfl rfl ?_
          rintro _ _ ⟨⟨⟩, rfl, hA⟩
          simp only [List.cons_append, List.nil_append] at hA
          replace hA := hA.symm
          subst hA
          rw [show decide (ls = ls) = true from decide_eq_true rfl]
          refine WL_rd (Rd_pickT rfl rfl) rfl rfl rfl ?_
          refine WL_rd (Rd_assign rfl) rfl rfl rfl ?_
          refine WL_end hK26 ?_
          refine WC_ret ?_
          first | exact hret.goE () (Rs1 rfl rfl) rfl
end Go.Proofs.Ythkchjcodibaeaa
