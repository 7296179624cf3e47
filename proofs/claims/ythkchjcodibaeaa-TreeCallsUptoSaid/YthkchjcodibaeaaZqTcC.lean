/-
  Contracts of functions that the claim reaches, or the logic and the plain laws that they rest on, or the row over them. (Conditions: none beyond the statement.)
-/
import Derived.Test.YthkchjcodibaeaaZqTcB
set_option linter.all false
namespace Go.Proofs.Ythkchjcodibaeaa
open Go.RowKit Go.SL Go.ShM
set_option maxHeartbeats 1000000
set_option maxRecDepth 20000
set_option linter.all false
theorem cf117 : cfn Try.prog 117 = true := by kernel_rfl
theorem rClimb_ct {X : Asn} {v : Value} {cs : List Dg} {ao : Option Addr} {cap2 : Nat} {n l : Int} {d : Dg} (hS : Sv [X] v 32 fD cs ao cap2 := by assumption) (hcl : cs.length ≤ 900000000000 := by omega) : Ct Try.prog 118 [.int .i64 n, .int .i64 l, aU .u8 d.1, v] [X] (fun _ : Unit => .tuple #[aU .u8 (clD n l d cs).1, .int .i64 (((clE n l cs) : Nat) : Int)]) (fun _ => [X]) := by
  refine Ct_body (n := 54) Try.func118 rfl rfl rfl fun F w0 Q hret hnorm hp => ?_
  change WC _ _ _ _ _ _ _ (_ :: F)
  have hd0 := Dg_len d
  have hz32 : (List.replicate 32 0#8).length = 32 := rfl
  have hcd := Dg_len (clD n l d cs)
  refine WC_sr fun K1 hK1 => ?_
  refine WL_ac (Ac_boxW (k := .u8) rfl) rfl rfl rfl ?_
  rintro _ _ ⟨b6, rfl, rfl⟩
  refine WL_ac (Ac_allocW (k := .u8) (w := 8) (m := 32) zr42) rfl rfl rfl ?_
  rintro _ _ ⟨b8, rfl, rfl⟩
  refine WL_rd (Rd_assign rfl) rfl rfl rfl ?_
  refine WL_end hK1 ?_
  refine WC_sr fun K2 hK2 => ?_
  refine WL_rd (Rd_move rfl) rfl rfl rfl ?_
  refine WL_rd (Rd_move rfl) rfl rfl rfl ?_
  refine WL_ac (Ac_call cf117 rfl (hs := rChain_ct (n := n) (l := l))) rfl rfl rfl ?_
  rintro _ _ ⟨⟨a17, cap17⟩, rfl, hA⟩
  simp only [List.cons_append, List.nil_append] at hA
  replace hA := hA.symm
  subst hA
  refine WL_rd (Rd_move rfl) rfl rfl rfl ?_
  refine WL_rd (Rd_ext0 rfl) rfl rfl rfl ?_
  refine WL_rd (Rd_ext1 rfl) rfl rfl rfl ?_
  refine WL_rd (Rd_assign rfl) rfl rfl rfl ?_
  refine WL_rd (Rd_assign rfl) rfl rfl rfl ?_
  refine WL_end hK2 ?_
  refine WC_seq fun K3 hK3 => ?_
  refine WC_sr fun K4 hK4 => ?_
  refine WL_rd (Rd_move rfl) rfl rfl rfl ?_
  refine WL_rd (Rd_neqN (j := 0) rfl rfl) rfl rfl rfl ?_
  refine WL_end hK4 ?_
  refine WC_cond rfl (fun hc0 => ?_) (fun hc0 => ?_)
  · try simp only [decide_eq_true_eq, decide_eq_false_iff_not, Bool.not_eq_true', Bool.not_eq_false', Bool.not_eq_true, Bool.not_eq_false, Int.not_lt, Int.not_le, Nat.not_lt, Nat.not_le, Decidable.not_not, ne_eq] at hc0
    have hce := cl_e (c := cs) hc0
    rw [cl_z (d := d) (by omega), hce, show zD.1 = List.replicate 32 0#8 from rfl] at hret
    refine WC_sr fun K5 hK5 => ?_
    refine WL_rd (Rd_aU (k := .u8) (l := (List.replicate 32 0#8)) (Rd_build pls42 rfl) (by rfl)) rfl rfl rfl ?_
    refine WL_rd (Rd_move rfl) rfl rfl rfl ?_
    refine WL_ac0 (Ac_storeW rfl rfl sz42) rfl rfl ?_
    rintro _ _ rfl
    refine WL_rd (Rd_assign rfl) rfl rfl rfl ?_
    refine WL_end hK5 ?_
    refine WC_ret ?_
    first | exact hret.goE () (Rs2cW rfl rfl rfl tk42) rfl
  · try simp only [decide_eq_true_eq, decide_eq_false_iff_not, Bool.not_eq_true', Bool.not_eq_false', Bool.not_eq_true, Bool.not_eq_false, Int.not_lt, Int.not_le, Nat.not_lt, Nat.not_le, Decidable.not_not, ne_eq] at hc0
    refine WC_skip ?_
    refine Ps_next hK3 ?_
    refine WC_seq fun K6 hK6 => ?_
    refine WC_sr fun K7 hK7 => ?_
    refine WL_rd (Rd_move rfl) rfl rfl rfl ?_
    refine WL_rd (Rd_len rfl rfl ud101) rfl rfl rfl ?_
    refine WL_rd (Rd_move rfl) rfl rfl rfl ?_
    refine WL_rd (Rd_len_sv rfl rfl ud76) rfl rfl rfl ?_
    refine WL_rd (Rd_neqN rfl rfl) rfl rfl rfl ?_
    refine WL_end hK7 ?_
    refine WC_cond rfl (fun hc1 => ?_) (fun hc1 => ?_)
    · try simp only [decide_eq_true_eq, decide_eq_false_iff_not, Bool.not_eq_true', Bool.not_eq_false', Bool.not_eq_true, Bool.not_eq_false, Int.not_lt, Int.not_le, Nat.not_lt, Nat.not_le, Decidable.not_not, ne_eq] at hc1
      have hce := cl_l (c := cs) hc0 hc1
      rw [cl_z (d := d) (by omega), hce, show zD.1 = List.replicate 32 0#8 from rfl] at hret
      refine WC_sr fun K8 hK8 => ?_
      refine WL_rd (Rd_aU (k := .u8) (l := (List.replicate 32 0#8)) (Rd_build pls42 rfl) (by rfl)) rfl rfl rfl ?_
      refine WL_ac0 (Ac_storeW rfl rfl sz42) rfl rfl ?_
      rintro _ _ rfl
      refine WL_rd (Rd_assign rfl) rfl rfl rfl ?_
      refine WL_end hK8 ?_
      refine WC_ret ?_
      first | exact hret.goE () (Rs2cW rfl rfl rfl tk42) rfl
    · try simp only [decide_eq_true_eq, decide_eq_false_iff_not, Bool.not_eq_true', Bool.not_eq_false', Bool.not_eq_true, Bool.not_eq_false, Int.not_lt, Int.not_le, Nat.not_lt, Nat.not_le, Decidable.not_not, ne_eq] at hc1
      have hce := cl_0 (c := cs) hc0 hc1
      rw [cl_ok (d := d) hce, hce] at hret
      rw [cl_ok (d := d) hce] at hcd
      refine WC_skip ?_
      refine Ps_next hK6 ?_
      refine WC_seq fun K9 hK9 => ?_
      refine WC_sr fun K10 hK10 => ?_
      refine WL_rd (Rd_assign rfl) rfl rfl rfl ?_
      refine WL_end hK10 ?_
      refine WC_block ?_
      refine WC_loopK (σ := Nat × Dg) (fun ⟨i', dd⟩ => [(12, .int .i64 ((i' : Nat) : Int))]) (fun ⟨i', dd⟩ => [arr (some b6) d.1.length 1 42 (eU .u8) dd.1]) (fun ⟨i', dd⟩ => i' ≤ (chL (ndM n l)).length ∧ clM ((chL (ndM n l)).drop i') (cs.drop i') dd = clM (chL (ndM n l)) cs d) (fun ⟨i', dd⟩ => (chL (ndM n l)).length - i') ⟨0, d⟩ [3, 6, 8, 9, 10, 53] (by repeat (first | exact Kep.nil | apply Kep.drop rfl | apply Kep.keep rfl)) (by (try dsimp only); repeat (first | with_reducible exact Gv.nil | (with_reducible apply Gv.cons; · (repeat (first | with_reducible exact Ext.here | with_reducible apply Ext.there))))) ?_ ?_ Sub.refl ?_
      · exact ⟨Nat.zero_le _, rfl⟩
      · (try dsimp only); exact (Wk.cons (by first | rfl | (simp only [List.length_append, List.length_cons, List.length_nil, List.length_replicate, Nat.zero_add]; rfl) | (simp; done)) Wk.nil)
      · rintro ⟨i', dd⟩ ⟨hi, hinv⟩ K11 hK11
        simp only [List.cons_append, List.nil_append]
        refine WC_seq fun K12 hK12 => ?_
        refine WC_sr fun K13 hK13 => ?_
        refine WL_rd (Rd_move rfl) rfl rfl rfl ?_
        refine WL_rd (Rd_move rfl) rfl rfl rfl ?_
        refine WL_rd (Rd_len rfl rfl ud101) rfl rfl rfl ?_
        refine WL_rd (Rd_lssN rfl rfl) rfl rfl rfl ?_
        refine WL_end hK13 ?_
        refine WC_cond rfl (fun hc2 => ?_) (fun hc2 => ?_)
        · try simp only [decide_eq_true_eq, decide_eq_false_iff_not, Bool.not_eq_true', Bool.not_eq_false', Bool.not_eq_true, Bool.not_eq_false, Int.not_lt, Int.not_le, Nat.not_lt, Nat.not_le, Decidable.not_not, ne_eq] at hc2
          refine WC_some (a := a17) (by repeat (first | with_reducible exact Has.here | with_reducible refine Has.there ?_)) (by omega) (fun g17 hg17 hcp17 => ?_)
          subst hg17
          have hdd := Dg_len dd
          have hcc := Dg_len (cs.getD i' zD)
          have hst := cl_step (d := dd) (show i' < (chL (ndM n l)).length by omega) (show i' < cs.length by omega)
          refine WC_skip ?_
          refine Ps_next hK12 ?_
          refine WC_seq fun K14 hK14 => ?_
          refine WC_block ?_
          refine WC_sr fun K15 hK15 => ?_
          refine WL_rd (Rd_move rfl) rfl rfl rfl ?_
          refine WL_rd (Rd_move rfl) rfl rfl rfl ?_
          refine WL_rd (Rd_index i' rfl rfl ud101 sz3 (hj := by omega)) rfl rfl rfl ?_
          refine WL_rd (Rd_load_arr (i := i') (j := 0) rfl tk3 (hl := at_N (by omega))) rfl rfl rfl ?_
          refine WL_rd (Rd_remN (j := 2) rfl rfl) rfl rfl rfl ?_
          refine WL_rd (Rd_eqlN (j := 1) rfl rfl) rfl rfl rfl ?_
          refine WL_end hK15 ?_
          refine WC_cond rfl (fun hc3 => ?_) (fun hc3 => ?_)
          · try simp only [decide_eq_true_eq, decide_eq_false_iff_not, Bool.not_eq_true', Bool.not_eq_false', Bool.not_eq_true, Bool.not_eq_false, Int.not_lt, Int.not_le, Nat.not_lt, Nat.not_le, Decidable.not_not, ne_eq] at hc3
            rw [clA_odd (by omega)] at hst
            have hnn := Dg_len (nodeD dd (cs.getD i' zD))
            refine WC_drawA mix (fun i => ([2, 2, 2, 2, 2, 1, 0] : List Nat).getD i 0) ?_
            refine WJ_tk 0 (Rd_loadW rfl tk42) hp ?_ rfl (by kernel_rfl) rfl rfl rfl
            refine WJ_takeP 1 rfl (by kernel_rfl) (Rd_move rfl) rfl rfl rfl (hp _ _) ?_
            refine WJ_takeP 2 rfl (by kernel_rfl) (Rd_move rfl) rfl rfl rfl (hp _ _) ?_
            refine WJ_takeP 3 rfl (by kernel_rfl) (Rd_index_sv (i') rfl rfl ud76 sz42 (hA := hS) (hj := by omega) (hi := by omega)) rfl rfl rfl (hp _ _) ?_
            refine WJ_tk 4 (Rd_aU (k := .u8) (l := ((cs).getD (i') zD).1) (Rd_loadg_sv (i := i') rfl tk42 (hA := hS) (hl := at_of (by omega))) rfl) hp ?_ rfl (by kernel_rfl) rfl rfl rfl
            refine WJ_all (rs := [5]) (by kernel_rfl) rfl ?_
            refine WI_one ?_
            refine WI_ac rfl (Ac_call cf98 rfl (hs := nodeR_ct (x := dd.1) (y := (cs.getD i' zD).1) (hx := Dg_len _) (hy := Dg_len _))) rfl rfl rfl rfl ?_
            rintro _ _ ⟨⟨⟩, rfl, hA⟩
            simp only [List.cons_append, List.nil_append] at hA
            replace hA := hA.symm
            subst hA
            rw [show tagD 6#8 [dd.1, (cs.getD i' zD).1] = (nodeD dd (cs.getD i' zD)).1 from rfl]
            refine ⟨(fun _ => (by repeat (first | with_reducible exact Sub.refl | with_reducible exact Sub.nil | with_reducible refine Sub.cons (by repeat (first | with_reducible exact Ext.here | with_reducible apply Ext.there)) ?_ | with_reducible refine Sub.tail ?_))), ?_⟩
            refine WJ_all (rs := [6]) (by kernel_rfl) rfl ?_
            refine WI_one ?_
            refine WI_ac0 rfl (Ac_storeW rfl rfl sz42) rfl rfl rfl ?_
            rintro _ _ rfl
            refine ⟨(fun h => by cases h), ?_⟩
            refine WJ_done (by kernel_rfl) ?_
            refine Ps_next hK14 ?_
            refine WC_region ?_
            refine WL_rd (Rd_move rfl) rfl rfl rfl ?_
            refine WL_rd (Rd_addN (j := 1) rfl rfl) rfl rfl rfl ?_
            refine WL_rd (Rd_assign rfl) rfl rfl rfl ?_
            refine WL_nil ?_
            refine Ps_wk (by (try simp only [List.cons_append, List.nil_append]); repeat (first | with_reducible exact Wk.nil | refine Wk.cons (by first | rfl | (simp only [List.length_append, List.length_cons, List.length_nil, List.length_replicate, Nat.zero_add]; rfl) | (simp; done)) ?_)) (by (try simp only [List.cons_append, List.nil_append]); repeat (first | with_reducible exact Sub.refl | with_reducible exact Sub.nil | with_reducible refine Sub.cons (by repeat (first | with_reducible exact Ext.here | with_reducible apply Ext.there)) ?_ | with_reducible refine Sub.tail ?_)) (hK11 ⟨i' + 1, nodeD dd (cs.getD i' zD)⟩ (⟨by (try dsimp only); omega, by (try dsimp only); rw [← hst]; exact hinv⟩) (by (try dsimp only); omega))
          · try simp only [decide_eq_true_eq, decide_eq_false_iff_not, Bool.not_eq_true', Bool.not_eq_false', Bool.not_eq_true, Bool.not_eq_false, Int.not_lt, Int.not_le, Nat.not_lt, Nat.not_le, Decidable.not_not, ne_eq] at hc3
            rw [clA_even (by omega)] at hst
            have hnn := Dg_len (nodeD (cs.getD i' zD) dd)
            refine WC_drawA mix (fun i => ([2, 2, 2, 2, 2, 1, 0] : List Nat).getD i 0) ?_
            refine WJ_takeP 0 rfl (by kernel_rfl) (Rd_move rfl) rfl rfl rfl (hp _ _) ?_
            refine WJ_takeP 1 rfl (by kernel_rfl) (Rd_move rfl) rfl rfl rfl (hp _ _) ?_
            refine WJ_takeP 2 rfl (by kernel_rfl) (Rd_index_sv (i') rfl rfl ud76 sz42 (hA := hS) (hj := by omega) (hi := by omega)) rfl rfl rfl (hp _ _) ?_
            refine WJ_tk 3 (Rd_aU (k := .u8) (l := ((cs).getD (i') zD).1) (Rd_loadg_sv (i := i') rfl tk42 (hA := hS) (hl := at_of (by omega))) rfl) hp ?_ rfl (by kernel_rfl) rfl rfl rfl
            refine WJ_tk 4 (Rd_loadW rfl tk42) hp ?_ rfl (by kernel_rfl) rfl rfl rfl
            refine WJ_all (rs := [5]) (by kernel_rfl) rfl ?_
            refine WI_one ?_
            refine WI_ac rfl (Ac_call cf98 rfl (hs := nodeR_ct (x := (cs.getD i' zD).1) (y := dd.1) (hx := Dg_len _) (hy := Dg_len _))) rfl rfl rfl rfl ?_
            rintro _ _ ⟨⟨⟩, rfl, hA⟩
            simp only [List.cons_append, List.nil_append] at hA
            replace hA := hA.symm
            subst hA
            rw [show tagD 6#8 [(cs.getD i' zD).1, dd.1] = (nodeD (cs.getD i' zD) dd).1 from rfl]
            refine ⟨(fun _ => (by repeat (first | with_reducible exact Sub.refl | with_reducible exact Sub.nil | with_reducible refine Sub.cons (by repeat (first | with_reducible exact Ext.here | with_reducible apply Ext.there)) ?_ | with_reducible refine Sub.tail ?_))), ?_⟩
            refine WJ_all (rs := [6]) (by kernel_rfl) rfl ?_
            refine WI_one ?_
            refine WI_ac0 rfl (Ac_storeW rfl rfl sz42) rfl rfl rfl ?_
            rintro _ _ rfl
            refine ⟨(fun h => by cases h), ?_⟩
            refine WJ_done (by kernel_rfl) ?_
            refine Ps_next hK14 ?_
            refine WC_region ?_
            refine WL_rd (Rd_move rfl) rfl rfl rfl ?_
            refine WL_rd (Rd_addN (j := 1) rfl rfl) rfl rfl rfl ?_
            refine WL_rd (Rd_assign rfl) rfl rfl rfl ?_
            refine WL_nil ?_
            refine Ps_wk (by (try simp only [List.cons_append, List.nil_append]); repeat (first | with_reducible exact Wk.nil | refine Wk.cons (by first | rfl | (simp only [List.length_append, List.length_cons, List.length_nil, List.length_replicate, Nat.zero_add]; rfl) | (simp; done)) ?_)) (by (try simp only [List.cons_append, List.nil_append]); repeat (first | with_reducible exact Sub.refl | with_reducible exact Sub.nil | with_reducible refine Sub.cons (by repeat (first | with_reducible exact Ext.here | with_reducible apply Ext.there)) ?_ | with_reducible refine Sub.tail ?_)) (hK11 ⟨i' + 1, nodeD (cs.getD i' zD) dd⟩ (⟨by (try dsimp only); omega, by (try dsimp only); rw [← hst]; exact hinv⟩) (by (try dsimp only); omega))
        · try simp only [decide_eq_true_eq, decide_eq_false_iff_not, Bool.not_eq_true', Bool.not_eq_false', Bool.not_eq_true, Bool.not_eq_false, Int.not_lt, Int.not_le, Nat.not_lt, Nat.not_le, Decidable.not_not, ne_eq] at hc2
          rw [List.drop_eq_nil_of_le (show (chL (ndM n l)).length ≤ i' by omega), clM_nil] at hinv
          have hdd := Dg_len dd
          refine WC_exit ?_
          refine Ps_next hK9 ?_
          refine WC_sr fun K16 hK16 => ?_
          refine WL_rd (Rd_loadW rfl tk42) rfl rfl rfl ?_
          refine WL_ac0 (Ac_storeW rfl rfl sz42) rfl rfl ?_
          rintro _ _ rfl
          rw [hinv]
          refine WL_rd (Rd_assign rfl) rfl rfl rfl ?_
          refine WL_end hK16 ?_
          refine WC_ret ?_
          first | exact hret.goE () (Rs2cW rfl rfl rfl tk42) rfl

theorem rLeavesN_ct {n : Nat} {X : Asn} {v : Value} {ls : List Dg} {ao : Option Addr} {cap2 : Nat} (hS : Sv [X] v 32 fD ls ao cap2 := by assumption) : Ct Try.prog 119 [.int .i64 ((n : Nat) : Int), v] [X] (fun g : Option Nat × Nat => .tuple #[sl g.1 (lvL n ls).length g.2, .int .i64 (((lvA n ls) : Nat) : Int), .int .i64 (((lvE n ls) : Nat) : Int)]) (fun g => [X, arr g.1 g.2 32 42 fD (lvL n ls)]) := by
  refine Ct_body (n := 86) Try.func119 rfl rfl rfl fun F w0 Q hret hnorm hp => ?_
  change WC _ _ _ _ _ _ _ (_ :: F)
  refine WC_sr fun K1 hK1 => ?_
  refine WL_rd (Rd_assign (v := sl none 0 0) rfl) rfl rfl rfl ?_
  refine WL_rd (Rd_assign rfl) rfl rfl rfl ?_
  refine WL_rd (Rd_assign rfl) rfl rfl rfl ?_
  refine WL_end hK1 ?_
  refine WC_sr fun K2 hK2 => ?_
  refine WL_rd (Rd_move rfl) rfl rfl rfl ?_
  refine WL_ac (Ac_call cf122 rfl (hs := widthRL_ct (n := n))) rfl rfl rfl ?_
  rintro _ _ ⟨⟨⟩, rfl, hA⟩
  simp only [List.cons_append, List.nil_append] at hA
  replace hA := hA.symm
  subst hA
  refine WL_rd (Rd_assign rfl) rfl rfl rfl ?_
  refine WL_end hK2 ?_
  refine WC_seq fun K3 hK3 => ?_
  refine WC_sr fun K4 hK4 => ?_
  refine WL_rd (Rd_move rfl) rfl rfl rfl ?_
  refine WL_rd (Rd_eqlN (j := 0) rfl rfl) rfl rfl rfl ?_
  refine WL_end hK4 ?_
  refine WC_cond rfl (fun hc0 => ?_) (fun hc0 => ?_)
  · try simp only [decide_eq_true_eq, decide_eq_false_iff_not, Bool.not_eq_true', Bool.not_eq_false', Bool.not_eq_true, Bool.not_eq_false, Int.not_lt, Int.not_le, Nat.not_lt, Nat.not_le, Decidable.not_not, ne_eq] at hc0
    have hw0 := wdM_0 hc0
    obtain ⟨e1, e2, e3⟩ := lv_w (n := n) (ns := ls) (by omega)
    rw [e1, e2, e3, hw0] at hret
    refine WC_imp (fun w h => sat_nil (e := 32) (T := 42) (f := fD) h) ?_
    refine WC_sr fun K5 hK5 => ?_
    refine WL_rd (Rd_assign (v := sl none 0 0) rfl) rfl rfl rfl ?_
    refine WL_rd (Rd_assign rfl) rfl rfl rfl ?_
    refine WL_rd (Rd_assign rfl) rfl rfl rfl ?_
    refine WL_end hK5 ?_
    refine WC_ret ?_
    first | exact hret.go (none, 0) (Rs3 rfl rfl rfl rfl) | exact hret.goE (a', cap') (Rs3 rfl rfl rfl rfl) rfl
  · try simp only [decide_eq_true_eq, decide_eq_false_iff_not, Bool.not_eq_true', Bool.not_eq_false', Bool.not_eq_true, Bool.not_eq_false, Int.not_lt, Int.not_le, Nat.not_lt, Nat.not_le, Decidable.not_not, ne_eq] at hc0
    have hw0 := wdM_pos hc0
    have hwi := wdE_iff.1 hw0
    have hwo := wd_ok hwi.1 hwi.2
    refine WC_skip ?_
    refine Ps_next hK3 ?_
    refine WC_seq fun K6 hK6 => ?_
    refine WC_sr fun K7 hK7 => ?_
    refine WL_rd (Rd_move rfl) rfl rfl rfl ?_
    refine WL_rd (Rd_len_sv rfl rfl ud76) rfl rfl rfl ?_
    refine WL_rd (Rd_move rfl) rfl rfl rfl ?_
    refine WL_rd (Rd_mulN (i := 2) rfl rfl) rfl rfl rfl ?_
    refine WL_rd (Rd_subN (j := 1) rfl rfl) rfl rfl rfl ?_
    refine WL_rd (Rd_neqN rfl rfl) rfl rfl rfl ?_
    refine WL_end hK7 ?_
    refine WC_cond rfl (fun hc1 => ?_) (fun hc1 => ?_)
    · try simp only [decide_eq_true_eq, decide_eq_false_iff_not, Bool.not_eq_true', Bool.not_eq_false', Bool.not_eq_true, Bool.not_eq_false, Int.not_lt, Int.not_le, Nat.not_lt, Nat.not_le, Decidable.not_not, ne_eq] at hc1
      obtain ⟨e1, e2, e3⟩ := lv_l (ns := ls) hw0 hc1
      rw [e1, e2, e3] at hret
      refine WC_imp (fun w h => sat_nil (e := 32) (T := 42) (f := fD) h) ?_
      refine WC_sr fun K8 hK8 => ?_
      refine WL_rd (Rd_assign (v := sl none 0 0) rfl) rfl rfl rfl ?_
      refine WL_rd (Rd_assign rfl) rfl rfl rfl ?_
      refine WL_rd (Rd_assign rfl) rfl rfl rfl ?_
      refine WL_end hK8 ?_
      refine WC_ret ?_
      first | exact hret.go (none, 0) (Rs3 rfl rfl rfl rfl) | exact hret.goE (a', cap') (Rs3 rfl rfl rfl rfl) rfl
    · try simp only [decide_eq_true_eq, decide_eq_false_iff_not, Bool.not_eq_true', Bool.not_eq_false', Bool.not_eq_true, Bool.not_eq_false, Int.not_lt, Int.not_le, Nat.not_lt, Nat.not_le, Decidable.not_not, ne_eq] at hc1
      refine WC_skip ?_
      refine Ps_next hK6 ?_
      refine WC_seq fun K9 hK9 => ?_
      refine WC_sr fun K10 hK10 => ?_
      refine WL_rd (Rd_assign rfl) rfl rfl rfl ?_
      refine WL_end hK10 ?_
      refine WC_block ?_
      refine WC_loopK (σ := Nat) (fun i' => [(8, .int .i64 (((i' + 1) : Nat) : Int))]) (fun i' => []) (fun i' => i' ≤ ls.length ∧ (∀ x, 1 ≤ x → x ≤ i' → bad n (wdM n) ls x = false)) (fun i' => ls.length - i') (0) [0, 1, 7, 9, 10, 70, 71, 72, 73, 74, 75, 76, 77, 78, 79, 80, 81, 82, 83, 84, 85] (by repeat (first | exact Kep.nil | apply Kep.drop rfl | apply Kep.keep rfl)) (by (try dsimp only); repeat (first | with_reducible exact Gv.nil | (with_reducible apply Gv.cons; · (repeat (first | with_reducible exact Ext.here | with_reducible apply Ext.there))))) ?_ ?_ Sub.refl ?_
      · exact ⟨Nat.zero_le _, fun x h1 h2 => by omega⟩
      · (try dsimp only); exact (Wk.cons (by first | rfl | (simp only [List.length_append, List.length_cons, List.length_nil, List.length_replicate, Nat.zero_add]; rfl) | (simp; done)) Wk.nil)
      · rintro i' ⟨hi, hg'⟩ K11 hK11
        simp only [List.cons_append, List.nil_append]
        refine WC_seq fun K12 hK12 => ?_
        refine WC_sr fun K13 hK13 => ?_
        refine WL_rd (Rd_move rfl) rfl rfl rfl ?_
        refine WL_rd (Rd_move rfl) rfl rfl rfl ?_
        refine WL_rd (Rd_mulN (i := 2) rfl rfl) rfl rfl rfl ?_
        refine WL_rd (Rd_lssN rfl rfl) rfl rfl rfl ?_
        refine WL_end hK13 ?_
        refine WC_cond rfl (fun hc2 => ?_) (fun hc2 => ?_)
        · try simp only [decide_eq_true_eq, decide_eq_false_iff_not, Bool.not_eq_true', Bool.not_eq_false', Bool.not_eq_true, Bool.not_eq_false, Int.not_lt, Int.not_le, Nat.not_lt, Nat.not_le, Decidable.not_not, ne_eq] at hc2
          have hdg := Dg_len (ls.getD (i') zD)
          have htn := tagD_len 6#8 [(ls.getD (2 * (i' + 1) - 1) zD).1, (ls.getD (2 * (i' + 1)) zD).1]
          have htp := tagD_len 7#8 [big32 (BitVec.ofNat 32 (i' + 1 - (wdM n)))]
          refine WC_skip ?_
          refine Ps_next hK12 ?_
          refine WC_seq fun K14 hK14 => ?_
          refine WC_block ?_
          refine WC_seq fun K15 hK15 => ?_
          refine WC_seq fun K16 hK16 => ?_
          refine WC_drawA mix (fun i => ([2, 2, 2, 2, 2, 2, 2, 2, 2, 2, 2, 2, 2, 2, 2, 2, 2, 2, 2, 2, 1, 2, 2] : List Nat).getD i 0) ?_
          refine WJ_takeP 0 rfl (by kernel_rfl) (Rd_move rfl) rfl rfl rfl (hp _ _) ?_
          refine WJ_takeP 1 rfl (by kernel_rfl) (Rd_move rfl) rfl rfl rfl (hp _ _) ?_
          refine WJ_takeP 2 rfl (by kernel_rfl) (Rd_lssN rfl rfl) rfl rfl rfl (hp _ _) ?_
          refine WJ_takeP 3 rfl (by kernel_rfl) (Rd_move rfl) rfl rfl rfl (hp _ _) ?_
          refine WJ_bool 30 rfl (fun hg17 => ?_) (fun hg17 => ?_)
          · try simp only [decide_eq_true_eq, decide_eq_false_iff_not, Bool.not_eq_true', Bool.not_eq_false', Bool.not_eq_true, Bool.not_eq_false, Int.not_lt, Int.not_le, Nat.not_lt, Nat.not_le, Decidable.not_not, ne_eq] at hg17
            have q0 := hg17
            refine WJ_takeP 4 rfl (by kernel_rfl) (Rd_move rfl) rfl rfl rfl (hp _ _) ?_
            refine WJ_takeP 5 rfl (by kernel_rfl) (Rd_move rfl) rfl rfl rfl (hp _ _) ?_
            refine WJ_takeP 6 rfl (by kernel_rfl) (Rd_subN (j := 1) rfl rfl) rfl rfl rfl (hp _ _) ?_
            refine WJ_takeP 7 rfl (by kernel_rfl) (Rd_index_sv (i') rfl rfl ud76 sz42 (hA := hS) (hj := by omega) (hi := by omega)) rfl rfl rfl (hp _ _) ?_
            refine WJ_tk 8 (Rd_aU (k := .u8) (l := ((ls).getD (i') zD).1) (Rd_loadg_sv (i := i') rfl tk42 (hA := hS) (hl := at_of (by omega))) rfl) hp ?_ rfl (by kernel_rfl) rfl rfl rfl
            refine WJ_takeP 9 rfl (by kernel_rfl) (Rd_move rfl) rfl rfl rfl (hp _ _) ?_
            refine WJ_takeP 10 rfl (by kernel_rfl) (Rd_move rfl) rfl rfl rfl (hp _ _) ?_
            refine WJ_takeP 11 rfl (by kernel_rfl) (Rd_mulN (i := 2) rfl rfl) rfl rfl rfl (hp _ _) ?_
            refine WJ_takeP 12 rfl (by kernel_rfl) (Rd_subN (j := 1) rfl rfl) rfl rfl rfl (hp _ _) ?_
            refine WJ_takeP 13 rfl (by kernel_rfl) (Rd_index_sv (2 * (i' + 1) - 1) rfl rfl ud76 sz42 (hA := hS) (hj := by omega) (hi := by omega)) rfl rfl rfl (hp _ _) ?_
            refine WJ_tk 14 (Rd_aU (k := .u8) (l := ((ls).getD (2 * (i' + 1) - 1) zD).1) (Rd_loadg_sv (i := 2 * (i' + 1) - 1) rfl tk42 (hA := hS) (hl := at_of (by omega))) rfl) hp ?_ rfl (by kernel_rfl) rfl rfl rfl
            refine WJ_takeP 15 rfl (by kernel_rfl) (Rd_move rfl) rfl rfl rfl (hp _ _) ?_
            refine WJ_takeP 16 rfl (by kernel_rfl) (Rd_move rfl) rfl rfl rfl (hp _ _) ?_
            refine WJ_takeP 17 rfl (by kernel_rfl) (Rd_mulN (i := 2) rfl rfl) rfl rfl rfl (hp _ _) ?_
            refine WJ_takeP 18 rfl (by kernel_rfl) (Rd_index_sv (2 * (i' + 1)) rfl rfl ud76 sz42 (hA := hS) (hj := by omega) (hi := by omega)) rfl rfl rfl (hp _ _) ?_
            refine WJ_tk 19 (Rd_aU (k := .u8) (l := ((ls).getD (2 * (i' + 1)) zD).1) (Rd_loadg_sv (i := 2 * (i' + 1)) rfl tk42 (hA := hS) (hl := at_of (by omega))) rfl) hp ?_ rfl (by kernel_rfl) rfl rfl rfl
            refine WJ_all (rs := [20]) (by kernel_rfl) rfl ?_
            refine WI_one ?_
            refine WI_ac rfl (Ac_call cf98 rfl (hs := nodeR_ct (x := (ls.getD (2 * (i' + 1) - 1) zD).1) (y := (ls.getD (2 * (i' + 1)) zD).1) (hx := Dg_len _) (hy := Dg_len _))) rfl rfl rfl rfl ?_
            rintro _ _ ⟨⟨⟩, rfl, hA⟩
            simp only [List.cons_append, List.nil_append] at hA
            replace hA := hA.symm
            subst hA
            refine ⟨(fun _ => (by repeat (first | with_reducible exact Sub.refl | with_reducible exact Sub.nil | with_reducible refine Sub.cons (by repeat (first | with_reducible exact Ext.here | with_reducible apply Ext.there)) ?_ | with_reducible refine Sub.tail ?_))), ?_⟩
            refine WJ_takeP 21 rfl (by kernel_rfl) (Rd_neW rfl rfl ais42) rfl rfl rfl (hp _ _) ?_
            refine WJ_takeP 22 rfl (by kernel_rfl) (Rd_pickT rfl rfl) rfl rfl rfl (hp _ _) ?_
            refine WJ_done (by kernel_rfl) ?_
            refine Ps_next hK16 ?_
            refine WC_cond rfl (fun hc3 => ?_) (fun hc3 => ?_)
            · try simp only [decide_eq_true_eq, decide_eq_false_iff_not, Bool.not_eq_true', Bool.not_eq_false', Bool.not_eq_true, Bool.not_eq_false, Int.not_lt, Int.not_le, Nat.not_lt, Nat.not_le, Decidable.not_not, ne_eq] at hc3
              have hb := bad_1 (n := n) (w := (wdM n)) (ns := ls) (x := i' + 1) q0 hc3
              obtain ⟨e1, e2, e3⟩ := lv_bad (ns := ls) hw0 hc1 (show i' < ls.length by omega) hb hg'
              rw [e1, e2, e3] at hret
              refine WC_imp (fun w h => sat_nil (e := 32) (T := 42) (f := fD) h) ?_
              refine WC_sr fun K18 hK18 => ?_
              refine WL_rd (Rd_move rfl) rfl rfl rfl ?_
              refine WL_rd (Rd_assign (v := sl none 0 0) rfl) rfl rfl rfl ?_
              refine WL_rd (Rd_assign rfl) rfl rfl rfl ?_
              refine WL_rd (Rd_assign rfl) rfl rfl rfl ?_
              refine WL_end hK18 ?_
              refine WC_ret ?_
              first | exact hret.go (none, 0) (Rs3 rfl rfl rfl rfl) | exact hret.goE (a', cap') (Rs3 rfl rfl rfl rfl) rfl
            · try simp only [decide_eq_true_eq, decide_eq_false_iff_not, Bool.not_eq_true', Bool.not_eq_false', Bool.not_eq_true, Bool.not_eq_false, Int.not_lt, Int.not_le, Nat.not_lt, Nat.not_le, Decidable.not_not, ne_eq] at hc3
              refine WC_skip ?_
              refine Ps_next hK15 ?_
              refine WC_seq fun K19 hK19 => ?_
              refine WC_drawA mix (fun i => ([2, 2, 2, 2, 2, 2, 2, 2, 2, 2, 2, 2, 2, 2, 2, 1, 2, 2] : List Nat).getD i 0) ?_
              refine WJ_takeP 0 rfl (by kernel_rfl) (Rd_move rfl) rfl rfl rfl (hp _ _) ?_
              refine WJ_takeP 1 rfl (by kernel_rfl) (Rd_move rfl) rfl rfl rfl (hp _ _) ?_
              refine WJ_takeP 2 rfl (by kernel_rfl) (Rd_move rfl) rfl rfl rfl (hp _ _) ?_
              refine WJ_takeP 3 rfl (by kernel_rfl) (Rd_addN rfl rfl) rfl rfl rfl (hp _ _) ?_
              refine WJ_takeP 4 rfl (by kernel_rfl) (Rd_geqN rfl rfl) rfl rfl rfl (hp _ _) ?_
              refine WJ_takeP 5 rfl (by kernel_rfl) (Rd_move rfl) rfl rfl rfl (hp _ _) ?_
              refine WJ_bool 56 rfl (fun hg20 => ?_) (fun hg20 => ?_)
              · try simp only [decide_eq_true_eq, decide_eq_false_iff_not, Bool.not_eq_true', Bool.not_eq_false', Bool.not_eq_true, Bool.not_eq_false, Int.not_lt, Int.not_le, Nat.not_lt, Nat.not_le, Decidable.not_not, ne_eq] at hg20
                have q2 := hg20
                refine WJ_takeP 6 rfl (by kernel_rfl) (Rd_move rfl) rfl rfl rfl (hp _ _) ?_
                refine WJ_takeP 7 rfl (by kernel_rfl) (Rd_move rfl) rfl rfl rfl (hp _ _) ?_
                refine WJ_takeP 8 rfl (by kernel_rfl) (Rd_subN (j := 1) rfl rfl) rfl rfl rfl (hp _ _) ?_
                refine WJ_takeP 9 rfl (by kernel_rfl) (Rd_index_sv (i') rfl rfl ud76 sz42 (hA := hS) (hj := by omega) (hi := by omega)) rfl rfl rfl (hp _ _) ?_
                refine WJ_tk 10 (Rd_aU (k := .u8) (l := ((ls).getD (i') zD).1) (Rd_loadg_sv (i := i') rfl tk42 (hA := hS) (hl := at_of (by omega))) rfl) hp ?_ rfl (by kernel_rfl) rfl rfl rfl
                refine WJ_takeP 11 rfl (by kernel_rfl) (Rd_move rfl) rfl rfl rfl (hp _ _) ?_
                refine WJ_takeP 12 rfl (by kernel_rfl) (Rd_move rfl) rfl rfl rfl (hp _ _) ?_
                refine WJ_takeP 13 rfl (by kernel_rfl) (Rd_subN rfl rfl) rfl rfl rfl (hp _ _) ?_
                refine WJ_takeP 14 rfl (by kernel_rfl) (Rd_convNU rfl ikd3_24 (h' := uk32)) rfl rfl rfl (hp _ _) ?_
                refine WJ_all (rs := [15]) (by kernel_rfl) rfl ?_
                refine WI_one ?_
                refine WI_ac rfl (Ac_call cf159 rfl (hs := padTR_ct (x := BitVec.ofNat 32 (i' + 1 - (wdM n))))) rfl rfl rfl rfl ?_
                rintro _ _ ⟨⟨⟩, rfl, hA⟩
                simp only [List.cons_append, List.nil_append] at hA
                replace hA := hA.symm
                subst hA
                refine ⟨(fun _ => (by repeat (first | with_reducible exact Sub.refl | with_reducible exact Sub.nil | with_reducible refine Sub.cons (by repeat (first | with_reducible exact Ext.here | with_reducible apply Ext.there)) ?_ | with_reducible refine Sub.tail ?_))), ?_⟩
                refine WJ_takeP 16 rfl (by kernel_rfl) (Rd_neW rfl rfl ais42) rfl rfl rfl (hp _ _) ?_
                refine WJ_takeP 17 rfl (by kernel_rfl) (Rd_pickT rfl rfl) rfl rfl rfl (hp _ _) ?_
                refine WJ_done (by kernel_rfl) ?_
                refine Ps_next hK19 ?_
                refine WC_cond rfl (fun hc4 => ?_) (fun hc4 => ?_)
                · try simp only [decide_eq_true_eq, decide_eq_false_iff_not, Bool.not_eq_true', Bool.not_eq_false', Bool.not_eq_true, Bool.not_eq_false, Int.not_lt, Int.not_le, Nat.not_lt, Nat.not_le, Decidable.not_not, ne_eq] at hc4
                  have hb := bad_2 (n := n) (w := (wdM n)) (ns := ls) (x := i' + 1) q2 hc4
                  obtain ⟨e1, e2, e3⟩ := lv_bad (ns := ls) hw0 hc1 (show i' < ls.length by omega) hb hg'
                  rw [e1, e2, e3] at hret
                  refine WC_imp (fun w h => sat_nil (e := 32) (T := 42) (f := fD) h) ?_
                  refine WC_sr fun K21 hK21 => ?_
                  refine WL_rd (Rd_move rfl) rfl rfl rfl ?_
                  refine WL_rd (Rd_assign (v := sl none 0 0) rfl) rfl rfl rfl ?_
                  refine WL_rd (Rd_assign rfl) rfl rfl rfl ?_
                  refine WL_rd (Rd_assign rfl) rfl rfl rfl ?_
                  refine WL_end hK21 ?_
                  refine WC_ret ?_
                  first | exact hret.go (none, 0) (Rs3 rfl rfl rfl rfl) | exact hret.goE (a', cap') (Rs3 rfl rfl rfl rfl) rfl
                · try simp only [decide_eq_true_eq, decide_eq_false_iff_not, Bool.not_eq_true', Bool.not_eq_false', Bool.not_eq_true, Bool.not_eq_false, Int.not_lt, Int.not_le, Nat.not_lt, Nat.not_le, Decidable.not_not, ne_eq] at hc4
                  have hb : bad n (wdM n) ls (i' + 1) = false := by first | exact good_1 (x := i' + 1) q0 hc3 | exact good_2 (x := i' + 1) (by omega) hc4 | exact good_3 (by omega) (by omega)
                  refine WC_skip ?_
                  refine Ps_next hK14 ?_
                  refine WC_region ?_
                  refine WL_rd (Rd_move rfl) rfl rfl rfl ?_
                  refine WL_rd (Rd_addN (j := 1) rfl rfl) rfl rfl rfl ?_
                  refine WL_rd (Rd_assign rfl) rfl rfl rfl ?_
                  refine WL_nil ?_
                  refine Ps_wk (by (try simp only [List.cons_append, List.nil_append]); repeat (first | with_reducible exact Wk.nil | refine Wk.cons (by first | rfl | (simp only [List.length_append, List.length_cons, List.length_nil, List.length_replicate, Nat.zero_add]; rfl) | (simp; done)) ?_)) (by (try simp only [List.cons_append, List.nil_append]); repeat (first | with_reducible exact Sub.refl | with_reducible exact Sub.nil | with_reducible refine Sub.cons (by repeat (first | with_reducible exact Ext.here | with_reducible apply Ext.there)) ?_ | with_reducible refine Sub.tail ?_)) (hK11 (i' + 1) (⟨by omega, fun x h1 h2 => by rcases Nat.lt_or_ge i' x with z | z; (obtain rfl : x = i' + 1 := by omega); exact hb; exact hg' x h1 z⟩) (by omega))
              · try simp only [decide_eq_true_eq, decide_eq_false_iff_not, Bool.not_eq_true', Bool.not_eq_false', Bool.not_eq_true, Bool.not_eq_false, Int.not_lt, Int.not_le, Nat.not_lt, Nat.not_le, Decidable.not_not, ne_eq] at hg20
                have q2 := hg20
                refine WJ_skip 6 rfl (by kernel_rfl) rfl rfl rfl (hp _ _) ?_
                refine WJ_skip 7 rfl (by kernel_rfl) rfl rfl rfl (hp _ _) ?_
                refine WJ_skip 8 rfl (by kernel_rfl) rfl rfl rfl (hp _ _) ?_
                refine WJ_skip 9 rfl (by kernel_rfl) rfl rfl rfl (hp _ _) ?_
                refine WJ_skip 10 rfl (by kernel_rfl) rfl rfl rfl (hp _ _) ?_
                refine WJ_skip 11 rfl (by kernel_rfl) rfl rfl rfl (hp _ _) ?_
                refine WJ_skip 12 rfl (by kernel_rfl) rfl rfl rfl (hp _ _) ?_
                refine WJ_skip 13 rfl (by kernel_rfl) rfl rfl rfl (hp _ _) ?_
                refine WJ_skip 14 rfl (by kernel_rfl) rfl rfl rfl (hp _ _) ?_
                refine WJ_all (rs := [15]) (by kernel_rfl) rfl ?_
                refine WI_one ?_
                refine WI_skip rfl rfl rfl rfl (fun _ => (by repeat (first | with_reducible exact Sub.refl | with_reducible exact Sub.nil | with_reducible refine Sub.cons (by repeat (first | with_reducible exact Ext.here | with_reducible apply Ext.there)) ?_ | with_reducible refine Sub.tail ?_))) ?_
                refine WJ_skip 16 rfl (by kernel_rfl) rfl rfl rfl (hp _ _) ?_
                refine WJ_takeP 17 rfl (by kernel_rfl) (Rd_pickF rfl rfl) rfl rfl rfl (hp _ _) ?_
                refine WJ_done (by kernel_rfl) ?_
                refine Ps_next hK19 ?_
                refine WC_condF rfl ?_
                have hb : bad n (wdM n) ls (i' + 1) = false := by first | exact good_1 (x := i' + 1) q0 hc3 | exact good_2 (x := i' + 1) (by omega) hc4 | exact good_3 (by omega) (by omega)
                refine WC_skip ?_
                refine Ps_next hK14 ?_
                refine WC_region ?_
                refine WL_rd (Rd_move rfl) rfl rfl rfl ?_
                refine WL_rd (Rd_addN (j := 1) rfl rfl) rfl rfl rfl ?_
                refine WL_rd (Rd_assign rfl) rfl rfl rfl ?_
                refine WL_nil ?_
                refine Ps_wk (by (try simp only [List.cons_append, List.nil_append]); repeat (first | with_reducible exact Wk.nil | refine Wk.cons (by first | rfl | (simp only [List.length_append, List.length_cons, List.length_nil, List.length_replicate, Nat.zero_add]; rfl) | (simp; done)) ?_)) (by (try simp only [List.cons_append, List.nil_append]); repeat (first | with_reducible exact Sub.refl | with_reducible exact Sub.nil | with_reducible refine Sub.cons (by repeat (first | with_reducible exact Ext.here | with_reducible apply Ext.there)) ?_ | with_reducible refine Sub.tail ?_)) (hK11 (i' + 1) (⟨by omega, fun x h1 h2 => by rcases Nat.lt_or_ge i' x with z | z; (obtain rfl : x = i' + 1 := by omega); exact hb; exact hg' x h1 z⟩) (by omega))
          · try simp only [decide_eq_true_eq, decide_eq_false_iff_not, Bool.not_eq_true', Bool.not_eq_false', Bool.not_eq_true, Bool.not_eq_false, Int.not_lt, Int.not_le, Nat.not_lt, Nat.not_le, Decidable.not_not, ne_eq] at hg17
            have q0 := hg17
            refine WJ_skip 4 rfl (by kernel_rfl) rfl rfl rfl (hp _ _) ?_
            refine WJ_skip 5 rfl (by kernel_rfl) rfl rfl rfl (hp _ _) ?_
            refine WJ_skip 6 rfl (by kernel_rfl) rfl rfl rfl (hp _ _) ?_
            refine WJ_skip 7 rfl (by kernel_rfl) rfl rfl rfl (hp _ _) ?_
            refine WJ_skip 8 rfl (by kernel_rfl) rfl rfl rfl (hp _ _) ?_
            refine WJ_skip 9 rfl (by kernel_rfl) rfl rfl rfl (hp _ _) ?_
            refine WJ_skip 10 rfl (by kernel_rfl) rfl rfl rfl (hp _ _) ?_
            refine WJ_skip 11 rfl (by kernel_rfl) rfl rfl rfl (hp _ _) ?_
            refine WJ_skip 12 rfl (by kernel_rfl) rfl rfl rfl (hp _ _) ?_
            refine WJ_skip 13 rfl (by kernel_rfl) rfl rfl rfl (hp _ _) ?_
            refine WJ_skip 14 rfl (by kernel_rfl) rfl rfl rfl (hp _ _) ?_
            refine WJ_skip 15 rfl (by kernel_rfl) rfl rfl rfl (hp _ _) ?_
            refine WJ_skip 16 rfl (by kernel_rfl) rfl rfl rfl (hp _ _) ?_
            refine WJ_skip 17 rfl (by kernel_rfl) rfl rfl rfl (hp _ _) ?_
            refine WJ_skip 18 rfl (by kernel_rfl) rfl rfl rfl (hp _ _) ?_
            refine WJ_skip 19 rfl (by kernel_rfl) rfl rfl rfl (hp _ _) ?_
            refine WJ_all (rs := [20]) (by kernel_rfl) rfl ?_
            refine WI_one ?_
            refine WI_skip rfl rfl rfl rfl (fun _ => (by repeat (first | with_reducible exact Sub.refl | with_reducible exact Sub.nil | with_reducible refine Sub.cons (by repeat (first | with_reducible exact Ext.here | with_reducible apply Ext.there)) ?_ | with_reducible refine Sub.tail ?_))) ?_
            refine WJ_skip 21 rfl (by kernel_rfl) rfl rfl rfl (hp _ _) ?_
            refine WJ_takeP 22 rfl (by kernel_rfl) (Rd_pickF rfl rfl) rfl rfl rfl (hp _ _) ?_
            refine WJ_done (by kernel_rfl) ?_
            refine Ps_next hK16 ?_
            refine WC_condF rfl ?_
            refine WC_skip ?_
            refine Ps_next hK15 ?_
            refine WC_seq fun K22 hK22 => ?_
            refine WC_drawA mix (fun i => ([2, 2, 2, 2, 2, 2, 2, 2, 2, 2, 2, 2, 2, 2, 2, 1, 2, 2] : List Nat).getD i 0) ?_
            refine WJ_takeP 0 rfl (by kernel_rfl) (Rd_move rfl) rfl rfl rfl (hp _ _) ?_
            refine WJ_takeP 1 rfl (by kernel_rfl) (Rd_move rfl) rfl rfl rfl (hp _ _) ?_
            refine WJ_takeP 2 rfl (by kernel_rfl) (Rd_move rfl) rfl rfl rfl (hp _ _) ?_
            refine WJ_takeP 3 rfl (by kernel_rfl) (Rd_addN rfl rfl) rfl rfl rfl (hp _ _) ?_
            refine WJ_takeP 4 rfl (by kernel_rfl) (Rd_geqN rfl rfl) rfl rfl rfl (hp _ _) ?_
            refine WJ_takeP 5 rfl (by kernel_rfl) (Rd_move rfl) rfl rfl rfl (hp _ _) ?_
            refine WJ_bool 56 rfl (fun hg23 => ?_) (fun hg23 => ?_)
            · try simp only [decide_eq_true_eq, decide_eq_false_iff_not, Bool.not_eq_true', Bool.not_eq_false', Bool.not_eq_true, Bool.not_eq_false, Int.not_lt, Int.not_le, Nat.not_lt, Nat.not_le, Decidable.not_not, ne_eq] at hg23
              have q2 := hg23
              refine WJ_takeP 6 rfl (by kernel_rfl) (Rd_move rfl) rfl rfl rfl (hp _ _) ?_
              refine WJ_takeP 7 rfl (by kernel_rfl) (Rd_move rfl) rfl rfl rfl (hp _ _) ?_
              refine WJ_takeP 8 rfl (by kernel_rfl) (Rd_subN (j := 1) rfl rfl) rfl rfl rfl (hp _ _) ?_
              refine WJ_takeP 9 rfl (by kernel_rfl) (Rd_index_sv (i') rfl rfl ud76 sz42 (hA := hS) (hj := by omega) (hi := by omega)) rfl rfl rfl (hp _ _) ?_
              refine WJ_tk 10 (Rd_aU (k := .u8) (l := ((ls).getD (i') zD).1) (Rd_loadg_sv (i := i') rfl tk42 (hA := hS) (hl := at_of (by omega))) rfl) hp ?_ rfl (by kernel_rfl) rfl rfl rfl
              refine WJ_takeP 11 rfl (by kernel_rfl) (Rd_move rfl) rfl rfl rfl (hp _ _) ?_
              refine WJ_takeP 12 rfl (by kernel_rfl) (Rd_move rfl) rfl rfl rfl (hp _ _) ?_
              refine WJ_takeP 13 rfl (by kernel_rfl) (Rd_subN rfl rfl) rfl rfl rfl (hp _ _) ?_
              refine WJ_takeP 14 rfl (by kernel_rfl) (Rd_convNU rfl ikd3_24 (h' := uk32)) rfl rfl rfl (hp _ _) ?_
              refine WJ_all (rs := [15]) (by kernel_rfl) rfl ?_
              refine WI_one ?_
              refine WI_ac rfl (Ac_call cf159 rfl (hs := padTR_ct (x := BitVec.ofNat 32 (i' + 1 - (wdM n))))) rfl rfl rfl rfl ?_
              rintro _ _ ⟨⟨⟩, rfl, hA⟩
              simp only [List.cons_append, List.nil_append] at hA
              replace hA := hA.symm
              subst hA
              refine ⟨(fun _ => (by repeat (first | with_reducible exact Sub.refl | with_reducible exact Sub.nil | with_reducible refine Sub.cons (by repeat (first | with_reducible exact Ext.here | with_reducible apply Ext.there)) ?_ | with_reducible refine Sub.tail ?_))), ?_⟩
              refine WJ_takeP 16 rfl (by kernel_rfl) (Rd_neW rfl rfl ais42) rfl rfl rfl (hp _ _) ?_
              refine WJ_takeP 17 rfl (by kernel_rfl) (Rd_pickT rfl rfl) rfl rfl rfl (hp _ _) ?_
              refine WJ_done (by kernel_rfl) ?_
              refine Ps_next hK22 ?_
              refine WC_cond rfl (fun hc4 => ?_) (fun hc4 => ?_)
              · try simp only [decide_eq_true_eq, decide_eq_false_iff_not, Bool.not_eq_true', Bool.not_eq_false', Bool.not_eq_true, Bool.not_eq_false, Int.not_lt, Int.not_le, Nat.not_lt, Nat.not_le, Decidable.not_not, ne_eq] at hc4
                have hb := bad_2 (n := n) (w := (wdM n)) (ns := ls) (x := i' + 1) q2 hc4
                obtain ⟨e1, e2, e3⟩ := lv_bad (ns := ls) hw0 hc1 (show i' < ls.length by omega) hb hg'
                rw [e1, e2, e3] at hret
                refine WC_imp (fun w h => sat_nil (e := 32) (T := 42) (f := fD) h) ?_
                refine WC_sr fun K24 hK24 => ?_
                refine WL_rd (Rd_move rfl) rfl rfl rfl ?_
                refine WL_rd (Rd_assign (v := sl none 0 0) rfl) rfl rfl rfl ?_
                refine WL_rd (Rd_assign rfl) rfl rfl rfl ?_
                refine WL_rd (Rd_assign rfl) rfl rfl rfl ?_
                refine WL_end hK24 ?_
                refine WC_ret ?_
                first | exact hret.go (none, 0) (Rs3 rfl rfl rfl rfl) | exact hret.goE (a', cap') (Rs3 rfl rfl rfl rfl) rfl
              · try simp only [decide_eq_true_eq, decide_eq_false_iff_not, Bool.not_eq_true', Bool.not_eq_false', Bool.not_eq_true, Bool.not_eq_false, Int.not_lt, Int.not_le, Nat.not_lt, Nat.not_le, Decidable.not_not, ne_eq] at hc4
                have hb : bad n (wdM n) ls (i' + 1) = false := by first | exact good_1 (x := i' + 1) q0 hc3 | exact good_2 (x := i' + 1) (by omega) hc4 | exact good_3 (by omega) (by omega)
                refine WC_skip ?_
                refine Ps_next hK14 ?_
                refine WC_region ?_
                refine WL_rd (Rd_move rfl) rfl rfl rfl ?_
                refine WL_rd (Rd_addN (j := 1) rfl rfl) rfl rfl rfl ?_
                refine WL_rd (Rd_assign rfl) rfl rfl rfl ?_
                refine WL_nil ?_
                refine Ps_wk (by (try simp only [List.cons_append, List.nil_append]); repeat (first | with_reducible exact Wk.nil | refine Wk.cons (by first | rfl | (simp only [List.length_append, List.length_cons, List.length_nil, List.length_replicate, Nat.zero_add]; rfl) | (simp; done)) ?_)) (by (try simp only [List.cons_append, List.nil_append]); repeat (first | with_reducible exact Sub.refl | with_reducible exact Sub.nil | with_reducible refine Sub.cons (by repeat (first | with_reducible exact Ext.here | with_reducible apply Ext.there)) ?_ | with_reducible refine Sub.tail ?_)) (hK11 (i' + 1) (⟨by omega, fun x h1 h2 => by rcases Nat.lt_or_ge i' x with z | z; (obtain rfl : x = i' + 1 := by omega); exact hb; exact hg' x h1 z⟩) (by omega))
            · try simp only [decide_eq_true_eq, decide_eq_false_iff_not, Bool.not_eq_true', Bool.not_eq_false', Bool.not_eq_true, Bool.not_eq_false, Int.not_lt, Int.not_le, Nat.not_lt, Nat.not_le, Decidable.not_not, ne_eq] at hg23
              have q2 := hg23
              refine WJ_skip 6 rfl (by kernel_rfl) rfl rfl rfl (hp _ _) ?_
              refine WJ_skip 7 rfl (by kernel_rfl) rfl rfl rfl (hp _ _) ?_
              refine WJ_skip 8 rfl (by kernel_rfl) rfl rfl rfl (hp _ _) ?_
              refine WJ_skip 9 rfl (by kernel_rfl) rfl rfl rfl (hp _ _) ?_
              refine WJ_skip 10 rfl (by kernel_rfl) rfl rfl rfl (hp _ _) ?_
              refine WJ_skip 11 rfl (by kernel_rfl) rfl rfl rfl (hp _ _) ?_
              refine WJ_skip 12 rfl (by kernel_rfl) rfl rfl rfl (hp _ _) ?_
              refine WJ_skip 13 rfl (by kernel_rfl) rfl rfl rfl (hp _ _) ?_
              refine WJ_skip 14 rfl (by kernel_rfl) rfl rfl rfl (hp _ _) ?_
              refine WJ_all (rs := [15]) (by kernel_rfl) rfl ?_
              refine WI_one ?_
              refine WI_skip rfl rfl rfl rfl (fun _ => (by repeat (first | with_reducible exact Sub.refl | with_reducible exact Sub.nil | with_reducible refine Sub.cons (by repeat (first | with_reducible exact Ext.here | with_reducible apply Ext.there)) ?_ | with_reducible refine Sub.tail ?_))) ?_
              refine WJ_skip 16 rfl (by kernel_rfl) rfl rfl rfl (hp _ _) ?_
              refine WJ_takeP 17 rfl (by kernel_rfl) (Rd_pickF rfl rfl) rfl rfl rfl (hp _ _) ?_
              refine WJ_done (by kernel_rfl) ?_
              refine Ps_next hK22 ?_
              refine WC_condF rfl ?_
              have hb : bad n (wdM n) ls (i' + 1) = false := by first | exact good_1 (x := i' + 1) q0 hc3 | exact good_2 (x := i' + 1) (by omega) hc4 | exact good_3 (by omega) (by omega)
              refine WC_skip ?_
              refine Ps_next hK14 ?_
              refine WC_region ?_
              refine WL_rd (Rd_move rfl) rfl rfl rfl ?_
              refine WL_rd (Rd_addN (j := 1) rfl rfl) rfl rfl rfl ?_
              refine WL_rd (Rd_assign rfl) rfl rfl rfl ?_
              refine WL_nil ?_
              refine Ps_wk (by (try simp only [List.cons_append, List.nil_append]); repeat (first | with_reducible exact Wk.nil | refine Wk.cons (by first | rfl | (simp only [List.length_append, List.length_cons, List.length_nil, List.length_replicate, Nat.zero_add]; rfl) | (simp; done)) ?_)) (by (try simp only [List.cons_append, List.nil_append]); repeat (first | with_reducible exact Sub.refl | with_reducible exact Sub.nil | with_reducible refine Sub.cons (by repeat (first | with_reducible exact Ext.here | with_reducible apply Ext.there)) ?_ | with_reducible refine Sub.tail ?_)) (hK11 (i' + 1) (⟨by omega, fun x h1 h2 => by rcases Nat.lt_or_ge i' x with z | z; (obtain rfl : x = i' + 1 := by omega); exact hb; exact hg' x h1 z⟩) (by omega))
        · try simp only [decide_eq_true_eq, decide_eq_false_iff_not, Bool.not_eq_true', Bool.not_eq_false', Bool.not_eq_true, Bool.not_eq_false, Int.not_lt, Int.not_le, Nat.not_lt, Nat.not_le, Decidable.not_not, ne_eq] at hc2
          obtain ⟨e1, e2, e3⟩ := lv_good (ns := ls) hw0 hc1 (fun x h1 h2 => hg' x h1 (by omega))
          rw [e1, e2, e3] at hret
          have hdl : (ls.drop ((wdM n) - 1)).length = ls.length - ((wdM n) - 1) := List.length_drop ..
          refine WC_exit ?_
          refine Ps_next hK9 ?_
          refine WC_sr fun K25 hK25 => ?_
          refine WL_rd (Rd_assign (v := sl none 0 0) rfl) rfl rfl rfl ?_
          refine WL_nilarr fD 32 42 ?_
          refine WL_end hK25 ?_
          refine WC_seq fun K26 hK26 => ?_
          refine WC_sr fun K27 hK27 => ?_
          refine WL_rd (Rd_assign rfl) rfl rfl rfl ?_
          refine WL_end hK27 ?_
          refine WC_block ?_
          rw [show ([] : List Dg) = ((ls.drop ((wdM n) - 1)).take 0) from rfl]
          refine WC_loopK (σ := Nat × (Option Nat) × Nat) (fun ⟨j, a', cap'⟩ => [(9, sl a' ((ls.drop ((wdM n) - 1)).take j).length cap'), (10, .int .i64 ((j : Nat) : Int))]) (fun ⟨j, a', cap'⟩ => [arr a' cap' 32 42 fD ((ls.drop ((wdM n) - 1)).take j)]) (fun ⟨j, a', cap'⟩ => j ≤ n) (fun ⟨j, a', cap'⟩ => n - j) ⟨0, none, 0⟩ [0, 1, 4, 5, 6, 7, 85] (by repeat (first | exact Kep.nil | apply Kep.drop rfl | apply Kep.keep rfl)) (by (try dsimp only); repeat (first | with_reducible exact Gv.nil | (with_reducible apply Gv.cons; · (repeat (first | with_reducible exact Ext.here | with_reducible apply Ext.there))))) ?_ ?_ Sub.refl ?_
          · exact Nat.zero_le _
          · (try dsimp only); exact (Wk.cons (by first | rfl | (simp only [List.length_append, List.length_cons, List.length_nil, List.length_replicate, Nat.zero_add]; rfl) | (simp; done)) (Wk.cons (by first | rfl | (simp only [List.length_append, List.length_cons, List.length_nil, List.length_replicate, Nat.zero_add]; rfl) | (simp; done)) Wk.nil))
          · rintro ⟨j, a', cap'⟩ hj K28 hK28
            simp only [List.cons_append, List.nil_append]
            refine WC_seq fun K29 hK29 => ?_
            refine WC_sr fun K30 hK30 => ?_
            refine WL_rd (Rd_move rfl) rfl rfl rfl ?_
            refine WL_rd (Rd_move rfl) rfl rfl rfl ?_
            refine WL_rd (Rd_lssN rfl rfl) rfl rfl rfl ?_
            refine WL_end hK30 ?_
            refine WC_cond rfl (fun hc5 => ?_) (fun hc5 => ?_)
            · try simp only [decide_eq_true_eq, decide_eq_false_iff_not, Bool.not_eq_true', Bool.not_eq_false', Bool.not_eq_true, Bool.not_eq_false, Int.not_lt, Int.not_le, Nat.not_lt, Nat.not_le, Decidable.not_not, ne_eq] at hc5
              have hgd := Dg_len (ls.getD ((wdM n) + j - 1) zD)
              have htl : ((ls.drop ((wdM n) - 1)).take j).length = j := by rw [List.length_take]; omega
              refine WC_skip ?_
              refine Ps_next hK29 ?_
              refine WC_seq fun K31 hK31 => ?_
              refine WC_block ?_
              refine WC_region ?_
              refine WL_rd (Rd_move rfl) rfl rfl rfl ?_
              refine WL_rd (Rd_move rfl) rfl rfl rfl ?_
              refine WL_rd (Rd_move rfl) rfl rfl rfl ?_
              refine WL_rd (Rd_move rfl) rfl rfl rfl ?_
              refine WL_rd (Rd_addN rfl rfl) rfl rfl rfl ?_
              refine WL_rd (Rd_subN (j := 1) rfl rfl) rfl rfl rfl ?_
              refine WL_rd (Rd_index_sv ((wdM n) + j - 1) rfl rfl ud76 sz42 (hA := hS) (hj := by omega) (hi := by omega)) rfl rfl rfl ?_
              refine WL_rd (Rd_aU (k := .u8) (l := ((ls).getD ((wdM n) + j - 1) zD).1) (Rd_loadg_sv (i := (wdM n) + j - 1) rfl tk42 (hA := hS) (hl := at_of (by omega))) rfl) rfl rfl rfl ?_
              refine WL_ac (Ac_bs1 (xs := fD (ls.getD ((wdM n) + j - 1) zD)) rfl ud76 zr42 sz42 (hl := encD.len _)) rfl rfl rfl ?_
              rintro _ _ ⟨b83, rfl, rfl⟩
              refine WL_ac (Ac_append1 (f := fD) encD (ls.getD ((wdM n) + j - 1) zD) rfl rfl ud76 ud76 el42) rfl rfl rfl ?_
              rintro _ _ ⟨a84, cap84, rfl, rfl⟩
              rw [drop_gd (by omega), take_snoc zD (by omega), take_len1 (by omega)]
              refine WL_rd (Rd_assign rfl) rfl rfl rfl ?_
              refine WL_nil ?_
              refine Ps_next hK31 ?_
              refine WC_region ?_
              refine WL_rd (Rd_move rfl) rfl rfl rfl ?_
              refine WL_rd (Rd_addN (j := 1) rfl rfl) rfl rfl rfl ?_
              refine WL_rd (Rd_assign rfl) rfl rfl rfl ?_
              refine WL_nil ?_
              refine Ps_wk (by (try simp only [List.cons_append, List.nil_append]); repeat (first | with_reducible exact Wk.nil | refine Wk.cons (by first | rfl | (simp only [List.length_append, List.length_cons, List.length_nil, List.length_replicate, Nat.zero_add]; rfl) | (simp; done)) ?_)) (by (try simp only [List.cons_append, List.nil_append]); repeat (first | with_reducible exact Sub.refl | with_reducible exact Sub.nil | with_reducible refine Sub.cons (by repeat (first | with_reducible exact Ext.here | with_reducible apply Ext.there)) ?_ | with_reducible refine Sub.tail ?_)) (hK28 ⟨j + 1, a84, cap84⟩ (by (try dsimp only); omega) (by (try dsimp only); omega))
            · try simp only [decide_eq_true_eq, decide_eq_false_iff_not, Bool.not_eq_true', Bool.not_eq_false', Bool.not_eq_true, Bool.not_eq_false, Int.not_lt, Int.not_le, Nat.not_lt, Nat.not_le, Decidable.not_not, ne_eq] at hc5
              obtain hjn : j = n := by omega
              subst hjn
              refine WC_exit ?_
              refine Ps_next hK26 ?_
              refine WC_sr fun K32 hK32 => ?_
              refine WL_rd (Rd_move rfl) rfl rfl rfl ?_
              refine WL_rd (Rd_assign rfl) rfl rfl rfl ?_
              refine WL_rd (Rd_assign rfl) rfl rfl rfl ?_
              refine WL_rd (Rd_assign rfl) rfl rfl rfl ?_
              refine WL_end hK32 ?_
              refine WC_ret ?_
              first | exact hret.go (none, 0) (Rs3 rfl rfl rfl rfl) | exact hret.goE (a', cap') (Rs3 rfl rfl rfl rfl) rfl

theorem rLeavesZ_ct {n : Int} {X : Asn} {v : Value} {ls : List Dg} {ao : Option Addr} {cap2 : Nat} (hS : Sv [X] v 32 fD ls ao cap2 := by assumption) (h : n < 0) : Ct Try.prog 119 [.int .i64 n, v] [X] (fun _ : Unit => .tuple #[sl none 0 0, .int .i64 0, .int .i64 110]) (fun _ => [X]) := by
  refine Ct_body (n := 86) Try.func119 rfl rfl rfl fun F w0 Q hret hnorm hp => ?_
  change WC _ _ _ _ _ _ _ (_ :: F)
  refine WC_sr fun K1 hK1 => ?_
  refine WL_rd (Rd_assign (v := sl none 0 0) rfl) rfl rfl rfl ?_
  refine WL_rd (Rd_assign rfl) rfl rfl rfl ?_
  refine WL_rd (Rd_assign rfl) rfl rfl rfl ?_
  refine WL_end hK1 ?_
  refine WC_sr fun K2 hK2 => ?_
  refine WL_rd (Rd_move rfl) rfl rfl rfl ?_
  refine WL_ac (Ac_call cf122 rfl (hs := widthR_ct (n := n))) rfl rfl rfl ?_
  rintro _ _ ⟨⟨⟩, rfl, hA⟩
  simp only [List.cons_append, List.nil_append] at hA
  replace hA := hA.symm
  subst hA
  rw [show n.toNat = 0 from by omega]
  refine WL_rd (Rd_assign rfl) rfl rfl rfl ?_
  refine WL_end hK2 ?_
  refine WC_seq fun K3 hK3 => ?_
  refine WC_sr fun K4 hK4 => ?_
  refine WL_rd (Rd_move rfl) rfl rfl rfl ?_
  refine WL_rd (Rd_eqlN (j := 0) rfl rfl) rfl rfl rfl ?_
  refine WL_end hK4 ?_
  refine WC_cond rfl (fun hc0 => ?_) (fun hc0 => ?_)
  · try simp only [decide_eq_true_eq, decide_eq_false_iff_not, Bool.not_eq_true', Bool.not_eq_false', Bool.not_eq_true, Bool.not_eq_false, Int.not_lt, Int.not_le, Nat.not_lt, Nat.not_le, Decidable.not_not, ne_eq] at hc0
    refine WC_sr fun K5 hK5 => ?_
    refine WL_rd (Rd_assign (v := sl none 0 0) rfl) rfl rfl rfl ?_
    refine WL_rd (Rd_assign rfl) rfl rfl rfl ?_
    refine WL_rd (Rd_assign rfl) rfl rfl rfl ?_
    refine WL_end hK5 ?_
    refine WC_ret ?_
    exact hret.go () (Rs3 rfl rfl rfl rfl)
  · try simp only [decide_eq_true_eq, decide_eq_false_iff_not, Bool.not_eq_true', Bool.not_eq_false', Bool.not_eq_true, Bool.not_eq_false, Int.not_lt, Int.not_le, Nat.not_lt, Nat.not_le, Decidable.not_not, ne_eq] at hc0
    exact absurd hc0 (by decide)

theorem leavesZ_ct {n : Int} {X : Asn} {v : Value} {ls : List Dg} {ao : Option Addr} {cap2 : Nat} (hS : Sv [X] v 32 fD ls ao cap2 := by assumption) (h : n < 0) : Ct Try.prog 65 [.int .i64 n, v] [X] (fun _ : Unit => .tuple #[sl none 0 0, .int .i64 0, .int .i64 110]) (fun _ => [X]) := by
  refine Ct_body (n := 83) Try.func65 rfl rfl rfl fun F w0 Q hret hnorm hp => ?_
  change WC _ _ _ _ _ _ _ (_ :: F)
  refine WC_sr fun K1 hK1 => ?_
  refine WL_rd (Rd_assign (v := sl none 0 0) rfl) rfl rfl rfl ?_
  refine WL_rd (Rd_assign rfl) rfl rfl rfl ?_
  refine WL_rd (Rd_assign rfl) rfl rfl rfl ?_
  refine WL_end hK1 ?_
  refine WC_sr fun K2 hK2 => ?_
  refine WL_rd (Rd_move rfl) rfl rfl rfl ?_
  refine WL_ac (Ac_call cf97 rfl (hs := width_ct (n := n))) rfl rfl rfl ?_
  rintro _ _ ⟨⟨⟩, rfl, hA⟩
  simp only [List.cons_append, List.nil_append] at hA
  replace hA := hA.symm
  subst hA
  rw [show n.toNat = 0 from by omega]
  refine WL_rd (Rd_move rfl) rfl rfl rfl ?_
  refine WL_rd (Rd_ext0 rfl) rfl rfl rfl ?_
  refine WL_rd (Rd_ext1 rfl) rfl rfl rfl ?_
  refine WL_rd (Rd_assign rfl) rfl rfl rfl ?_
  refine WL_rd (Rd_assign rfl) rfl rfl rfl ?_
  refine WL_end hK2 ?_
  refine WC_seq fun K3 hK3 => ?_
  refine WC_block ?_
  refine WC_sr fun K4 hK4 => ?_
  refine WL_rd (Rd_move rfl) rfl rfl rfl ?_
  refine WL_rd (Rd_neqN (j := 0) rfl rfl) rfl rfl rfl ?_
  refine WL_rd (Rd_assign rfl) rfl rfl rfl ?_
  refine WL_end hK4 ?_
  refine WC_cond rfl (fun hc0 => ?_) (fun hc0 => ?_)
  · try simp only [decide_eq_true_eq, decide_eq_false_iff_not, Bool.not_eq_true', Bool.not_eq_false', Bool.not_eq_true, Bool.not_eq_false, Int.not_lt, Int.not_le, Nat.not_lt, Nat.not_le, Decidable.not_not, ne_eq] at hc0
    refine WC_sr fun K5 hK5 => ?_
    refine WL_rd (Rd_move rfl) rfl rfl rfl ?_
    refine WL_rd (Rd_assign (v := sl none 0 0) rfl) rfl rfl rfl ?_
    refine WL_rd (Rd_assign rfl) rfl rfl rfl ?_
    refine WL_rd (Rd_assign rfl) rfl rfl rfl ?_
    refine WL_end hK5 ?_
    refine WC_ret ?_
    exact hret.go () (Rs3 rfl rfl rfl rfl)
  · try simp only [decide_eq_true_eq, decide_eq_false_iff_not, Bool.not_eq_true', Bool.not_eq_false', Bool.not_eq_true, Bool.not_eq_false, Int.not_lt, Int.not_le, Nat.not_lt, Nat.not_le, Decidable.not_not, ne_eq] at hc0
    exact absurd hc0 (by decide)

theorem rLeaves_ct {n : Int} {X : Asn} {v : Value} {ls : List Dg} {ao : Option Addr} {cap2 : Nat} (hS : Sv [X] v 32 fD ls ao cap2 := by assumption) : Ct Try.prog 119 [.int .i64 n, v] [X] (fun g : Option Nat × Nat => .tuple #[sl g.1 (lvL n.toNat ls).length g.2, .int .i64 (((lvA n.toNat ls) : Nat) : Int), .int .i64 (((lvE n.toNat ls) : Nat) : Int)]) (fun g => [X, arr g.1 g.2 32 42 fD (lvL n.toNat ls)]) := by
  by_cases h : 0 ≤ n
  · obtain ⟨m, rfl⟩ := Int.eq_ofNat_of_zero_le h
    rw [Int.toNat_natCast]
    exact rLeavesN_ct (hS := hS)
  · rw [show n.toNat = 0 from by omega]
    obtain ⟨e1, e2, e3⟩ := lv_w (n := 0) (ns := ls) (by decide)
    rw [e1, e2, e3]
    exact Ct_way fun F w hs => ⟨Unit, _, _, _, rLeavesZ_ct (hS := hS) (h := by omega), hs, fun _ w' hw => ⟨(none, 0), rfl, Sub.sat (by simp only [List.cons_append, List.nil_append]; repeat (first | with_reducible exact Sub.refl | with_reducible exact Sub.nil | with_reducible refine Sub.cons (by repeat (first | with_reducible exact Ext.here | with_reducible apply Ext.there)) ?_ | with_reducible refine Sub.tail ?_)) (sat_nil (e := 32) (T := 42) (f := fD) hw)⟩⟩

theorem leavesI_ct {n : Int} {X : Asn} {v : Value} {ls : List Dg} {ao : Option Addr} {cap2 : Nat} (hS : Sv [X] v 32 fD ls ao cap2 := by assumption) : Ct Try.prog 65 [.int .i64 n, v] [X] (fun g : Option Nat × Nat => .tuple #[sl g.1 (lvL n.toNat ls).length g.2, .int .i64 (((lvA n.toNat ls) : Nat) : Int), .int .i64 (((lvE n.toNat ls) : Nat) : Int)]) (fun g => [X, arr g.1 g.2 32 42 fD (lvL n.toNat ls)]) := by
  by_cases h : 0 ≤ n
  · obtain ⟨m, rfl⟩ := Int.eq_ofNat_of_zero_le h
    rw [Int.toNat_natCast]
    exact leaves_ct (hS := hS)
  · rw [show n.toNat = 0 from by omega]
    obtain ⟨e1, e2, e3⟩ := lv_w (n := 0) (ns := ls) (by decide)
    rw [e1, e2, e3]
    exact Ct_way fun F w hs => ⟨Unit, _, _, _, leavesZ_ct (hS := hS) (h := by omega), hs, fun _ w' hw => ⟨(none, 0), rfl, Sub.sat (by simp only [List.cons_append, List.nil_append]; repeat (first | with_reducible exact Sub.refl | with_reducible exact Sub.nil | with_reducible refine Sub.cons (by repeat (first | with_reducible exact Ext.here | with_reducible apply Ext.there)) ?_ | with_reducible refine Sub.tail ?_)) (sat_nil (e := 32) (T := 42) (f := fD) hw)⟩⟩
end Go.Proofs.Ythkchjcodibaeaa
