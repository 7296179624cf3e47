/-
  Contracts of functions that the claim reaches, or the logic and the plain laws that they rest on, or the row over them. (Conditions: none beyond the statement.)
-/
import Derived.Test.YtgkpbeikcpecbaaPqTcB
set_option linter.all false
namespace Go.Proofs.Ytgkpbeikcpecbaa
open Go.RowKit Go.SL Go.ShM
set_option maxHeartbeats 1000000
set_option maxRecDepth 20000
set_option linter.all false
theorem cf130 : cfn Try.prog 130 = true := by kernel_rfl
theorem rClimb_ct {X : Asn} {v : Value} {cs : List Dg} {ao : Option Addr} {cap2 : Nat} {n l : Int} {d : Dg} (hS : Sv [X] v 32 fD cs ao cap2 := by assumption) (hcl : cs.length ≤ 900000000000 := by omega) : Ct Try.prog 131 [.int .i64 n, .int .i64 l, aU .u8 d.1, v] [X] (fun _ : Unit => .tuple #[aU .u8 (clD n l d cs).1, .int .i64 (((clE n l cs) : Nat) : Int)]) (fun _ => [X]) := by
  refine Ct_body (n := 54) Try.func131 rfl rfl rfl fun F w0 Q hret hnorm hp => ?_
  change WC _ _ _ _ _ _ _ (_ :: F)
  have hd0 := Dg_len d
  have hz32 : (List.replicate 32 0#8).length = 32 := rfl
  have hcd := Dg_len (clD n l d cs)
  refine WC_sr fun K1 hK1 => ?_
  refine WL_ac (Ac_boxW (k := .u8) rfl) rfl rfl rfl ?_
  rintro _ _ ⟨b6, rfl, rfl⟩
  refine WL_ac (Ac_allocW (k := .u8) (w := 8) (m := 32) zr42) rfl rfl rfl ?_
  rintro _ _ ⟨b8, rfl, rfl⟩
  refine WL_rd (Rd_assign rfl) rfl rfl rfl ?_
  refine WL_end hK1 ?_
  refine WC_sr fun K2 hK2 => ?_
  refine WL_rd (Rd_move rfl) rfl rfl rfl ?_
  refine WL_rd (Rd_move rfl) rfl rfl rfl ?_
  refine WL_ac (Ac_call cf130 rfl (hs := rChain_ct (n := n) (l := l))) rfl rfl rfl ?_
  rintro _ _ ⟨⟨a17, cap17⟩, rfl, hA⟩
  simp only [List.cons_append, List.nil_append] at hA
  replace hA := hA.symm
  subst hA
  refine WL_rd (Rd_move rfl) rfl rfl rfl ?_
  refine WL_rd (Rd_ext0 rfl) rfl rfl rfl ?_
  refine WL_rd (Rd_ext1 rfl) rfl rfl rfl ?_
  refine WL_rd (Rd_assign rfl) rfl rfl rfl ?_
  refine WL_rd (Rd_assign rfl) rfl rfl rfl ?_
  refine WL_end hK2 ?_
  refine WC_seq fun K3 hK3 => ?_
  refine WC_sr fun K4 hK4 => ?_
  refine WL_rd (Rd_move rfl) rfl rfl rfl ?_
  refine WL_rd (Rd_neqN (j := 0) rfl rfl) rfl rfl rfl ?_
  refine WL_end hK4 ?_
  refine WC_cond rfl (fun hc0 => ?_) (fun hc0 => ?_)
  · try simp only [decide_eq_true_eq, decide_eq_false_iff_not, Bool.not_eq_true', Bool.not_eq_false', Bool.not_eq_true, Bool.not_eq_false, Int.not_lt, Int.not_le, Nat.not_lt, Nat.not_le, Decidable.not_not, ne_eq] at hc0
    have hce := cl_e (c := cs) hc0
    rw [cl_z (d := d) (by omega), hce, show zD.1 = List.replicate 32 0#8 from rfl] at hret
    refine WC_sr fun K5 hK5 => ?_
    refine WL_rd (Rd_aU (k := .u8) (l := (List.replicate 32 0#8)) (Rd_build pls42 rfl) (by rfl)) rfl rfl rfl ?_
    refine WL_rd (Rd_move rfl) rfl rfl rfl ?_
    refine WL_ac0 (Ac_storeW rfl rfl sz42) rfl rfl ?_
    rintro _ _ rfl
    refine WL_rd (Rd_assign rfl) rfl rfl rfl ?_
    refine WL_end hK5 ?_
    refine WC_ret ?_
    first | exact hret.goE () (Rs2cW rfl rfl rfl tk42) rfl
  · try simp only [decide_eq_true_eq, decide_eq_false_iff_not, Bool.not_eq_true', Bool.not_eq_false', Bool.not_eq_true, Bool.not_eq_false, Int.not_lt, Int.not_le, Nat.not_lt, Nat.not_le, Decidable.not_not, ne_eq] at hc0
    refine WC_skip ?_
    refine Ps_next hK3 ?_
    refine WC_seq fun K6 hK6 => ?_
    refine WC_sr fun K7 hK7 => ?_
    refine WL_rd (Rd_move rfl) rfl rfl rfl ?_
    refine WL_rd (Rd_len rfl rfl ud101) rfl rfl rfl ?_
    refine WL_rd (Rd_move rfl) rfl rfl rfl ?_
    refine WL_rd (Rd_len_sv rfl rfl ud76) rfl rfl rfl ?_
    refine WL_rd (Rd_neqN rfl rfl) rfl rfl rfl ?_
    refine WL_end hK7 ?_
    refine WC_cond rfl (fun hc1 => ?_) (fun hc1 => ?_)
    · try simp only [decide_eq_true_eq, decide_eq_false_iff_not, Bool.not_eq_true', Bool.not_eq_false', Bool.not_eq_true, Bool.not_eq_false, Int.not_lt, Int.not_le, Nat.not_lt, Nat.not_le, Decidable.not_not, ne_eq] at hc1
      have hce := cl_l (c := cs) hc0 hc1
      rw [cl_z (d := d) (by omega), hce, show zD.1 = List.replicate 32 0#8 from rfl] at hret
      refine WC_sr fun K8 hK8 => ?_
      refine WL_rd (Rd_aU (k := .u8) (l := (List.replicate 32 0#8)) (Rd_build pls42 rfl) (by rfl)) rfl rfl rfl ?_
      refine WL_ac0 (Ac_storeW rfl rfl sz42) rfl rfl ?_
      rintro _ _ rfl
      refine WL_rd (Rd_assign rfl) rfl rfl rfl ?_
      refine WL_end hK8 ?_
      refine WC_ret ?_
      first | exact hret.goE () (Rs2cW rfl rfl rfl tk42) rfl
    · try simp only [decide_eq_true_eq, decide_eq_false_iff_not, Bool.not_eq_true', Bool.not_eq_false', Bool.not_eq_true, Bool.not_eq_false, Int.not_lt, Int.not_le, Nat.not_lt, Nat.not_le, Decidable.not_not, ne_eq] at hc1
      have hce := cl_0 (c := cs) hc0 hc1
      rw [cl_ok (d := d) hce, hce] at hret
      rw [cl_ok (d := d) hce] at hcd
      refine WC_skip ?_
      refine Ps_next hK6 ?_
      refine WC_seq fun K9 hK9 => ?_
      refine WC_sr fun K10 hK10 => ?_
      refine WL_rd (Rd_assign rfl) rfl rfl rfl ?_
      refine WL_end hK10 ?_
      refine WC_block ?_
      refine WC_loopK (σ := Nat × Dg) (fun ⟨i', dd⟩ => [(12, .int .i64 ((i' : Nat) : Int))]) (fun ⟨i', dd⟩ => [arr (some b6) d.1.length 1 42 (eU .u8) dd.1]) (fun ⟨i', dd⟩ => i' ≤ (chL (ndM n l)).length ∧ clM ((chL (ndM n l)).drop i') (cs.drop i') dd = clM (chL (ndM n l)) cs d) (fun ⟨i', dd⟩ => (chL (ndM n l)).length - i') ⟨0, d⟩ [3, 6, 8, 9, 10, 53] (by repeat (first | exact Kep.nil | apply Kep.drop rfl | apply Kep.keep rfl)) (by (try dsimp only); repeat (first | with_reducible exact Gv.nil | (with_reducible apply Gv.cons; · (repeat (first | with_reducible exact Ext.here | with_reducible apply Ext.there))))) ?_ ?_ Sub.refl ?_
      · exact ⟨Nat.zero_le _, rfl⟩
      · (try dsimp only); exact (Wk.cons (by first | rfl | (simp only [List.length_append, List.length_cons, List.length_nil, List.length_replicate, Nat.zero_add]; rfl) | (simp; done)) Wk.nil)
      · rintro ⟨i', dd⟩ ⟨hi, hinv⟩ K11 hK11
        simp only [List.cons_append, List.nil_append]
        refine WC_seq fun K12 hK12 => ?_
        refine WC_sr fun K13 hK13 => ?_
        refine WL_rd (Rd_move rfl) rfl rfl rfl ?_
        refine WL_rd (Rd_move rfl) rfl rfl rfl ?_
        refine WL_rd (Rd_len rfl rfl ud101) rfl rfl rfl ?_
        refine WL_rd (Rd_lssN rfl rfl) rfl rfl rfl ?_
        refine WL_end hK13 ?_
        refine WC_cond rfl (fun hc2 => ?_) (fun hc2 => ?_)
        · try simp only [decide_eq_true_eq, decide_eq_false_iff_not, Bool.not_eq_true', Bool.not_eq_false', Bool.not_eq_true, Bool.not_eq_false, Int.not_lt, Int.not_le, Nat.not_lt, Nat.not_le, Decidable.not_not, ne_eq] at hc2
          refine WC_some (a := a17) (by repeat (first | with_reducible exact Has.here | with_reducible refine Has.there ?_)) (by omega) (fun g17 hg17 hcp17 => ?_)
          subst hg17
          have hdd := Dg_len dd
          have hcc := Dg_len (cs.getD i' zD)
          have hst := cl_step (d := dd) (show i' < (chL (ndM n l)).length by omega) (show i' < cs.length by omega)
          refine WC_skip ?_
          refine Ps_next hK12 ?_
          refine WC_seq fun K14 hK14 => ?_
          refine WC_block ?_
          refine WC_sr fun K15 hK15 => ?_
          refine WL_rd (Rd_move rfl) rfl rfl rfl ?_
          refine WL_rd (Rd_move rfl) rfl rfl rfl ?_
          refine WL_rd (Rd_index i' rfl rfl ud101 sz3 (hj := by omega)) rfl rfl rfl ?_
          refine WL_rd (Rd_load_arr (i := i') (j := 0) rfl tk3 (hl := at_N (by omega))) rfl rfl rfl ?_
          refine WL_rd (Rd_remN (j := 2) rfl rfl) rfl rfl rfl ?_
          refine WL_rd (Rd_eqlN (j := 1) rfl rfl) rfl rfl rfl ?_
          refine WL_end hK15 ?_
          refine WC_cond rfl (fun hc3 => ?_) (fun hc3 => ?_)
          · try simp only [decide_eq_true_eq, decide_eq_false_iff_not, Bool.not_eq_true', Bool.not_eq_false', Bool.not_eq_true, Bool.not_eq_false, Int.not_lt, Int.not_le, Nat.not_lt, Nat.not_le, Decidable.not_not, ne_eq] at hc3
            rw [clA_odd (by omega)] at hst
            have hnn := Dg_len (nodeD dd (cs.getD i' zD))
            refine WC_drawA mix (fun i => ([2, 2, 2, 2, 2, 1, 0] : List Nat).getD i 0) ?_
            refine WJ_tk 0 (Rd_loadW rfl tk42) hp ?_ rfl (by kernel_rfl) rfl rfl rfl
            refine WJ_takeP 1 rfl (by kernel_rfl) (Rd_move rfl) rfl rfl rfl (hp _ _) ?_
            refine WJ_takeP 2 rfl (by kernel_rfl) (Rd_move rfl) rfl rfl rfl (hp _ _) ?_
            refine WJ_takeP 3 rfl (by kernel_rfl) (Rd_index_sv (i') rfl rfl ud76 sz42 (hA := hS) (hj := by omega) (hi := by omega)) rfl rfl rfl (hp _ _) ?_
            refine WJ_tk 4 (Rd_aU (k := .u8) (l := ((cs).getD (i') zD).1) (Rd_loadg_sv (i := i') rfl tk42 (hA := hS) (hl := at_of (by omega))) rfl) hp ?_ rfl (by kernel_rfl) rfl rfl rfl
            refine WJ_all (rs := [5]) (by kernel_rfl) rfl ?_
            refine WI_one ?_
            refine WI_ac rfl (Ac_call cf77 rfl (hs := nodeR_ct (x := dd.1) (y := (cs.getD i' zD).1) (hx := Dg_len _) (hy := Dg_len _))) rfl rfl rfl rfl ?_
            rintro _ _ ⟨⟨⟩, rfl, hA⟩
            simp only [List.cons_append, List.nil_append] at hA
            replace hA := hA.symm
            subst hA
            rw [show tagD 6#8 [dd.1, (cs.getD i' zD).1] = (nodeD dd (cs.getD i' zD)).1 from rfl]
            refine ⟨(fun _ => (by repeat (first | with_reducible exact Sub.refl | with_reducible exact Sub.nil | with_reducible refine Sub.cons (by repeat (first | with_reducible exact Ext.here | with_reducible apply Ext.there)) ?_ | with_reducible refine Sub.tail ?_))), ?_⟩
            refine WJ_all (rs := [6]) (by kernel_rfl) rfl ?_
            refine WI_one ?_
            refine WI_ac0 rfl (Ac_storeW rfl rfl sz42) rfl rfl rfl ?_
            rintro _ _ rfl
            refine ⟨(fun h => by cases h), ?_⟩
            refine WJ_done (by kernel_rfl) ?_
            refine Ps_next hK14 ?_
            refine WC_region ?_
            refine WL_rd (Rd_move rfl) rfl rfl rfl ?_
            refine WL_rd (Rd_addN (j := 1) rfl rfl) rfl rfl rfl ?_
            refine WL_rd (Rd_assign rfl) rfl rfl rfl ?_
            refine WL_nil ?_
            refine Ps_wk (by (try simp only [List.cons_append, List.nil_append]); repeat (first | with_reducible exact Wk.nil | refine Wk.cons (by first | rfl | (simp only [List.length_append, List.length_cons, List.length_nil, List.length_replicate, Nat.zero_add]; rfl) | (simp; done)) ?_)) (by (try simp only [List.cons_append, List.nil_append]); repeat (first | with_reducible exact Sub.refl | with_reducible exact Sub.nil | with_reducible refine Sub.cons (by repeat (first | with_reducible exact Ext.here | with_reducible apply Ext.there)) ?_ | with_reducible refine Sub.tail ?_)) (hK11 ⟨i' + 1, nodeD dd (cs.getD i' zD)⟩ (⟨by (try dsimp only); omega, by (try dsimp only); rw [← hst]; exact hinv⟩) (by (try dsimp only); omega))
          · try simp only [decide_eq_true_eq, decide_eq_false_iff_not, Bool.not_eq_true', Bool.not_eq_false', Bool.not_eq_true, Bool.not_eq_false, Int.not_lt, Int.not_le, Nat.not_lt, Nat.not_le, Decidable.not_not, ne_eq] at hc3
            rw [clA_even (by omega)] at hst
            have hnn := Dg_len (nodeD (cs.getD i' zD) dd)
            refine WC_drawA mix (fun i => ([2, 2, 2, 2, 2, 1, 0] : List Nat).getD i 0) ?_
            refine WJ_takeP 0 rfl (by kernel_rfl) (Rd_move rfl) rfl rfl rfl (hp _ _) ?_
            refine WJ_takeP 1 rfl (by kernel_rfl) (Rd_move rfl) rfl rfl rfl (hp _ _) ?_
            refine WJ_takeP 2 rfl (by kernel_rfl) (Rd_index_sv (i') rfl rfl ud76 sz42 (hA := hS) (hj := by omega) (hi := by omega)) rfl rfl rfl (hp _ _) ?_
            refine WJ_tk 3 (Rd_aU (k := .u8) (l := ((cs).getD (i') zD).1) (Rd_loadg_sv (i := i') rfl tk42 (hA := hS) (hl := at_of (by omega))) rfl) hp ?_ rfl (by kernel_rfl) rfl rfl rfl
            refine WJ_tk 4 (Rd_loadW rfl tk42) hp ?_ rfl (by kernel_rfl) rfl rfl rfl
            refine WJ_all (rs := [5]) (by kernel_rfl) rfl ?_
            refine WI_one ?_
            refine WI_ac rfl (Ac_call cf77 rfl (hs := nodeR_ct (x := (cs.getD i' zD).1) (y := dd.1) (hx := Dg_len _) (hy := Dg_len _))) rfl rfl rfl rfl ?_
            rintro _ _ ⟨⟨⟩, rfl, hA⟩
            simp only [List.cons_append, List.nil_append] at hA
            replace hA := hA.symm
            subst hA
            rw [show tagD 6#8 [(cs.getD i' zD).1, dd.1] = (nodeD (cs.getD i' zD) dd).1 from rfl]
            refine ⟨(fun _ => (by repeat (first | with_reducible exact Sub.refl | with_reducible exact Sub.nil | with_reducible refine Sub.cons (by repeat (first | with_reducible exact Ext.here | with_reducible apply Ext.there)) ?_ | with_reducible refine Sub.tail ?_))), ?_⟩
            refine WJ_all (rs := [6]) (by kernel_rfl) rfl ?_
            refine WI_one ?_
            refine WI_ac0 rfl (Ac_storeW rfl rfl sz42) rfl rfl rfl ?_
            rintro _ _ rfl
            refine ⟨(fun h => by cases h), ?_⟩
            refine WJ_done (by kernel_rfl) ?_
            refine Ps_next hK14 ?_
            refine WC_region ?_
            refine WL_rd (Rd_move rfl) rfl rfl rfl ?_
            refine WL_rd (Rd_addN (j := 1) rfl rfl) rfl rfl rfl ?_
            refine WL_rd (Rd_assign rfl) rfl rfl rfl ?_
            refine WL_nil ?_
            refine Ps_wk (by (try simp only [List.cons_append, List.nil_append]); repeat (first | with_reducible exact Wk.nil | refine Wk.cons (by first | rfl | (simp only [List.length_append, List.length_cons, List.length_nil, List.length_replicate, Nat.zero_add]; rfl) | (simp; done)) ?_)) (by (try simp only [List.cons_append, List.nil_append]); repeat (first | with_reducible exact Sub.refl | with_reducible exact Sub.nil | with_reducible refine Sub.cons (by repeat (first | with_reducible exact Ext.here | with_reducible apply Ext.there)) ?_ | with_reducible refine Sub.tail ?_)) (hK11 ⟨i' + 1, nodeD (cs.getD i' zD) dd⟩ (⟨by (try dsimp only); omega, by (try dsimp only); rw [← hst]; exact hinv⟩) (by (try dsimp only); omega))
        · try simp only [decide_eq_true_eq, decide_eq_false_iff_not, Bool.not_eq_true', Bool.not_eq_false', Bool.not_eq_true, Bool.not_eq_false, Int.not_lt, Int.not_le, Nat.not_lt, Nat.not_le, Decidable.not_not, ne_eq] at hc2
          rw [List.drop_eq_nil_of_le (show (chL (ndM n l)).length ≤ i' by omega), clM_nil] at hinv
          have hdd := Dg_len dd
          refine WC_exit ?_
          refine Ps_next hK9 ?_
          refine WC_sr fun K16 hK16 => ?_
          refine WL_rd (Rd_loadW rfl tk42) rfl rfl rfl ?_
          refine WL_ac0 (Ac_storeW rfl rfl sz42) rfl rfl ?_
          rintro _ _ rfl
          rw [hinv]
          refine WL_rd (Rd_assign rfl) rfl rfl rfl ?_
          refine WL_end hK16 ?_
          refine WC_ret ?_
          first | exact hret.goE () (Rs2cW rfl rfl rfl tk42) rfl

end Go.Proofs.Ytgkpbeikcpecbaa
