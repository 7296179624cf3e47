/-
  Contracts of functions that the claim reaches, or the logic and the plain laws that they rest on, or the row over them. (Conditions: none beyond the statement.)
-/
import Derived.Test.YthkchjcodibaeaaZqTreeF
set_option linter.all false
namespace Go.Proofs.Ythkchjcodibaeaa
open Go.RowKit Go.SL Go.ShM
set_option maxHeartbeats 1000000
set_option maxRecDepth 20000
set_option linter.all false
theorem cf59 : cfn Try.prog 59 = true := by kernel_rfl
theorem node_dg (x y : Dg) : dgM (tagB 6#8 [x.1, y.1]) = (nodeD x y).1 := by
  exact (tagD_ok (tagE6 x.2 y.2)).symm
theorem two_len (l : List B8) {x y : Dg} (h : l = tagB 6#8 [x.1, y.1]) : l.length ≤ 1000 := by
  rw [h]
  refine Nat.le_trans (tagB_len _ _) ?_
  simp only [List.flatten_cons, List.flatten_nil, List.length_append, List.length_cons, List.length_nil, Dg_len]
  omega

theorem TreeOne_ct {X : Asn} {v v' : Value} {cs ds : List Dg} {ao ao' : Option Addr} {cap2 cap3 : Nat} {n l : Int} {a b : Dg} (hS : Sv [X] v 32 fD cs ao cap2 := by assumption) (hS' : Sv [X] v' 32 fD ds ao' cap3 := by assumption) (hcl : cs.length ≤ 900000000000 := by omega) (hdl : ds.length ≤ 900000000000 := by omega) : Ct Try.prog 14 [.int .i64 n, .int .i64 l, aU .u8 a.1, aU .u8 b.1, v, v'] [X] (fun _ : Unit => .bool true) (fun _ => [X]) := by
  refine Ct_body (n := 107) Try.func14 rfl rfl rfl fun F w0 Q hret hnorm hp => ?_
  change WC _ _ _ _ _ _ _ (_ :: F)
  have ha0 := Dg_len a
  have hb0 := Dg_len b
  have hz32 : (List.replicate 32 0#8).length = 32 := rfl
  have hca := Dg_len (clD n l a cs)
  have hcb := Dg_len (clD n l b ds)
  refine WC_sr fun K1 hK1 => ?_
  refine WL_ac (Ac_boxW (k := .u8) rfl) rfl rfl rfl ?_
  rintro _ _ ⟨b8, rfl, rfl⟩
  refine WL_ac (Ac_boxW (k := .u8) rfl) rfl rfl rfl ?_
  rintro _ _ ⟨b9, rfl, rfl⟩
  refine WL_rd (Rd_assign rfl) rfl rfl rfl ?_
  refine WL_end hK1 ?_
  refine WC_seq fun K2 hK2 => ?_
  refine WC_sr fun K3 hK3 => ?_
  refine WL_ac (Ac_call cf53 rfl (hs := trlives_ct)) rfl rfl rfl ?_
  rintro _ _ ⟨⟨⟩, rfl, hA⟩
  simp only [List.cons_append, List.nil_append] at hA
  replace hA := hA.symm
  subst hA
  refine WL_rd (Rd_not rfl) rfl rfl rfl ?_
  refine WL_end hK3 ?_
  refine WC_condF rfl ?_
  refine WC_skip ?_
  refine Ps_next hK2 ?_
  refine WC_sr fun K4 hK4 => ?_
  refine WL_rd (Rd_move rfl) rfl rfl rfl ?_
  refine WL_rd (Rd_move rfl) rfl rfl rfl ?_
  refine WL_rd (Rd_loadW rfl tk42) rfl rfl rfl ?_
  refine WL_rd (Rd_move rfl) rfl rfl rfl ?_
  refine WL_ac (Ac_call cf59 rfl (hs := climb_ct (X := X) (cs := cs) (d := a) (hS := hS))) rfl rfl rfl ?_
  rintro _ _ ⟨⟨⟩, rfl, hA⟩
  simp only [List.cons_append, List.nil_append] at hA
  replace hA := hA.symm
  subst hA
  refine WL_rd (Rd_move rfl) rfl rfl rfl ?_
  refine WL_rd (Rd_ext0 rfl) rfl rfl rfl ?_
  refine WL_rd (Rd_ext1 rfl) rfl rfl rfl ?_
  refine WL_ac (Ac_allocW (k := .u8) (w := 8) (m := 32) zr42) rfl rfl rfl ?_
  rintro _ _ ⟨b13, rfl, rfl⟩
  refine WL_ac0 (Ac_storeW rfl rfl sz42) rfl rfl ?_
  rintro _ _ rfl
  refine WL_rd (Rd_assign rfl) rfl rfl rfl ?_
  refine WL_end hK4 ?_
  refine WC_sr fun K5 hK5 => ?_
  refine WL_rd (Rd_move rfl) rfl rfl rfl ?_
  refine WL_rd (Rd_move rfl) rfl rfl rfl ?_
  refine WL_rd (Rd_loadW rfl tk42) rfl rfl rfl ?_
  refine WL_rd (Rd_move rfl) rfl rfl rfl ?_
  refine WL_ac (Ac_call cf59 rfl (hs := climb_ct (X := X) (cs := ds) (d := b) (hS := hS'))) rfl rfl rfl ?_
  rintro _ _ ⟨⟨⟩, rfl, hA⟩
  simp only [List.cons_append, List.nil_append] at hA
  replace hA := hA.symm
  subst hA
  refine WL_rd (Rd_move rfl) rfl rfl rfl ?_
  refine WL_rd (Rd_ext0 rfl) rfl rfl rfl ?_
  refine WL_rd (Rd_ext1 rfl) rfl rfl rfl ?_
  refine WL_ac (Ac_allocW (k := .u8) (w := 8) (m := 32) zr42) rfl rfl rfl ?_
  rintro _ _ ⟨b15, rfl, rfl⟩
  refine WL_ac0 (Ac_storeW rfl rfl sz42) rfl rfl ?_
  rintro _ _ rfl
  refine WL_rd (Rd_assign rfl) rfl rfl rfl ?_
  refine WL_end hK5 ?_
  refine WC_seq fun K6 hK6 => ?_
  refine WC_sr fun K7 hK7 => ?_
  refine WL_rd (Rd_move rfl) rfl rfl rfl ?_
  refine WL_rd (Rd_neqN (j := 0) rfl rfl) rfl rfl rfl ?_
  refine WL_rd (Rd_move rfl) rfl rfl rfl ?_
  refine WL_bool 41 rfl (fun hg8 => ?_) (fun hg8 => ?_)
  · try simp only [decide_eq_true_eq, decide_eq_false_iff_not, Bool.not_eq_true', Bool.not_eq_false', Bool.not_eq_true, Bool.not_eq_false, Int.not_lt, Int.not_le, Nat.not_lt, Nat.not_le, Decidable.not_not, ne_eq] at hg8
    have q0 := hg8
    refine WL_skip rfl rfl rfl ?_
    refine WL_skip rfl rfl rfl ?_
    refine WL_rd (Rd_pickT rfl rfl) rfl rfl rfl ?_
    refine WL_rd (Rd_move rfl) rfl rfl rfl ?_
    refine WL_skip rfl rfl rfl ?_
    refine WL_skip rfl rfl rfl ?_
    refine WL_skip rfl rfl rfl ?_
    refine WL_rd (Rd_pickT rfl rfl) rfl rfl rfl ?_
    refine WL_end hK7 ?_
    refine WC_condT rfl ?_
    refine WC_sr fun K9 hK9 => ?_
    refine WL_rd (Rd_assign rfl) rfl rfl rfl ?_
    refine WL_end hK9 ?_
    refine WC_ret ?_
    first | exact hret.goE () (Rs1 rfl rfl) rfl
  · try simp only [decide_eq_true_eq, decide_eq_false_iff_not, Bool.not_eq_true', Bool.not_eq_false', Bool.not_eq_true, Bool.not_eq_false, Int.not_lt, Int.not_le, Nat.not_lt, Nat.not_le, Decidable.not_not, ne_eq] at hg8
    have q0 := hg8
    refine WL_rd (Rd_move rfl) rfl rfl rfl ?_
    refine WL_rd (Rd_neqN (j := 0) rfl rfl) rfl rfl rfl ?_
    refine WL_rd (Rd_pickF rfl rfl) rfl rfl rfl ?_
    refine WL_rd (Rd_move rfl) rfl rfl rfl ?_
    refine WL_bool 45 rfl (fun hg10 => ?_) (fun hg10 => ?_)
    · try simp only [decide_eq_true_eq, decide_eq_false_iff_not, Bool.not_eq_true', Bool.not_eq_false', Bool.not_eq_true, Bool.not_eq_false, Int.not_lt, Int.not_le, Nat.not_lt, Nat.not_le, Decidable.not_not, ne_eq] at hg10
      have q1 := hg10
      refine WL_skip rfl rfl rfl ?_
      refine WL_skip rfl rfl rfl ?_
      refine WL_skip rfl rfl rfl ?_
      refine WL_rd (Rd_pickT rfl rfl) rfl rfl rfl ?_
      refine WL_end hK7 ?_
      refine WC_condT rfl ?_
      refine WC_sr fun K11 hK11 => ?_
      refine WL_rd (Rd_assign rfl) rfl rfl rfl ?_
      refine WL_end hK11 ?_
      refine WC_ret ?_
      first | exact hret.goE () (Rs1 rfl rfl) rfl
    · try simp only [decide_eq_true_eq, decide_eq_false_iff_not, Bool.not_eq_true', Bool.not_eq_false', Bool.not_eq_true, Bool.not_eq_false, Int.not_lt, Int.not_le, Nat.not_lt, Nat.not_le, Decidable.not_not, ne_eq] at hg10
      have q1 := hg10
      refine WL_rd (Rd_loadW rfl tk42) rfl rfl rfl ?_
      refine WL_rd (Rd_loadW rfl tk42) rfl rfl rfl ?_
      refine WL_rd (Rd_neW rfl rfl ais42) rfl rfl rfl ?_
      refine WL_rd (Rd_pickF rfl rfl) rfl rfl rfl ?_
      refine WL_end hK7 ?_
      refine WC_cond rfl (fun hc1 => ?_) (fun hc1 => ?_)
      · try simp only [decide_eq_true_eq, decide_eq_false_iff_not, Bool.not_eq_true', Bool.not_eq_false', Bool.not_eq_true, Bool.not_eq_false, Int.not_lt, Int.not_le, Nat.not_lt, Nat.not_le, Decidable.not_not, ne_eq] at hc1
        refine WC_sr fun K12 hK12 => ?_
        refine WL_rd (Rd_assign rfl) rfl rfl rfl ?_
        refine WL_end hK12 ?_
        refine WC_ret ?_
        first | exact hret.goE () (Rs1 rfl rfl) rfl
      · try simp only [decide_eq_true_eq, decide_eq_false_iff_not, Bool.not_eq_true', Bool.not_eq_false', Bool.not_eq_true, Bool.not_eq_false, Int.not_lt, Int.not_le, Nat.not_lt, Nat.not_le, Decidable.not_not, ne_eq] at hc1
        refine WC_skip ?_
        refine Ps_next hK6 ?_
        refine WC_seq fun K13 hK13 => ?_
        refine WC_sr fun K14 hK14 => ?_
        refine WL_rd (Rd_loadW rfl tk42) rfl rfl rfl ?_
        refine WL_rd (Rd_loadW rfl tk42) rfl rfl rfl ?_
        refine WL_rd (Rd_eqW rfl rfl ais42) rfl rfl rfl ?_
        refine WL_rd (Rd_move rfl) rfl rfl rfl ?_
        refine WL_bool 53 rfl (fun hg15 => ?_) (fun hg15 => ?_)
        · try simp only [decide_eq_true_eq, decide_eq_false_iff_not, Bool.not_eq_true', Bool.not_eq_false', Bool.not_eq_true, Bool.not_eq_false, Int.not_lt, Int.not_le, Nat.not_lt, Nat.not_le, Decidable.not_not, ne_eq] at hg15
          have q2 := hg15
          refine WL_rd (Rd_move rfl) rfl rfl rfl ?_
          refine WL_rd (Rd_move rfl) rfl rfl rfl ?_
          refine WL_ac (Ac_call cf56 rfl (hs := sameD_ct (X := X) (l := cs) (l' := ds) (hS := hS) (hS' := hS'))) rfl rfl rfl ?_
          rintro _ _ ⟨⟨⟩, rfl, hA⟩
          simp only [List.cons_append, List.nil_append] at hA
          replace hA := hA.symm
          subst hA
          refine WL_rd (Rd_pickT rfl rfl) rfl rfl rfl ?_
          refine WL_end hK14 ?_
          refine WC_cond rfl (fun hc2 => ?_) (fun hc2 => ?_)
          · try simp only [decide_eq_true_eq, decide_eq_false_iff_not, Bool.not_eq_true', Bool.not_eq_false', Bool.not_eq_true, Bool.not_eq_false, Int.not_lt, Int.not_le, Nat.not_lt, Nat.not_le, Decidable.not_not, ne_eq] at hc2
            refine WC_sr fun K16 hK16 => ?_
            refine WL_rd (Rd_assign rfl) rfl rfl rfl ?_
            refine WL_end hK16 ?_
            refine WC_ret ?_
            first | exact hret.goE () (Rs1 rfl rfl) rfl
          · try simp only [decide_eq_true_eq, decide_eq_false_iff_not, Bool.not_eq_true', Bool.not_eq_false', Bool.not_eq_true, Bool.not_eq_false, Int.not_lt, Int.not_le, Nat.not_lt, Nat.not_le, Decidable.not_not, ne_eq] at hc2
            have hne : ¬ (a = b ∧ cs.drop 0 = ds.drop 0) := fun h => by first | exact hc2 h.2 | exact q2 (congrArg Subtype.val h.1)
            have hia := cl_inv q0
            have hib := cl_inv q1
            have hl0 := nd_pos hia.1
            have hr0 : clM ((chL (ndM n l)).drop 0) (cs.drop 0) a = clM ((chL (ndM n l)).drop 0) (ds.drop 0) b := by have h := Subtype.ext hc1; rw [cl_ok q0, cl_ok q1] at h; exact h
            refine WC_skip ?_
            refine Ps_next hK13 ?_
            refine WC_sr fun K17 hK17 => ?_
            refine WL_rd (Rd_valE (v := .int .i64 ((l.toNat : Nat) : Int)) (Rd_move rfl) (by rw [Int.toNat_of_nonneg hl0])) rfl rfl rfl ?_
            refine WL_rd (Rd_assign rfl) rfl rfl rfl ?_
            refine WL_end hK17 ?_
            refine WC_seq fun K18 hK18 => ?_
            refine WC_sr fun K19 hK19 => ?_
            refine WL_rd (Rd_assign rfl) rfl rfl rfl ?_
            refine WL_end hK19 ?_
            refine WC_block ?_
            refine WC_loopK (σ := Nat × Nat × Nat × Dg × Dg) (fun ⟨i', p', y', aa, bb⟩ => [(17, .int .i64 ((p' : Nat) : Int)), (18, .int .i64 ((i' : Nat) : Int))]) (fun ⟨i', p', y', aa, bb⟩ => [arr (some b8) a.1.length 1 42 (eU .u8) aa.1, arr (some b9) b.1.length 1 42 (eU .u8) bb.1]) (fun ⟨i', p', y', aa, bb⟩ => i' ≤ cs.length ∧ clM ((chL (ndM n l)).drop i') (cs.drop i') aa = clM ((chL (ndM n l)).drop i') (ds.drop i') bb ∧ ¬ (aa = bb ∧ cs.drop i' = ds.drop i') ∧ (chL (ndM n l)).drop i' = chL y' ∧ RP y' p' ∧ p' ≤ 512) (fun ⟨i', p', y', aa, bb⟩ => cs.length - i') ⟨0, l.toNat, ndM n l, a, b⟩ [4, 5, 8, 9] (by repeat (first | exact Kep.nil | apply Kep.drop rfl | apply Kep.keep rfl)) (by (try dsimp only); repeat (first | with_reducible exact Gv.nil | (with_reducible apply Gv.cons; · (repeat (first | with_reducible exact Ext.here | with_reducible apply Ext.there))))) ?_ ?_ Sub.refl ?_
            · exact ⟨Nat.zero_le _, hr0, hne, rfl, RP_nd hia.1, nd_lt hia.1⟩
            · (try dsimp only); exact (Wk.cons (by first | rfl | (simp only [List.length_append, List.length_cons, List.length_nil, List.length_replicate, Nat.zero_add]; rfl) | (simp; done)) (Wk.cons (by first | rfl | (simp only [List.length_append, List.length_cons, List.length_nil, List.length_replicate, Nat.zero_add]; rfl) | (simp; done)) Wk.nil))
            · rintro ⟨i', p', y', aa, bb⟩ ⟨hi, he1, he2, he3, he4, hp5⟩ K20 hK20
              simp only [List.cons_append, List.nil_append]
              refine WC_seq fun K21 hK21 => ?_
              refine WC_sr fun K22 hK22 => ?_
              refine WL_rd (Rd_move rfl) rfl rfl rfl ?_
              refine WL_rd (Rd_move rfl) rfl rfl rfl ?_
              refine WL_rd (Rd_len_sv rfl rfl ud76) rfl rfl rfl ?_
              refine WL_rd (Rd_lssN rfl rfl) rfl rfl rfl ?_
              refine WL_rd (Rd_move rfl) rfl rfl rfl ?_
              refine WL_bool 63 rfl (fun hg23 => ?_) (fun hg23 => ?_)
              · try simp only [decide_eq_true_eq, decide_eq_false_iff_not, Bool.not_eq_true', Bool.not_eq_false', Bool.not_eq_true, Bool.not_eq_false, Int.not_lt, Int.not_le, Nat.not_lt, Nat.not_le, Decidable.not_not, ne_eq] at hg23
                have q3 := hg23
                refine WL_rd (Rd_move rfl) rfl rfl rfl ?_
                refine WL_rd (Rd_move rfl) rfl rfl rfl ?_
                refine WL_rd (Rd_len_sv rfl rfl ud76) rfl rfl rfl ?_
                refine WL_rd (Rd_lssN rfl rfl) rfl rfl rfl ?_
                refine WL_rd (Rd_pickT rfl rfl) rfl rfl rfl ?_
                refine WL_end hK22 ?_
                refine WC_cond rfl (fun hc3 => ?_) (fun hc3 => ?_)
                · try simp only [decide_eq_true_eq, decide_eq_false_iff_not, Bool.not_eq_true', Bool.not_eq_false', Bool.not_eq_true, Bool.not_eq_false, Int.not_lt, Int.not_le, Nat.not_lt, Nat.not_le, Decidable.not_not, ne_eq] at hc3
                  have haa := Dg_len aa
                  have hbb := Dg_len bb
                  have hgc := Dg_len (cs.getD i' zD)
                  have hgd := Dg_len (ds.getD i' zD)
                  refine WC_skip ?_
                  refine Ps_next hK21 ?_
                  refine WC_seq fun K24 hK24 => ?_
                  refine WC_block ?_
                  refine WC_seq fun K25 hK25 => ?_
                  refine WC_drawA mix (fun i => ([2, 2, 2, 2, 2, 1, 2] : List Nat).getD i 0) ?_
                  refine WJ_tk 0 (Rd_loadW rfl tk42) hp ?_ rfl (by kernel_rfl) rfl rfl rfl
                  refine WJ_takeP 1 rfl (by kernel_rfl) (Rd_move rfl) rfl rfl rfl (hp _ _) ?_
                  refine WJ_takeP 2 rfl (by kernel_rfl) (Rd_move rfl) rfl rfl rfl (hp _ _) ?_
                  refine WJ_takeP 3 rfl (by kernel_rfl) (Rd_index_sv (i') rfl rfl ud76 sz42 (hA := hS) (hj := by omega) (hi := by omega)) rfl rfl rfl (hp _ _) ?_
                  refine WJ_tk 4 (Rd_aU (k := .u8) (l := ((cs).getD (i') zD).1) (Rd_loadg_sv (i := i') rfl tk42 (hA := hS) (hl := at_of (by omega))) rfl) hp ?_ rfl (by kernel_rfl) rfl rfl rfl
                  refine WJ_all (rs := [5]) (by kernel_rfl) rfl ?_
                  refine WI_one ?_
                  refine WI_ac rfl (Ac_call cf58 rfl (hs := two_ct (x := aa.1) (y := (cs.getD i' zD).1) (hx := Dg_len _) (hy := Dg_len _))) rfl rfl rfl rfl ?_
                  rintro _ _ ⟨⟨a76, cap76⟩, rfl, hA⟩
                  simp only [List.cons_append, List.nil_append] at hA
                  replace hA := hA.symm
                  subst hA
                  refine ⟨(fun _ => (by repeat (first | with_reducible exact Sub.refl | with_reducible exact Sub.nil | with_reducible refine Sub.cons (by repeat (first | with_reducible exact Ext.here | with_reducible apply Ext.there)) ?_ | with_reducible refine Sub.tail ?_))), ?_⟩
                  refine WJ_takeP 6 rfl (by kernel_rfl) (Rd_assign rfl) rfl rfl rfl (hp _ _) ?_
                  refine WJ_done (by kernel_rfl) ?_
                  refine Ps_next hK25 ?_
                  refine WC_seq fun K26 hK26 => ?_
                  refine WC_drawA mix (fun i => ([2, 2, 2, 2, 2, 1, 2] : List Nat).getD i 0) ?_
                  refine WJ_tk 0 (Rd_loadW rfl tk42) hp ?_ rfl (by kernel_rfl) rfl rfl rfl
                  refine WJ_takeP 1 rfl (by kernel_rfl) (Rd_move rfl) rfl rfl rfl (hp _ _) ?_
                  refine WJ_takeP 2 rfl (by kernel_rfl) (Rd_move rfl) rfl rfl rfl (hp _ _) ?_
                  refine WJ_takeP 3 rfl (by kernel_rfl) (Rd_index_sv (i') rfl rfl ud76 sz42 (hA := hS') (hj := by omega) (hi := by omega)) rfl rfl rfl (hp _ _) ?_
                  refine WJ_tk 4 (Rd_aU (k := .u8) (l := ((ds).getD (i') zD).1) (Rd_loadg_sv (i := i') rfl tk42 (hA := hS') (hl := at_of (by omega))) rfl) hp ?_ rfl (by kernel_rfl) rfl rfl rfl
                  refine WJ_all (rs := [5]) (by kernel_rfl) rfl ?_
                  refine WI_one ?_
                  refine WI_ac rfl (Ac_call cf58 rfl (hs := two_ct (x := bb.1) (y := (ds.getD i' zD).1) (hx := Dg_len _) (hy := Dg_len _))) rfl rfl rfl rfl ?_
                  rintro _ _ ⟨⟨a82, cap82⟩, rfl, hA⟩
                  simp only [List.cons_append, List.nil_append] at hA
                  replace hA := hA.symm
                  subst hA
                  refine ⟨(fun _ => (by repeat (first | with_reducible exact Sub.refl | with_reducible exact Sub.nil | with_reducible refine Sub.cons (by repeat (first | with_reducible exact Ext.here | with_reducible apply Ext.there)) ?_ | with_reducible refine Sub.tail ?_))), ?_⟩
                  refine WJ_takeP 6 rfl (by kernel_rfl) (Rd_assign rfl) rfl rfl rfl (hp _ _) ?_
                  refine WJ_done (by kernel_rfl) ?_
                  refine Ps_next hK26 ?_
                  refine WC_seq fun K27 hK27 => ?_
                  refine WC_sr fun K28 hK28 => ?_
                  refine WL_rd (Rd_move rfl) rfl rfl rfl ?_
                  refine WL_rd (Rd_remN (j := 2) rfl rfl) rfl rfl rfl ?_
                  refine WL_rd (Rd_eqlN (j := 1) rfl rfl) rfl rfl rfl ?_
                  refine WL_end hK28 ?_
                  refine WC_cond rfl (fun hc4 => ?_) (fun hc4 => ?_)
                  · try simp only [decide_eq_true_eq, decide_eq_false_iff_not, Bool.not_eq_true', Bool.not_eq_false', Bool.not_eq_true, Bool.not_eq_false, Int.not_lt, Int.not_le, Nat.not_lt, Nat.not_le, Decidable.not_not, ne_eq] at hc4
                    refine WC_seq fun K29 hK29 => ?_
                    refine WC_drawA mix (fun i => ([2, 2, 2, 2, 2, 1, 2] : List Nat).getD i 0) ?_
                    refine WJ_takeP 0 rfl (by kernel_rfl) (Rd_move rfl) rfl rfl rfl (hp _ _) ?_
                    refine WJ_takeP 1 rfl (by kernel_rfl) (Rd_move rfl) rfl rfl rfl (hp _ _) ?_
                    refine WJ_takeP 2 rfl (by kernel_rfl) (Rd_index_sv (i') rfl rfl ud76 sz42 (hA := hS) (hj := by omega) (hi := by omega)) rfl rfl rfl (hp _ _) ?_
                    refine WJ_tk 3 (Rd_aU (k := .u8) (l := ((cs).getD (i') zD).1) (Rd_loadg_sv (i := i') rfl tk42 (hA := hS) (hl := at_of (by omega))) rfl) hp ?_ rfl (by kernel_rfl) rfl rfl rfl
                    refine WJ_tk 4 (Rd_loadW rfl tk42) hp ?_ rfl (by kernel_rfl) rfl rfl rfl
                    refine WJ_all (rs := [5]) (by kernel_rfl) rfl ?_
                    refine WI_one ?_
                    refine WI_ac rfl (Ac_call cf58 rfl (hs := two_ct (x := (cs.getD i' zD).1) (y := aa.1) (hx := Dg_len _) (hy := Dg_len _))) rfl rfl rfl rfl ?_
                    rintro _ _ ⟨⟨a91, cap91⟩, rfl, hA⟩
                    simp only [List.cons_append, List.nil_append] at hA
                    replace hA := hA.symm
                    subst hA
                    refine ⟨(fun _ => (by repeat (first | with_reducible exact Sub.refl | with_reducible exact Sub.nil | with_reducible refine Sub.cons (by repeat (first | with_reducible exact Ext.here | with_reducible apply Ext.there)) ?_ | with_reducible refine Sub.tail ?_))), ?_⟩
                    refine WJ_takeP 6 rfl (by kernel_rfl) (Rd_assign rfl) rfl rfl rfl (hp _ _) ?_
                    refine WJ_done (by kernel_rfl) ?_
                    refine Ps_next hK29 ?_
                    refine WC_drawA mix (fun i => ([2, 2, 2, 2, 2, 1, 2] : List Nat).getD i 0) ?_
                    refine WJ_takeP 0 rfl (by kernel_rfl) (Rd_move rfl) rfl rfl rfl (hp _ _) ?_
                    refine WJ_takeP 1 rfl (by kernel_rfl) (Rd_move rfl) rfl rfl rfl (hp _ _) ?_
                    refine WJ_takeP 2 rfl (by kernel_rfl) (Rd_index_sv (i') rfl rfl ud76 sz42 (hA := hS') (hj := by omega) (hi := by omega)) rfl rfl rfl (hp _ _) ?_
                    refine WJ_tk 3 (Rd_aU (k := .u8) (l := ((ds).getD (i') zD).1) (Rd_loadg_sv (i := i') rfl tk42 (hA := hS') (hl := at_of (by omega))) rfl) hp ?_ rfl (by kernel_rfl) rfl rfl rfl
                    refine WJ_tk 4 (Rd_loadW rfl tk42) hp ?_ rfl (by kernel_rfl) rfl rfl rfl
                    refine WJ_all (rs := [5]) (by kernel_rfl) rfl ?_
                    refine WI_one ?_
                    refine WI_ac rfl (Ac_call cf58 rfl (hs := two_ct (x := (ds.getD i' zD).1) (y := bb.1) (hx := Dg_len _) (hy := Dg_len _))) rfl rfl rfl rfl ?_
                    rintro _ _ ⟨⟨a97, cap97⟩, rfl, hA⟩
                    simp only [List.cons_append, List.nil_append] at hA
                    replace hA := hA.symm
                    subst hA
                    refine ⟨(fun _ => (by repeat (first | with_reducible exact Sub.refl | with_reducible exact Sub.nil | with_reducible refine Sub.cons (by repeat (first | with_reducible exact Ext.here | with_reducible apply Ext.there)) ?_ | with_reducible refine Sub.tail ?_))), ?_⟩
                    refine WJ_takeP 6 rfl (by kernel_rfl) (Rd_assign rfl) rfl rfl rfl (hp _ _) ?_
                    refine WJ_done (by kernel_rfl) ?_
                    refine Ps_next hK27 ?_
                    refine WC_seq fun K30 hK30 => ?_
                    refine WC_sr fun K31 hK31 => ?_
                    refine WL_rd (Rd_move rfl) rfl rfl rfl ?_
                    refine WL_rd (Rd_move rfl) rfl rfl rfl ?_
                    have hlenL : ((tagB 6#8 [(cs.getD i' zD).1, aa.1])).length ≤ 1000 := two_len _ rfl
                    have hlenR : ((tagB 6#8 [(ds.getD i' zD).1, bb.1])).length ≤ 1000 := two_len _ rfl
                    refine WL_fact (fun w h => arr_facts (a := a91) (cap := cap91) (e := 1) (T := 5) (f := eU .u8 (w := 8)) (l := (tagB 6#8 [(cs.getD i' zD).1, aa.1])) (by repeat (first | with_reducible exact Has.here | with_reducible refine Has.there ?_)) h) (fun hSxf => ?_)
                    have hSx : Sv [arr a91 cap91 1 5 (eU .u8) (tagB 6#8 [(cs.getD i' zD).1, aa.1])] (sl a91 (tagB 6#8 [(cs.getD i' zD).1, aa.1]).length cap91) 1 (eU .u8 (w := 8)) (tagB 6#8 [(cs.getD i' zD).1, aa.1]) (a91.map fun g => ⟨g, 0, none⟩) cap91 := Sv_own' (encU .u8 (w := 8)) hSxf.1 hSxf.2
                    refine WL_fact (fun w h => arr_facts (a := a97) (cap := cap97) (e := 1) (T := 5) (f := eU .u8 (w := 8)) (l := (tagB 6#8 [(ds.getD i' zD).1, bb.1])) (by repeat (first | with_reducible exact Has.here | with_reducible refine Has.there ?_)) h) (fun hSyf => ?_)
                    have hSy : Sv [arr a97 cap97 1 5 (eU .u8) (tagB 6#8 [(ds.getD i' zD).1, bb.1])] (sl a97 (tagB 6#8 [(ds.getD i' zD).1, bb.1]).length cap97) 1 (eU .u8 (w := 8)) (tagB 6#8 [(ds.getD i' zD).1, bb.1]) (a97.map fun g => ⟨g, 0, none⟩) cap97 := Sv_own' (encU .u8 (w := 8)) hSyf.1 hSyf.2
                    refine WL_ac (Ac_call cf57 rfl (hs := Ct.un0 (Xs := [arr a91 cap91 1 5 (eU .u8) (tagB 6#8 [(cs.getD i' zD).1, aa.1]), arr a97 cap97 1 5 (eU .u8) (tagB 6#8 [(ds.getD i' zD).1, bb.1])]) (clash_ct (X := sep [arr a91 cap91 1 5 (eU .u8) (tagB 6#8 [(cs.getD i' zD).1, aa.1]), arr a97 cap97 1 5 (eU .u8) (tagB 6#8 [(ds.getD i' zD).1, bb.1])]) (l := (tagB 6#8 [(cs.getD i' zD).1, aa.1])) (l' := (tagB 6#8 [(ds.getD i' zD).1, bb.1])) (hS := hSx.pk (by repeat (first | with_reducible exact Has.here | with_reducible refine Has.there ?_))) (hS' := hSy.pk (by repeat (first | with_reducible exact Has.here | with_reducible refine Has.there ?_)))))) rfl rfl rfl ?_
                    rintro _ _ ⟨⟨⟩, rfl, hA⟩
                    simp only [List.cons_append, List.nil_append] at hA
                    replace hA := hA.symm
                    subst hA
                    refine WL_end hK31 ?_
                    refine WC_cond rfl (fun hc5 => ?_) (fun hc5 => ?_)
                    · try simp only [decide_eq_true_eq, decide_eq_false_iff_not, Bool.not_eq_true', Bool.not_eq_false', Bool.not_eq_true, Bool.not_eq_false, Int.not_lt, Int.not_le, Nat.not_lt, Nat.not_le, Decidable.not_not, ne_eq] at hc5
                      refine WC_sr fun K32 hK32 => ?_
                      refine WL_rd (Rd_assign rfl) rfl rfl rfl ?_
                      refine WL_end hK32 ?_
                      refine WC_ret ?_
                      first | exact hret.goE () (Rs1 rfl rfl) rfl
                    · try simp only [decide_eq_true_eq, decide_eq_false_iff_not, Bool.not_eq_true', Bool.not_eq_false', Bool.not_eq_true, Bool.not_eq_false, Int.not_lt, Int.not_le, Nat.not_lt, Nat.not_le, Decidable.not_not, ne_eq] at hc5
                      have hnLo := Dg_len (nodeD (cs.getD i' zD) aa)
                      have hnRo := Dg_len (nodeD (ds.getD i' zD) bb)
                      have hnLe := Dg_len (nodeD aa (cs.getD i' zD))
                      have hnRe := Dg_len (nodeD bb (ds.getD i' zD))
                      have hst := by first | exact one_stepO (p := p') (show i' < (chL (ndM n l)).length by omega) (by omega) (by omega) he1 he2 he3 he4 hc4 hc5 | exact one_stepE (p := p') (show i' < (chL (ndM n l)).length by omega) (by omega) (by omega) he1 he2 he3 he4 hc4 hc5
                      refine WC_skip ?_
                      refine Ps_next hK30 ?_
                      refine WC_sr fun K33 hK33 => ?_
                      refine WL_rd (Rd_move rfl) rfl rfl rfl ?_
                      refine WL_ac (Ac_call cf43 rfl (hs := sumR_ct (X := arr a91 cap91 1 5 (eU .u8) (tagB 6#8 [(cs.getD i' zD).1, aa.1])) (l := (tagB 6#8 [(cs.getD i' zD).1, aa.1])) (hS := hSx))) rfl rfl rfl ?_
                      rintro _ _ ⟨⟨⟩, rfl, hA⟩
                      simp only [List.cons_append, List.nil_append] at hA
                      replace hA := hA.symm
                      subst hA
                      rw [node_dg]
                      refine WL_ac0 (Ac_storeW rfl rfl sz42) rfl rfl ?_
                      rintro _ _ rfl
                      refine WL_end hK33 ?_
                      refine WC_sr fun K34 hK34 => ?_
                      refine WL_rd (Rd_move rfl) rfl rfl rfl ?_
                      refine WL_ac (Ac_call cf43 rfl (hs := sumR_ct (X := arr a97 cap97 1 5 (eU .u8) (tagB 6#8 [(ds.getD i' zD).1, bb.1])) (l := (tagB 6#8 [(ds.getD i' zD).1, bb.1])) (hS := hSy))) rfl rfl rfl ?_
                      rintro _ _ ⟨⟨⟩, rfl, hA⟩
                      simp only [List.cons_append, List.nil_append] at hA
                      replace hA := hA.symm
                      subst hA
                      rw [node_dg]
                      refine WL_ac0 (Ac_storeW rfl rfl sz42) rfl rfl ?_
                      rintro _ _ rfl
                      refine WL_end hK34 ?_
                      refine WC_region ?_
                      refine WL_rd (Rd_move rfl) rfl rfl rfl ?_
                      refine WL_rd (Rd_quoN (j := 2) rfl rfl) rfl rfl rfl ?_
                      refine WL_rd (Rd_assign rfl) rfl rfl rfl ?_
                      refine WL_nil ?_
                      refine Ps_next hK24 ?_
                      refine WC_region ?_
                      refine WL_rd (Rd_move rfl) rfl rfl rfl ?_
                      refine WL_rd (Rd_addN (j := 1) rfl rfl) rfl rfl rfl ?_
                      refine WL_rd (Rd_assign rfl) rfl rfl rfl ?_
                      refine WL_nil ?_
                      refine Ps_wk (by (try simp only [List.cons_append, List.nil_append]); repeat (first | with_reducible exact Wk.nil | refine Wk.cons (by first | rfl | (simp only [List.length_append, List.length_cons, List.length_nil, List.length_replicate, Nat.zero_add]; rfl) | (simp; done)) ?_)) (by (try simp only [List.cons_append, List.nil_append]); repeat (first | with_reducible exact Sub.refl | with_reducible exact Sub.nil | with_reducible refine Sub.cons (by repeat (first | with_reducible exact Ext.here | with_reducible apply Ext.there)) ?_ | with_reducible refine Sub.tail ?_)) (hK20 ⟨i' + 1, p' / 2, y' / 2, nodeD (cs.getD i' zD) aa, nodeD (ds.getD i' zD) bb⟩ (⟨by (try dsimp only); omega, hst.1, hst.2.1, hst.2.2.1, hst.2.2.2, by (try dsimp only); omega⟩) (by (try dsimp only); omega))
                  · try simp only [decide_eq_true_eq, decide_eq_false_iff_not, Bool.not_eq_true', Bool.not_eq_false', Bool.not_eq_true, Bool.not_eq_false, Int.not_lt, Int.not_le, Nat.not_lt, Nat.not_le, Decidable.not_not, ne_eq] at hc4
                    refine WC_skip ?_
                    refine Ps_next hK27 ?_
                    refine WC_seq fun K35 hK35 => ?_
                    refine WC_sr fun K36 hK36 => ?_
                    refine WL_rd (Rd_move rfl) rfl rfl rfl ?_
                    refine WL_rd (Rd_move rfl) rfl rfl rfl ?_
                    have hlenL : ((tagB 6#8 [aa.1, (cs.getD i' zD).1])).length ≤ 1000 := two_len _ rfl
                    have hlenR : ((tagB 6#8 [bb.1, (ds.getD i' zD).1])).length ≤ 1000 := two_len _ rfl
                    refine WL_fact (fun w h => arr_facts (a := a76) (cap := cap76) (e := 1) (T := 5) (f := eU .u8 (w := 8)) (l := (tagB 6#8 [aa.1, (cs.getD i' zD).1])) (by repeat (first | with_reducible exact Has.here | with_reducible refine Has.there ?_)) h) (fun hSxf => ?_)
                    have hSx : Sv [arr a76 cap76 1 5 (eU .u8) (tagB 6#8 [aa.1, (cs.getD i' zD).1])] (sl a76 (tagB 6#8 [aa.1, (cs.getD i' zD).1]).length cap76) 1 (eU .u8 (w := 8)) (tagB 6#8 [aa.1, (cs.getD i' zD).1]) (a76.map fun g => ⟨g, 0, none⟩) cap76 := Sv_own' (encU .u8 (w := 8)) hSxf.1 hSxf.2
                    refine WL_fact (fun w h => arr_facts (a := a82) (cap := cap82) (e := 1) (T := 5) (f := eU .u8 (w := 8)) (l := (tagB 6#8 [bb.1, (ds.getD i' zD).1])) (by repeat (first | with_reducible exact Has.here | with_reducible refine Has.there ?_)) h) (fun hSyf => ?_)
                    have hSy : Sv [arr a82 cap82 1 5 (eU .u8) (tagB 6#8 [bb.1, (ds.getD i' zD).1])] (sl a82 (tagB 6#8 [bb.1, (ds.getD i' zD).1]).length cap82) 1 (eU .u8 (w := 8)) (tagB 6#8 [bb.1, (ds.getD i' zD).1]) (a82.map fun g => ⟨g, 0, none⟩) cap82 := Sv_own' (encU .u8 (w := 8)) hSyf.1 hSyf.2
                    refine WL_ac (Ac_call cf57 rfl (hs := Ct.un0 (Xs := [arr a76 cap76 1 5 (eU .u8) (tagB 6#8 [aa.1, (cs.getD i' zD).1]), arr a82 cap82 1 5 (eU .u8) (tagB 6#8 [bb.1, (ds.getD i' zD).1])]) (clash_ct (X := sep [arr a76 cap76 1 5 (eU .u8) (tagB 6#8 [aa.1, (cs.getD i' zD).1]), arr a82 cap82 1 5 (eU .u8) (tagB 6#8 [bb.1, (ds.getD i' zD).1])]) (l := (tagB 6#8 [aa.1, (cs.getD i' zD).1])) (l' := (tagB 6#8 [bb.1, (ds.getD i' zD).1])) (hS := hSx.pk (by repeat (first | with_reducible exact Has.here | with_reducible refine Has.there ?_))) (hS' := hSy.pk (by repeat (first | with_reducible exact Has.here | with_reducible refine Has.there ?_)))))) rfl rfl rfl ?_
                    rintro _ _ ⟨⟨⟩, rfl, hA⟩
                    simp only [List.cons_append, List.nil_append] at hA
                    replace hA := hA.symm
                    subst hA
                    refine WL_end hK36 ?_
                    refine WC_cond rfl (fun hc5 => ?_) (fun hc5 => ?_)
                    · try simp only [decide_eq_true_eq, decide_eq_false_iff_not, Bool.not_eq_true', Bool.not_eq_false', Bool.not_eq_true, Bool.not_eq_false, Int.not_lt, Int.not_le, Nat.not_lt, Nat.not_le, Decidable.not_not, ne_eq] at hc5
                      refine WC_sr fun K37 hK37 => ?_
                      refine WL_rd (Rd_assign rfl) rfl rfl rfl ?_
                      refine WL_end hK37 ?_
                      refine WC_ret ?_
                      first | exact hret.goE () (Rs1 rfl rfl) rfl
                    · try simp only [decide_eq_true_eq, decide_eq_false_iff_not, Bool.not_eq_true', Bool.not_eq_false', Bool.not_eq_true, Bool.not_eq_false, Int.not_lt, Int.not_le, Nat.not_lt, Nat.not_le, Decidable.not_not, ne_eq] at hc5
                      have hnLo := Dg_len (nodeD (cs.getD i' zD) aa)
                      have hnRo := Dg_len (nodeD (ds.getD i' zD) bb)
                      have hnLe := Dg_len (nodeD aa (cs.getD i' zD))
                      have hnRe := Dg_len (nodeD bb (ds.getD i' zD))
                      have hst := by first | exact one_stepO (p := p') (show i' < (chL (ndM n l)).length by omega) (by omega) (by omega) he1 he2 he3 he4 hc4 hc5 | exact one_stepE (p := p') (show i' < (chL (ndM n l)).length by omega) (by omega) (by omega) he1 he2 he3 he4 hc4 hc5
                      refine WC_skip ?_
                      refine Ps_next hK35 ?_
                      refine WC_sr fun K38 hK38 => ?_
                      refine WL_rd (Rd_move rfl) rfl rfl rfl ?_
                      refine WL_ac (Ac_call cf43 rfl (hs := sumR_ct (X := arr a76 cap76 1 5 (eU .u8) (tagB 6#8 [aa.1, (cs.getD i' zD).1])) (l := (tagB 6#8 [aa.1, (cs.getD i' zD).1])) (hS := hSx))) rfl rfl rfl ?_
                      rintro _ _ ⟨⟨⟩, rfl, hA⟩
                      simp only [List.cons_append, List.nil_append] at hA
                      replace hA := hA.symm
                      subst hA
                      rw [node_dg]
                      refine WL_ac0 (Ac_storeW rfl rfl sz42) rfl rfl ?_
                      rintro _ _ rfl
                      refine WL_end hK38 ?_
                      refine WC_sr fun K39 hK39 => ?_
                      refine WL_rd (Rd_move rfl) rfl rfl rfl ?_
                      refine WL_ac (Ac_call cf43 rfl (hs := sumR_ct (X := arr a82 cap82 1 5 (eU .u8) (tagB 6#8 [bb.1, (ds.getD i' zD).1])) (l := (tagB 6#8 [bb.1, (ds.getD i' zD).1])) (hS := hSy))) rfl rfl rfl ?_
                      rintro _ _ ⟨⟨⟩, rfl, hA⟩
                      simp only [List.cons_append, List.nil_append] at hA
                      replace hA := hA.symm
                      subst hA
                      rw [node_dg]
                      refine WL_ac0 (Ac_storeW rfl rfl sz42) rfl rfl ?_
                      rintro _ _ rfl
                      refine WL_end hK39 ?_
                      refine WC_region ?_
                      refine WL_rd (Rd_move rfl) rfl rfl rfl ?_
                      refine WL_rd (Rd_quoN (j := 2) rfl rfl) rfl rfl rfl ?_
                      refine WL_rd (Rd_assign rfl) rfl rfl rfl ?_
                      refine WL_nil ?_
                      refine Ps_next hK24 ?_
                      refine WC_region ?_
                      refine WL_rd (Rd_move rfl) rfl rfl rfl ?_
                      refine WL_rd (Rd_addN (j := 1) rfl rfl) rfl rfl rfl ?_
                      refine WL_rd (Rd_assign rfl) rfl rfl rfl ?_
                      refine WL_nil ?_
                      refine Ps_wk (by (try simp only [List.cons_append, List.nil_append]); repeat (first | with_reducible exact Wk.nil | refine Wk.cons (by first | rfl | (simp only [List.length_append, List.length_cons, List.length_nil, List.length_replicate, Nat.zero_add]; rfl) | (simp; done)) ?_)) (by (try simp only [List.cons_append, List.nil_append]); repeat (first | with_reducible exact Sub.refl | with_reducible exact Sub.nil | with_reducible refine Sub.cons (by repeat (first | with_reducible exact Ext.here | with_reducible apply Ext.there)) ?_ | with_reducible refine Sub.tail ?_)) (hK20 ⟨i' + 1, p' / 2, y' / 2, nodeD aa (cs.getD i' zD), nodeD bb (ds.getD i' zD)⟩ (⟨by (try dsimp only); omega, hst.1, hst.2.1, hst.2.2.1, hst.2.2.2, by (try dsimp only); omega⟩) (by (try dsimp only); omega))
                · try simp only [decide_eq_true_eq, decide_eq_false_iff_not, Bool.not_eq_true', Bool.not_eq_false', Bool.not_eq_true, Bool.not_eq_false, Int.not_lt, Int.not_le, Nat.not_lt, Nat.not_le, Decidable.not_not, ne_eq] at hc3
                  exact (one_end (by omega) (by omega) (by omega) he1 he2).elim
              · try simp only [decide_eq_true_eq, decide_eq_false_iff_not, Bool.not_eq_true', Bool.not_eq_false', Bool.not_eq_true, Bool.not_eq_false, Int.not_lt, Int.not_le, Nat.not_lt, Nat.not_le, Decidable.not_not, ne_eq] at hg23
                have q3 := hg23
                refine WL_skip rfl rfl rfl ?_
                refine WL_skip rfl rfl rfl ?_
                refine WL_skip rfl rfl rfl ?_
                refine WL_skip rfl rfl rfl ?_
                refine WL_rd (Rd_pickF rfl rfl) rfl rfl rfl ?_
                refine WL_end hK22 ?_
                refine WC_condF rfl ?_
                exact (one_end (by omega) (by omega) (by omega) he1 he2).elim
        · try simp only [decide_eq_true_eq, decide_eq_false_iff_not, Bool.not_eq_true', Bool.not_eq_false', Bool.not_eq_true, Bool.not_eq_false, Int.not_lt, Int.not_le, Nat.not_lt, Nat.not_le, Decidable.not_not, ne_eq] at hg15
          have q2 := hg15
          refine WL_skip rfl rfl rfl ?_
          refine WL_skip rfl rfl rfl ?_
          refine WL_skip rfl rfl rfl ?_
          refine WL_rd (Rd_pickF rfl rfl) rfl rfl rfl ?_
          refine WL_end hK14 ?_
          refine WC_condF rfl ?_
          have hne : ¬ (a = b ∧ cs.drop 0 = ds.drop 0) := fun h => by first | exact hc2 h.2 | exact q2 (congrArg Subtype.val h.1)
          have hia := cl_inv q0
          have hib := cl_inv q1
          have hl0 := nd_pos hia.1
          have hr0 : clM ((chL (ndM n l)).drop 0) (cs.drop 0) a = clM ((chL (ndM n l)).drop 0) (ds.drop 0) b := by have h := Subtype.ext hc1; rw [cl_ok q0, cl_ok q1] at h; exact h
          refine WC_skip ?_
          refine Ps_next hK13 ?_
          refine WC_sr fun K40 hK40 => ?_
          refine WL_rd (Rd_valE (v := .int .i64 ((l.toNat : Nat) : Int)) (Rd_move rfl) (by rw [Int.toNat_of_nonneg hl0])) rfl rfl rfl ?_
          refine WL_rd (Rd_assign rfl) rfl rfl rfl ?_
          refine WL_end hK40 ?_
          refine WC_seq fun K41 hK41 => ?_
          refine WC_sr fun K42 hK42 => ?_
          refine WL_rd (Rd_assign rfl) rfl rfl rfl ?_
          refine WL_end hK42 ?_
          refine WC_block ?_
          refine WC_loopK (σ := Nat × Nat × Nat × Dg × Dg) (fun ⟨i', p', y', aa, bb⟩ => [(17, .int .i64 ((p' : Nat) : Int)), (18, .int .i64 ((i' : Nat) : Int))]) (fun ⟨i', p', y', aa, bb⟩ => [arr (some b8) a.1.length 1 42 (eU .u8) aa.1, arr (some b9) b.1.length 1 42 (eU .u8) bb.1]) (fun ⟨i', p', y', aa, bb⟩ => i' ≤ cs.length ∧ clM ((chL (ndM n l)).drop i') (cs.drop i') aa = clM ((chL (ndM n l)).drop i') (ds.drop i') bb ∧ ¬ (aa = bb ∧ cs.drop i' = ds.drop i') ∧ (chL (ndM n l)).drop i' = chL y' ∧ RP y' p' ∧ p' ≤ 512) (fun ⟨i', p', y', aa, bb⟩ => cs.length - i') ⟨0, l.toNat, ndM n l, a, b⟩ [4, 5, 8, 9] (by repeat (first | exact Kep.nil | apply Kep.drop rfl | apply Kep.keep rfl)) (by (try dsimp only); repeat (first | with_reducible exact Gv.nil | (with_reducible apply Gv.cons; · (repeat (first | with_reducible exact Ext.here | with_reducible apply Ext.there))))) ?_ ?_ Sub.refl ?_
          · exact ⟨Nat.zero_le _, hr0, hne, rfl, RP_nd hia.1, nd_lt hia.1⟩
          · (try dsimp only); exact (Wk.cons (by first | rfl | (simp only [List.length_append, List.length_cons, List.length_nil, List.length_replicate, Nat.zero_add]; rfl) | (simp; done)) (Wk.cons (by first | rfl | (simp only [List.length_append, List.length_cons, List.length_nil, List.length_replicate, Nat.zero_add]; rfl) | (simp; done)) Wk.nil))
          · rintro ⟨i', p', y', aa, bb⟩ ⟨hi, he1, he2, he3, he4, hp5⟩ K43 hK43
            simp only [List.cons_append, List.nil_append]
            refine WC_seq fun K44 hK44 => ?_
            refine WC_sr fun K45 hK45 => ?_
            refine WL_rd (Rd_move rfl) rfl rfl rfl ?_
            refine WL_rd (Rd_move rfl) rfl rfl rfl ?_
            refine WL_rd (Rd_len_sv rfl rfl ud76) rfl rfl rfl ?_
            refine WL_rd (Rd_lssN rfl rfl) rfl rfl rfl ?_
            refine WL_rd (Rd_move rfl) rfl rfl rfl ?_
            refine WL_bool 63 rfl (fun hg46 => ?_) (fun hg46 => ?_)
            · try simp only [decide_eq_true_eq, decide_eq_false_iff_not, Bool.not_eq_true', Bool.not_eq_false', Bool.not_eq_true, Bool.not_eq_false, Int.not_lt, Int.not_le, Nat.not_lt, Nat.not_le, Decidable.not_not, ne_eq] at hg46
              have q3 := hg46
              refine WL_rd (Rd_move rfl) rfl rfl rfl ?_
              refine WL_rd (Rd_move rfl) rfl rfl rfl ?_
              refine WL_rd (Rd_len_sv rfl rfl ud76) rfl rfl rfl ?_
              refine WL_rd (Rd_lssN rfl rfl) rfl rfl rfl ?_
              refine WL_rd (Rd_pickT rfl rfl) rfl rfl rfl ?_
              refine WL_end hK45 ?_
              refine WC_cond rfl (fun hc3 => ?_) (fun hc3 => ?_)
              · try simp only [decide_eq_true_eq, decide_eq_false_iff_not, Bool.not_eq_true', Bool.not_eq_false', Bool.not_eq_true, Bool.not_eq_false, Int.not_lt, Int.not_le, Nat.not_lt, Nat.not_le, Decidable.not_not, ne_eq] at hc3
                have haa := Dg_len aa
                have hbb := Dg_len bb
                have hgc := Dg_len (cs.getD i' zD)
                have hgd := Dg_len (ds.getD i' zD)
                refine WC_skip ?_
                refine Ps_next hK44 ?_
                refine WC_seq fun K47 hK47 => ?_
                refine WC_block ?_
                refine WC_seq fun K48 hK48 => ?_
                refine WC_drawA mix (fun i => ([2, 2, 2, 2, 2, 1, 2] : List Nat).getD i 0) ?_
                refine WJ_tk 0 (Rd_loadW rfl tk42) hp ?_ rfl (by kernel_rfl) rfl rfl rfl
                refine WJ_takeP 1 rfl (by kernel_rfl) (Rd_move rfl) rfl rfl rfl (hp _ _) ?_
                refine WJ_takeP 2 rfl (by kernel_rfl) (Rd_move rfl) rfl rfl rfl (hp _ _) ?_
                refine WJ_takeP 3 rfl (by kernel_rfl) (Rd_index_sv (i') rfl rfl ud76 sz42 (hA := hS) (hj := by omega) (hi := by omega)) rfl rfl rfl (hp _ _) ?_
                refine WJ_tk 4 (Rd_aU (k := .u8) (l := ((cs).getD (i') zD).1) (Rd_loadg_sv (i := i') rfl tk42 (hA := hS) (hl := at_of (by omega))) rfl) hp ?_ rfl (by kernel_rfl) rfl rfl rfl
                refine WJ_all (rs := [5]) (by kernel_rfl) rfl ?_
                refine WI_one ?_
                refine WI_ac rfl (Ac_call cf58 rfl (hs := two_ct (x := aa.1) (y := (cs.getD i' zD).1) (hx := Dg_len _) (hy := Dg_len _))) rfl rfl rfl rfl ?_
                rintro _ _ ⟨⟨a76, cap76⟩, rfl, hA⟩
                simp only [List.cons_append, List.nil_append] at hA
                replace hA := hA.symm
                subst hA
                refine ⟨(fun _ => (by repeat (first | with_reducible exact Sub.refl | with_reducible exact Sub.nil | with_reducible refine Sub.cons (by repeat (first | with_reducible exact Ext.here | with_reducible apply Ext.there)) ?_ | with_reducible refine Sub.tail ?_))), ?_⟩
                refine WJ_takeP 6 rfl (by kernel_rfl) (Rd_assign rfl) rfl rfl rfl (hp _ _) ?_
                refine WJ_done (by kernel_rfl) ?_
                refine Ps_next hK48 ?_
                refine WC_seq fun K49 hK49 => ?_
                refine WC_drawA mix (fun i => ([2, 2, 2, 2, 2, 1, 2] : List Nat).getD i 0) ?_
                refine WJ_tk 0 (Rd_loadW rfl tk42) hp ?_ rfl (by kernel_rfl) rfl rfl rfl
                refine WJ_takeP 1 rfl (by kernel_rfl) (Rd_move rfl) rfl rfl rfl (hp _ _) ?_
                refine WJ_takeP 2 rfl (by kernel_rfl) (Rd_move rfl) rfl rfl rfl (hp _ _) ?_
                refine WJ_takeP 3 rfl (by kernel_rfl) (Rd_index_sv (i') rfl rfl ud76 sz42 (hA := hS') (hj := by omega) (hi := by omega)) rfl rfl rfl (hp _ _) ?_
                refine WJ_tk 4 (Rd_aU (k := .u8) (l := ((ds).getD (i') zD).1) (Rd_loadg_sv (i := i') rfl tk42 (hA := hS') (hl := at_of (by omega))) rfl) hp ?_ rfl (by kernel_rfl) rfl rfl rfl
                refine WJ_all (rs := [5]) (by kernel_rfl) rfl ?_
                refine WI_one ?_
                refine WI_ac rfl (Ac_call cf58 rfl (hs := two_ct (x := bb.1) (y := (ds.getD i' zD).1) (hx := Dg_len _) (hy := Dg_len _))) rfl rfl rfl rfl ?_
                rintro _ _ ⟨⟨a82, cap82⟩, rfl, hA⟩
                simp only [List.cons_append, List.nil_append] at hA
                replace hA := hA.symm
                subst hA
                refine ⟨(fun _ => (by repeat (first | with_reducible exact Sub.refl | with_reducible exact Sub.nil | with_reducible refine Sub.cons (by repeat (first | with_reducible exact Ext.here | with_reducible apply Ext.there)) ?_ | with_reducible refine Sub.tail ?_))), ?_⟩
                refine WJ_takeP 6 rfl (by kernel_rfl) (Rd_assign rfl) rfl rfl rfl (hp _ _) ?_
                refine WJ_done (by kernel_rfl) ?_
                refine Ps_next hK49 ?_
                refine WC_seq fun K50 hK50 => ?_
                refine WC_sr fun K51 hK51 => ?_
                refine WL_rd (Rd_move rfl) rfl rfl rfl ?_
                refine WL_rd (Rd_remN (j := 2) rfl rfl) rfl rfl rfl ?_
                refine WL_rd (Rd_eqlN (j := 1) rfl rfl) rfl rfl rfl ?_
                refine WL_end hK51 ?_
                refine WC_cond rfl (fun hc4 => ?_) (fun hc4 => ?_)
                · try simp only [decide_eq_true_eq, decide_eq_false_iff_not, Bool.not_eq_true', Bool.not_eq_false', Bool.not_eq_true, Bool.not_eq_false, Int.not_lt, Int.not_le, Nat.not_lt, Nat.not_le, Decidable.not_not, ne_eq] at hc4
                  refine WC_seq fun K52 hK52 => ?_
                  refine WC_drawA mix (fun i => ([2, 2, 2, 2, 2, 1, 2] : List Nat).getD i 0) ?_
                  refine WJ_takeP 0 rfl (by kernel_rfl) (Rd_move rfl) rfl rfl rfl (hp _ _) ?_
                  refine WJ_takeP 1 rfl (by kernel_rfl) (Rd_move rfl) rfl rfl rfl (hp _ _) ?_
                  refine WJ_takeP 2 rfl (by kernel_rfl) (Rd_index_sv (i') rfl rfl ud76 sz42 (hA := hS) (hj := by omega) (hi := by omega)) rfl rfl rfl (hp _ _) ?_
                  refine WJ_tk 3 (Rd_aU (k := .u8) (l := ((cs).getD (i') zD).1) (Rd_loadg_sv (i := i') rfl tk42 (hA := hS) (hl := at_of (by omega))) rfl) hp ?_ rfl (by kernel_rfl) rfl rfl rfl
                  refine WJ_tk 4 (Rd_loadW rfl tk42) hp ?_ rfl (by kernel_rfl) rfl rfl rfl
                  refine WJ_all (rs := [5]) (by kernel_rfl) rfl ?_
                  refine WI_one ?_
                  refine WI_ac rfl (Ac_call cf58 rfl (hs := two_ct (x := (cs.getD i' zD).1) (y := aa.1) (hx := Dg_len _) (hy := Dg_len _))) rfl rfl rfl rfl ?_
                  rintro _ _ ⟨⟨a91, cap91⟩, rfl, hA⟩
                  simp only [List.cons_append, List.nil_append] at hA
                  replace hA := hA.symm
                  subst hA
                  refine ⟨(fun _ => (by repeat (first | with_reducible exact Sub.refl | with_reducible exact Sub.nil | with_reducible refine Sub.cons (by repeat (first | with_reducible exact Ext.here | with_reducible apply Ext.there)) ?_ | with_reducible refine Sub.tail ?_))), ?_⟩
                  refine WJ_takeP 6 rfl (by kernel_rfl) (Rd_assign rfl) rfl rfl rfl (hp _ _) ?_
                  refine WJ_done (by kernel_rfl) ?_
                  refine Ps_next hK52 ?_
                  refine WC_drawA mix (fun i => ([2, 2, 2, 2, 2, 1, 2] : List Nat).getD i 0) ?_
                  refine WJ_takeP 0 rfl (by kernel_rfl) (Rd_move rfl) rfl rfl rfl (hp _ _) ?_
                  refine WJ_takeP 1 rfl (by kernel_rfl) (Rd_move rfl) rfl rfl rfl (hp _ _) ?_
                  refine WJ_takeP 2 rfl (by kernel_rfl) (Rd_index_sv (i') rfl rfl ud76 sz42 (hA := hS') (hj := by omega) (hi := by omega)) rfl rfl rfl (hp _ _) ?_
                  refine WJ_tk 3 (Rd_aU (k := .u8) (l := ((ds).getD (i') zD).1) (Rd_loadg_sv (i := i') rfl tk42 (hA := hS') (hl := at_of (by omega))) rfl) hp ?_ rfl (by kernel_rfl) rfl rfl rfl
                  refine WJ_tk 4 (Rd_loadW rfl tk42) hp ?_ rfl (by kernel_rfl) rfl rfl rfl
                  refine WJ_all (rs := [5]) (by kernel_rfl) rfl ?_
                  refine WI_one ?_
                  refine WI_ac rfl (Ac_call cf58 rfl (hs := two_ct (x := (ds.getD i' zD).1) (y := bb.1) (hx := Dg_len _) (hy := Dg_len _))) rfl rfl rfl rfl ?_
                  rintro _ _ ⟨⟨a97, cap97⟩, rfl, hA⟩
                  simp only [List.cons_append, List.nil_append] at hA
                  replace hA := hA.symm
                  subst hA
                  refine ⟨(fun _ => (by repeat (first | with_reducible exact Sub.refl | with_reducible exact Sub.nil | with_reducible refine Sub.cons (by repeat (first | with_reducible exact Ext.here | with_reducible apply Ext.there)) ?_ | with_reducible refine Sub.tail ?_))), ?_⟩
                  refine WJ_takeP 6 rfl (by kernel_rfl) (Rd_assign rfl) rfl rfl rfl (hp _ _) ?_
                  refine WJ_done (by kernel_rfl) ?_
                  refine Ps_next hK50 ?_
                  refine WC_seq fun K53 hK53 => ?_
                  refine WC_sr fun K54 hK54 => ?_
                  refine WL_rd (Rd_move rfl) rfl rfl rfl ?_
                  refine WL_rd (Rd_move rfl) rfl rfl rfl ?_
                  have hlenL : ((tagB 6#8 [(cs.getD i' zD).1, aa.1])).length ≤ 1000 := two_len _ rfl
                  have hlenR : ((tagB 6#8 [(ds.getD i' zD).1, bb.1])).length ≤ 1000 := two_len _ rfl
                  refine WL_fact (fun w h => arr_facts (a := a91) (cap := cap91) (e := 1) (T := 5) (f := eU .u8 (w := 8)) (l := (tagB 6#8 [(cs.getD i' zD).1, aa.1])) (by repeat (first | with_reducible exact Has.here | with_reducible refine Has.there ?_)) h) (fun hSxf => ?_)
                  have hSx : Sv [arr a91 cap91 1 5 (eU .u8) (tagB 6#8 [(cs.getD i' zD).1, aa.1])] (sl a91 (tagB 6#8 [(cs.getD i' zD).1, aa.1]).length cap91) 1 (eU .u8 (w := 8)) (tagB 6#8 [(cs.getD i' zD).1, aa.1]) (a91.map fun g => ⟨g, 0, none⟩) cap91 := Sv_own' (encU .u8 (w := 8)) hSxf.1 hSxf.2
                  refine WL_fact (fun w h => arr_facts (a := a97) (cap := cap97) (e := 1) (T := 5) (f := eU .u8 (w := 8)) (l := (tagB 6#8 [(ds.getD i' zD).1, bb.1])) (by repeat (first | with_reducible exact Has.here | with_reducible refine Has.there ?_)) h) (fun hSyf => ?_)
                  have hSy : Sv [arr a97 cap97 1 5 (eU .u8) (tagB 6#8 [(ds.getD i' zD).1, bb.1])] (sl a97 (tagB 6#8 [(ds.getD i' zD).1, bb.1]).length cap97) 1 (eU .u8 (w := 8)) (tagB 6#8 [(ds.getD i' zD).1, bb.1]) (a97.map fun g => ⟨g, 0, none⟩) cap97 := Sv_own' (encU .u8 (w := 8)) hSyf.1 hSyf.2
                  refine WL_ac (Ac_call cf57 rfl (hs := Ct.un0 (Xs := [arr a91 cap91 1 5 (eU .u8) (tagB 6#8 [(cs.getD i' zD).1, aa.1]), arr a97 cap97 1 5 (eU .u8) (tagB 6#8 [(ds.getD i' zD).1, bb.1])]) (clash_ct (X := sep [arr a91 cap91 1 5 (eU .u8) (tagB 6#8 [(cs.getD i' zD).1, aa.1]), arr a97 cap97 1 5 (eU .u8) (tagB 6#8 [(ds.getD i' zD).1, bb.1])]) (l := (tagB 6#8 [(cs.getD i' zD).1, aa.1])) (l' := (tagB 6#8 [(ds.getD i' zD).1, bb.1])) (hS := hSx.pk (by repeat (first | with_reducible exact Has.here | with_reducible refine Has.there ?_))) (hS' := hSy.pk (by repeat (first | with_reducible exact Has.here | with_reducible refine Has.there ?_)))))) rfl rfl rfl ?_
                  rintro _ _ ⟨⟨⟩, rfl, hA⟩
                  simp only [List.cons_append, List.nil_append] at hA
                  replace hA := hA.symm
                  subst hA
                  refine WL_end hK54 ?_
                  refine WC_cond rfl (fun hc5 => ?_) (fun hc5 => ?_)
                  · try simp only [decide_eq_true_eq, decide_eq_false_iff_not, Bool.not_eq_true', Bool.not_eq_false', Bool.not_eq_true, Bool.not_eq_false, Int.not_lt, Int.not_le, Nat.not_lt, Nat.not_le, Decidable.not_not, ne_eq] at hc5
                    refine WC_sr fun K55 hK55 => ?_
                    refine WL_rd (Rd_assign rfl) rfl rfl rfl ?_
                    refine WL_end hK55 ?_
                    refine WC_ret ?_
                    first | exact hret.goE () (Rs1 rfl rfl) rfl
                  · try simp only [decide_eq_true_eq, decide_eq_false_iff_not, Bool.not_eq_true', Bool.not_eq_false', Bool.not_eq_true, Bool.not_eq_false, Int.not_lt, Int.not_le, Nat.not_lt, Nat.not_le, Decidable.not_not, ne_eq] at hc5
                    have hnLo := Dg_len (nodeD (cs.getD i' zD) aa)
                    have hnRo := Dg_len (nodeD (ds.getD i' zD) bb)
                    have hnLe := Dg_len (nodeD aa (cs.getD i' zD))
                    have hnRe := Dg_len (nodeD bb (ds.getD i' zD))
                    have hst := by first | exact one_stepO (p := p') (show i' < (chL (ndM n l)).length by omega) (by omega) (by omega) he1 he2 he3 he4 hc4 hc5 | exact one_stepE (p := p') (show i' < (chL (ndM n l)).length by omega) (by omega) (by omega) he1 he2 he3 he4 hc4 hc5
                    refine WC_skip ?_
                    refine Ps_next hK53 ?_
                    refine WC_sr fun K56 hK56 => ?_
                    refine WL_rd (Rd_move rfl) rfl rfl rfl ?_
                    refine WL_ac (Ac_call cf43 rfl (hs := sumR_ct (X := arr a91 cap91 1 5 (eU .u8) (tagB 6#8 [(cs.getD i' zD).1, aa.1])) (l := (tagB 6#8 [(cs.getD i' zD).1, aa.1])) (hS := hSx))) rfl rfl rfl ?_
                    rintro _ _ ⟨⟨⟩, rfl, hA⟩
                    simp only [List.cons_append, List.nil_append] at hA
                    replace hA := hA.symm
                    subst hA
                    rw [node_dg]
                    refine WL_ac0 (Ac_storeW rfl rfl sz42) rfl rfl ?_
                    rintro _ _ rfl
                    refine WL_end hK56 ?_
                    refine WC_sr fun K57 hK57 => ?_
                    refine WL_rd (Rd_move rfl) rfl rfl rfl ?_
                    refine WL_ac (Ac_call cf43 rfl (hs := sumR_ct (X := arr a97 cap97 1 5 (eU .u8) (tagB 6#8 [(ds.getD i' zD).1, bb.1])) (l := (tagB 6#8 [(ds.getD i' zD).1, bb.1])) (hS := hSy))) rfl rfl rfl ?_
                    rintro _ _ ⟨⟨⟩, rfl, hA⟩
                    simp only [List.cons_append, List.nil_append] at hA
                    replace hA := hA.symm
                    subst hA
                    rw [node_dg]
                    refine WL_ac0 (Ac_storeW rfl rfl sz42) rfl rfl ?_
                    rintro _ _ rfl
                    refine WL_end hK57 ?_
                    refine WC_region ?_
                    refine WL_rd (Rd_move rfl) rfl rfl rfl ?_
                    refine WL_rd (Rd_quoN (j := 2) rfl rfl) rfl rfl rfl ?_
                    refine WL_rd (Rd_assign rfl) rfl rfl rfl ?_
                    refine WL_nil ?_
                    refine Ps_next hK47 ?_
                    refine WC_region ?_
                    refine WL_rd (Rd_move rfl) rfl rfl rfl ?_
                    refine WL_rd (Rd_addN (j := 1) rfl rfl) rfl rfl rfl ?_
                    refine WL_rd (Rd_assign rfl) rfl rfl rfl ?_
                    refine WL_nil ?_
                    refine Ps_wk (by (try simp only [List.cons_append, List.nil_append]); repeat (first | with_reducible exact Wk.nil | refine Wk.cons (by first | rfl | (simp only [List.length_append, List.length_cons, List.length_nil, List.length_replicate, Nat.zero_add]; rfl) | (simp; done)) ?_)) (by (try simp only [List.cons_append, List.nil_append]); repeat (first | with_reducible exact Sub.refl | with_reducible exact Sub.nil | with_reducible refine Sub.cons (by repeat (first | with_reducible exact Ext.here | with_reducible apply Ext.there)) ?_ | with_reducible refine Sub.tail ?_)) (hK43 ⟨i' + 1, p' / 2, y' / 2, nodeD (cs.getD i' zD) aa, nodeD (ds.getD i' zD) bb⟩ (⟨by (try dsimp only); omega, hst.1, hst.2.1, hst.2.2.1, hst.2.2.2, by (try dsimp only); omega⟩) (by (try dsimp only); omega))
                · try simp only [decide_eq_true_eq, decide_eq_false_iff_not, Bool.not_eq_true', Bool.not_eq_false', Bool.not_eq_true, Bool.not_eq_false, Int.not_lt, Int.not_le, Nat.not_lt, Nat.not_le, Decidable.not_not, ne_eq] at hc4
                  refine WC_skip ?_
                  refine Ps_next hK50 ?_
                  refine WC_seq fun K58 hK58 => ?_
                  refine WC_sr fun K59 hK59 => ?_
                  refine WL_rd (Rd_move rfl) rfl rfl rfl ?_
                  refine WL_rd (Rd_move rfl) rfl rfl rfl ?_
                  have hlenL : ((tagB 6#8 [aa.1, (cs.getD i' zD).1])).length ≤ 1000 := two_len _ rfl
                  have hlenR : ((tagB 6#8 [bb.1, (ds.getD i' zD).1])).length ≤ 1000 := two_len _ rfl
                  refine WL_fact (fun w h => arr_facts (a := a76) (cap := cap76) (e := 1) (T := 5) (f := eU .u8 (w := 8)) (l := (tagB 6#8 [aa.1, (cs.getD i' zD).1])) (by repeat (first | with_reducible exact Has.here | with_reducible refine Has.there ?_)) h) (fun hSxf => ?_)
                  have hSx : Sv [arr a76 cap76 1 5 (eU .u8) (tagB 6#8 [aa.1, (cs.getD i' zD).1])] (sl a76 (tagB 6#8 [aa.1, (cs.getD i' zD).1]).length cap76) 1 (eU .u8 (w := 8)) (tagB 6#8 [aa.1, (cs.getD i' zD).1]) (a76.map fun g => ⟨g, 0, none⟩) cap76 := Sv_own' (encU .u8 (w := 8)) hSxf.1 hSxf.2
                  refine WL_fact (fun w h => arr_facts (a := a82) (cap := cap82) (e := 1) (T := 5) (f := eU .u8 (w := 8)) (l := (tagB 6#8 [bb.1, (ds.getD i' zD).1])) (by repeat (first | with_reducible exact Has.here | with_reducible refine Has.there ?_)) h) (fun hSyf => ?_)
                  have hSy : Sv [arr a82 cap82 1 5 (eU .u8) (tagB 6#8 [bb.1, (ds.getD i' zD).1])] (sl a82 (tagB 6#8 [bb.1, (ds.getD i' zD).1]).length cap82) 1 (eU .u8 (w := 8)) (tagB 6#8 [bb.1, (ds.getD i' zD).1]) (a82.map fun g => ⟨g, 0, none⟩) cap82 := Sv_own' (encU .u8 (w := 8)) hSyf.1 hSyf.2
                  refine WL_ac (Ac_call cf57 rfl (hs := Ct.un0 (Xs := [arr a76 cap76 1 5 (eU .u8) (tagB 6#8 [aa.1, (cs.getD i' zD).1]), arr a82 cap82 1 5 (eU .u8) (tagB 6#8 [bb.1, (ds.getD i' zD).1])]) (clash_ct (X := sep [arr a76 cap76 1 5 (eU .u8) (tagB 6#8 [aa.1, (cs.getD i' zD).1]), arr a82 cap82 1 5 (eU .u8) (tagB 6#8 [bb.1, (ds.getD i' zD).1])]) (l := (tagB 6#8 [aa.1, (cs.getD i' zD).1])) (l' := (tagB 6#8 [bb.1, (ds.getD i' zD).1])) (hS := hSx.pk (by repeat (first | with_reducible exact Has.here | with_reducible refine Has.there ?_))) (hS' := hSy.pk (by repeat (first | with_reducible exact Has.here | with_reducible refine Has.there ?_)))))) rfl rfl rfl ?_
                  rintro _ _ ⟨⟨⟩, rfl, hA⟩
                  simp only [List.cons_append, List.nil_append] at hA
                  replace hA := hA.symm
                  subst hA
                  refine WL_end hK59 ?_
                  refine WC_cond rfl (fun hc5 => ?_) (fun hc5 => ?_)
                  · try simp only [decide_eq_true_eq, decide_eq_false_iff_not, Bool.not_eq_true', Bool.not_eq_false', Bool.not_eq_true, Bool.not_eq_false, Int.not_lt, Int.not_le, Nat.not_lt, Nat.not_le, Decidable.not_not, ne_eq] at hc5
                    refine WC_sr fun K60 hK60 => ?_
                    refine WL_rd (Rd_assign rfl) rfl rfl rfl ?_
                    refine WL_end hK60 ?_
                    refine WC_ret ?_
                    first | exact hret.goE () (Rs1 rfl rfl) rfl
                  · try simp only [decide_eq_true_eq, decide_eq_false_iff_not, Bool.not_eq_true', Bool.not_eq_false', Bool.not_eq_true, Bool.not_eq_false, Int.not_lt, Int.not_le, Nat.not_lt, Nat.not_le, Decidable.not_not, ne_eq] at hc5
                    have hnLo := Dg_len (nodeD (cs.getD i' zD) aa)
                    have hnRo := Dg_len (nodeD (ds.getD i' zD) bb)
                    have hnLe := Dg_len (nodeD aa (cs.getD i' zD))
                    have hnRe := Dg_len (nodeD bb (ds.getD i' zD))
                    have hst := by first | exact one_stepO (p := p') (show i' < (chL (ndM n l)).length by omega) (by omega) (by omega) he1 he2 he3 he4 hc4 hc5 | exact one_stepE (p := p') (show i' < (chL (ndM n l)).length by omega) (by omega) (by omega) he1 he2 he3 he4 hc4 hc5
                    refine WC_skip ?_
                    refine Ps_next hK58 ?_
                    refine WC_sr fun K61 hK61 => ?_
                    refine WL_rd (Rd_move rfl) rfl rfl rfl ?_
                    refine WL_ac (Ac_call cf43 rfl (hs := sumR_ct (X := arr a76 cap76 1 5 (eU .u8) (tagB 6#8 [aa.1, (cs.getD i' zD).1])) (l := (tagB 6#8 [aa.1, (cs.getD i' zD).1])) (hS := hSx))) rfl rfl rfl ?_
                    rintro _ _ ⟨⟨⟩, rfl, hA⟩
                    simp only [List.cons_append, List.nil_append] at hA
                    replace hA := hA.symm
                    subst hA
                    rw [node_dg]
                    refine WL_ac0 (Ac_storeW rfl rfl sz42) rfl rfl ?_
                    rintro _ _ rfl
                    refine WL_end hK61 ?_
                    refine WC_sr fun K62 hK62 => ?_
                    refine WL_rd (Rd_move rfl) rfl rfl rfl ?_
                    refine WL_ac (Ac_call cf43 rfl (hs := sumR_ct (X := arr a82 cap82 1 5 (eU .u8) (tagB 6#8 [bb.1, (ds.getD i' zD).1])) (l := (tagB 6#8 [bb.1, (ds.getD i' zD).1])) (hS := hSy))) rfl rfl rfl ?_
                    rintro _ _ ⟨⟨⟩, rfl, hA⟩
                    simp only [List.cons_append, List.nil_append] at hA
                    replace hA := hA.symm
                    subst hA
                    rw [node_dg]
                    refine WL_ac0 (Ac_storeW rfl rfl sz42) rfl rfl ?_
                    rintro _ _ rfl
                    refine WL_end hK62 ?_
                    refine WC_region ?_
                    refine WL_rd (Rd_move rfl) rfl rfl rfl ?_
                    refine WL_rd (Rd_quoN (j := 2) rfl rfl) rfl rfl rfl ?_
                    refine WL_rd (Rd_assign rfl) rfl rfl rfl ?_
                    refine WL_nil ?_
                    refine Ps_next hK47 ?_
                    refine WC_region ?_
                    refine WL_rd (Rd_move rfl) rfl rfl rfl ?_
                    refine WL_rd (Rd_addN (j := 1) rfl rfl) rfl rfl rfl ?_
                    refine WL_rd (Rd_assign rfl) rfl rfl rfl ?_
                    refine WL_nil ?_
                    refine Ps_wk (by (try simp only [List.cons_append, List.nil_append]); repeat (first | with_reducible exact Wk.nil | refine Wk.cons (by first | rfl | (simp only [List.length_append, List.length_cons, List.length_nil, List.length_replicate, Nat.zero_add]; rfl) | (simp; done)) ?_)) (by (try simp only [List.cons_append, List.nil_append]); repeat (first | with_reducible exact Sub.refl | with_reducible exact Sub.nil | with_reducible refine Sub.cons (by repeat (first | with_reducible exact Ext.here | with_reducible apply Ext.there)) ?_ | with_reducible refine Sub.tail ?_)) (hK43 ⟨i' + 1, p' / 2, y' / 2, nodeD aa (cs.getD i' zD), nodeD bb (ds.getD i' zD)⟩ (⟨by (try dsimp only); omega, hst.1, hst.2.1, hst.2.2.1, hst.2.2.2, by (try dsimp only); omega⟩) (by (try dsimp only); omega))
              · try simp only [decide_eq_true_eq, decide_eq_false_iff_not, Bool.not_eq_true', Bool.not_eq_false', Bool.not_eq_true, Bool.not_eq_false, Int.not_lt, Int.not_le, Nat.not_lt, Nat.not_le, Decidable.not_not, ne_eq] at hc3
                exact (one_end (by omega) (by omega) (by omega) he1 he2).elim
            · try simp only [decide_eq_true_eq, decide_eq_false_iff_not, Bool.not_eq_true', Bool.not_eq_false', Bool.not_eq_true, Bool.not_eq_false, Int.not_lt, Int.not_le, Nat.not_lt, Nat.not_le, Decidable.not_not, ne_eq] at hg46
              have q3 := hg46
              refine WL_skip rfl rfl rfl ?_
              refine WL_skip rfl rfl rfl ?_
              refine WL_skip rfl rfl rfl ?_
              refine WL_skip rfl rfl rfl ?_
              refine WL_rd (Rd_pickF rfl rfl) rfl rfl rfl ?_
              refine WL_end hK45 ?_
              refine WC_condF rfl ?_
              exact (one_end (by omega) (by omega) (by omega) he1 he2).elim
end Go.Proofs.Ythkchjcodibaeaa
