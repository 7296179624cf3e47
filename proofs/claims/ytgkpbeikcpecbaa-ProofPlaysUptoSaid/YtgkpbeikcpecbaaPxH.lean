/-
  Contracts of functions that the claim reaches, or the logic and the plain laws that they rest on, or the row over them. (Conditions: none beyond the statement.)
-/
import Derived.Test.YtgkpbeikcpecbaaPxP
import Derived.Test.YtgkpbeikcpecbaaPfL
set_option linter.all false
namespace Go.Proofs.Ytgkpbeikcpecbaa
open Go.RowKit Go.SL Go.ShM
set_option maxHeartbeats 1000000
set_option maxRecDepth 20000
set_option linter.all false
theorem cf72 : cfn Try.prog 72 = true := by kernel_rfl
theorem cf74 : cfn Try.prog 74 = true := by kernel_rfl
theorem cf83 : cfn Try.prog 83 = true := by kernel_rfl
theorem cf84 : cfn Try.prog 84 = true := by kernel_rfl
theorem cf85 : cfn Try.prog 85 = true := by kernel_rfl
theorem leaf_ct {i : Nat} (hi : i ≤ 1000000 := by omega) : Ct Try.prog 85 [.int .i64 ((i : Nat) : Int)] [] (fun _ : Unit => aU .u8 (leafD i).1) (fun _ => []) := by
 refine Ct_body (n := 9) Try.func85 rfl rfl rfl fun F w0 Q hret hnorm hp => ?_
 change WC _ _ _ _ _ _ _ (F)
 have hz32 : (leafD i).1.length = 32 := rfl
 refine WC_sr fun K1 hK1 => ?_
 refine WL_ac (Ac_allocW (k := .u8) (w := 8) (m := 32) zr42) rfl rfl rfl ?_
 rintro _ _ ⟨b2, rfl, rfl⟩
 refine WL_end hK1 ?_
 refine WC_sr fun K2 hK2 => ?_
 refine WL_r (Rd_move rfl) rfl ?_
 refine WL_r (Rd_convNU rfl ikd3_5 (h' := uk8)) rfl ?_
 refine WL_r (Rd_move rfl) rfl ?_
 refine WL_r (Rd_quoN (j := 256) rfl rfl) rfl ?_
 refine WL_r (Rd_convNU rfl ikd3_5 (h' := uk8)) rfl ?_
 refine WL_r (Rd_aU (k := .u8) (l := (leafD i).1) (Rd_build pls42 rfl) (by rfl)) rfl ?_
 refine WL_ac0 (Ac_storeW rfl rfl sz42) rfl rfl ?_
 rintro _ _ rfl
 refine WL_end hK2 ?_
 refine WC_ret ?_
 exact hret.gf () (Rs1W rfl rfl tk42)

theorem awake_ct   : Ct Try.prog 73 [] [] (fun _ : Unit => .bool true) (fun _ => []) := by
 refine Ct_body (n := 100) Try.func73 rfl rfl rfl fun F w0 Q hret hnorm hp => ?_
 change WC _ _ _ _ _ _ _ (F)
 refine WC_sr fun K1 hK1 => ?_
 refine WL_r (Rd_assign rfl) rfl ?_
 refine WL_end hK1 ?_
 refine WC_sr fun K2 hK2 => ?_
 refine WL_ac (Ac_call cf85 rfl (hs := leaf_ct (i := 0) (hi := by decide))) rfl rfl rfl ?_
 rintro _ _ ⟨⟨⟩, rfl, hA⟩
 simp only [List.cons_append, List.nil_append] at hA
 replace hA := hA.symm
 subst hA
 have hlf0 := Dg_len (leafD 0)
 refine WL_ac (Ac_call cf85 rfl (hs := leaf_ct (i := 1) (hi := by decide))) rfl rfl rfl ?_
 rintro _ _ ⟨⟨⟩, rfl, hA⟩
 simp only [List.cons_append, List.nil_append] at hA
 replace hA := hA.symm
 subst hA
 have hlf1 := Dg_len (leafD 1)
 refine WL_ac (Ac_call cf85 rfl (hs := leaf_ct (i := 2) (hi := by decide))) rfl rfl rfl ?_
 rintro _ _ ⟨⟨⟩, rfl, hA⟩
 simp only [List.cons_append, List.nil_append] at hA
 replace hA := hA.symm
 subst hA
 have hlf2 := Dg_len (leafD 2)
 refine WL_ac (Ac_bsF ([leafD 0, leafD 1, leafD 2] : List Dg) dV encD dV_cells ud76 zr42 sz42 rfl rfl rfl rfl) rfl rfl rfl ?_
 rintro _ _ ⟨b16, rfl, rfl⟩
 have hS16 := Sv_own' (a := some b16) (cap := 3) (T := 42) (l := [leafD 0, leafD 1, leafD 2]) encD (fun e => by cases e) (Nat.le_refl _)
 refine WL_ac (Ac_call cf82 rfl (hs := rBuild_ct (hS := hS16))) rfl rfl rfl ?_
 rintro _ _ ⟨⟨a17, cap17⟩, rfl, hA⟩
 simp only [List.cons_append, List.nil_append] at hA
 replace hA := hA.symm
 subst hA
 rw [show bldM _ = exBL from rfl]
 refine WL_some (a := a17) hasA (by decide) (fun g17 hgb _ => ?_)
 subst hgb
 refine WL_r (Rd_move rfl) rfl ?_
 refine WL_r (Rd_ext0 rfl) rfl ?_
 refine WL_r (Rd_ext1 rfl) rfl ?_
 refine WL_r (Rd_assign rfl) rfl ?_
 refine WL_r (Rd_assign rfl) rfl ?_
 refine WL_end hK2 ?_
 refine WC_seq fun K3 hK3 => ?_
 refine WC_sr fun K4 hK4 => ?_
 refine WL_r (Rd_move rfl) rfl ?_
 refine WL_r (Rd_isF (Rd_neqN (j := 0) rfl rfl)) rfl ?_
 refine WL_end hK4 ?_
 refine WC_condF rfl ?_
 refine WC_skip ?_
 refine Ps_next hK3 ?_
 refine WC_sr fun K5 hK5 => ?_
 refine WL_r (Rd_move rfl) rfl ?_
 refine WL_r (Rd_index 0 rfl rfl ud76 sz42 (hi := by decide)) rfl ?_
 refine WL_r (Rd_aU (k := .u8) (l := exR.1) (Rd_loadg_arr (f := fD) (i := 0) rfl tk42 (hl := (rfl : (exBL)[0]? = some exR))) rfl) rfl ?_
 refine WL_ac (Ac_call cf72 rfl (hs := pNew_ct (n := 3) (root := exR) (h1 := by decide) (h2 := by decide))) rfl rfl rfl ?_
 rintro _ _ ⟨⟨pb, m⟩, rfl, hA⟩
 simp only [List.cons_append, List.nil_append] at hA
 replace hA := hA.symm
 subst hA
 rw [exW]
 refine WL_r (Rd_move rfl) rfl ?_
 refine WL_r (Rd_ext0 rfl) rfl ?_
 refine WL_r (Rd_ext1 rfl) rfl ?_
 refine WL_r (Rd_assign rfl) rfl ?_
 refine WL_r (Rd_assign rfl) rfl ?_
 refine WL_end hK5 ?_
 refine WC_seq fun K6 hK6 => ?_
 refine WC_sr fun K7 hK7 => ?_
 refine WL_r (Rd_move rfl) rfl ?_
 refine WL_r (Rd_peq rfl rfl ud121) rfl ?_
 refine WL_r (Rd_move rfl) rfl ?_
 refine WL_r (Rd_move rfl) rfl ?_
 refine WL_r (Rd_isF (Rd_neq rfl rfl)) rfl ?_
 refine WL_r (Rd_pickF rfl rfl) rfl ?_
 refine WL_end hK7 ?_
 refine WC_condF rfl ?_
 refine WC_skip ?_
 refine Ps_next hK6 ?_
 refine WC_sr fun K8 hK8 => ?_
 refine WL_r (Rd_move rfl) rfl ?_
 refine WL_ac (Ac_call cf83 rfl (hs := pNeeds_ct (pb := pb) (m := m) (n := 3) (w := 4) (Kn := (newK 3 exR)) (i0 := 0) (hw := rfl) (h1 := by decide) (h2 := by decide))) rfl rfl rfl ?_
 rintro _ _ ⟨⟨a37, cap37⟩, rfl, hA⟩
 simp only [List.cons_append, List.nil_append] at hA
 replace hA := hA.symm
 subst hA
 rw [exNd]
 refine WL_some (a := a37) hasA (by decide) (fun g37 hgb _ => ?_)
 subst hgb
 refine WL_r (Rd_move rfl) rfl ?_
 refine WL_r (Rd_ext0 rfl) rfl ?_
 refine WL_r (Rd_ext1 rfl) rfl ?_
 refine WL_r (Rd_assign rfl) rfl ?_
 refine WL_r (Rd_assign rfl) rfl ?_
 refine WL_end hK8 ?_
 refine WC_seq fun K9 hK9 => ?_
 refine WC_sr fun K10 hK10 => ?_
 refine WL_r (Rd_move rfl) rfl ?_
 refine WL_r (Rd_isF (Rd_neqN (j := 0) rfl rfl)) rfl ?_
 refine WL_r (Rd_move rfl) rfl ?_
 refine WL_r (Rd_move rfl) rfl ?_
 refine WL_r (Rd_len rfl rfl ud101) rfl ?_
 refine WL_r (Rd_isF (Rd_neqN (j := 2) rfl rfl)) rfl ?_
 refine WL_r (Rd_pickF rfl rfl) rfl ?_
 refine WL_r (Rd_move rfl) rfl ?_
 refine WL_r (Rd_move rfl) rfl ?_
 refine WL_r (Rd_index 0 rfl rfl ud101 sz3 (hi := by decide)) rfl ?_
 refine WL_r (Rd_load_arr (f := eN) (i := 0) (j := 0) rfl tk3 (hl := (rfl : ([5, 3])[0]? = some 5))) rfl ?_
 refine WL_r (Rd_isF (Rd_neqN (j := 5) rfl rfl)) rfl ?_
 refine WL_r (Rd_pickF rfl rfl) rfl ?_
 refine WL_r (Rd_move rfl) rfl ?_
 refine WL_r (Rd_move rfl) rfl ?_
 refine WL_r (Rd_index 1 rfl rfl ud101 sz3 (hi := by decide)) rfl ?_
 refine WL_r (Rd_load_arr (f := eN) (i := 1) (j := 0) rfl tk3 (hl := (rfl : ([5, 3])[1]? = some 3))) rfl ?_
 refine WL_r (Rd_isF (Rd_neqN (j := 3) rfl rfl)) rfl ?_
 refine WL_r (Rd_pickF rfl rfl) rfl ?_
 refine WL_end hK10 ?_
 refine WC_condF rfl ?_
 refine WC_skip ?_
 refine Ps_next hK9 ?_
 refine WC_seq fun K11 hK11 => ?_
 refine WC_sr fun K12 hK12 => ?_
 refine WL_r (Rd_move rfl) rfl ?_
 refine WL_ac (Ac_call cf85 rfl (hs := leaf_ct (i := 0) (hi := by decide))) rfl rfl rfl ?_
 rintro _ _ ⟨⟨⟩, rfl, hA⟩
 simp only [List.cons_append, List.nil_append] at hA
 replace hA := hA.symm
 subst hA
 have hlf0 := Dg_len (leafD 0)
 refine WL_r (Rd_build pls133 rfl (hf := fillND (i := 4) (d := leafD 0) rfl)) rfl ?_
 refine WL_ac (Ac_call cf85 rfl (hs := leaf_ct (i := 1) (hi := by decide))) rfl rfl rfl ?_
 rintro _ _ ⟨⟨⟩, rfl, hA⟩
 simp only [List.cons_append, List.nil_append] at hA
 replace hA := hA.symm
 subst hA
 have hlf1 := Dg_len (leafD 1)
 refine WL_r (Rd_build pls133 rfl (hf := fillND (i := 5) (d := leafD 1) rfl)) rfl ?_
 refine WL_ac (Ac_bsF ([(4, leafD 0), (5, leafD 1)] : List Nd) nodV encND nodV_cells ud120 zr133 sz133 rfl rfl rfl rfl) rfl rfl rfl ?_
 rintro _ _ ⟨b64, rfl, rfl⟩
 have hS64 := Sv_own' (a := some b64) (cap := 2) (T := 133) (l := [(4, leafD 0), (5, leafD 1)]) encND (fun e => by cases e) (Nat.le_refl _)
 refine WL_ac (Ac_call cf74 rfl (hs := pPut_ct (pb := pb) (m := m) (n := 3) (w := 4) (Kn := (newK 3 exR)) (hS := hS64) (hs := exS) (hn1 := by decide) (hw1 := by decide) (hw2 := by decide) (hll := by decide))) rfl rfl rfl ?_
 rintro _ _ ⟨⟨⟩, rfl, hA⟩
 simp only [List.cons_append, List.nil_append] at hA
 replace hA := hA.symm
 subst hA
 rw [exP1, exP2]
 refine WL_r (Rd_isF (Rd_neq rfl rfl)) rfl ?_
 refine WL_end hK12 ?_
 refine WC_condF rfl ?_
 refine WC_skip ?_
 refine Ps_next hK11 ?_
 refine WC_seq fun K13 hK13 => ?_
 refine WC_drawA mix (fun i => ([2, 1, 2, 2, 2, 2, 2, 1, 0, 2] : List Nat).getD i 0) ?_
 refine WJ_tp 0 rfl (Rd_move rfl) rfl (hp _ _) ?_
 refine WJ_tp 3 rfl (Rd_move rfl) rfl (hp _ _) ?_
 refine WJ_tp 4 rfl (Rd_index 1 rfl rfl ud76 sz42 (hi := by decide)) rfl (hp _ _) ?_
 refine WJ_all (rs := [1, 5]) (by kernel_rfl) rfl ?_
 refine WI_cons ?_ (WI_cons ?_ (by intro _ h; cases h))
 ·skip
  refine WI_ac rfl (Ac_call cf85 rfl (hs := leaf_ct (i := 2) (hi := by decide))) rfl rfl rfl rfl ?_
  rintro _ _ ⟨⟨⟩, rfl, hA⟩
  simp only [List.cons_append, List.nil_append] at hA
  replace hA := hA.symm
  subst hA
  have hlf2 := Dg_len (leafD 2)
  refine ⟨(fun _ => subA), ?_⟩
  refine WJ_tp 2 rfl (Rd_build pls133 rfl (hf := fillND (i := 6) (d := leafD 2) rfl)) rfl (hp _ _) ?_
  refine WJ_all (rs := [5]) (by kernel_rfl) rfl ?_
  refine WI_one ?_
  refine WI_rd rfl (Rd_aU (k := .u8) (l := (nodeD (leafD 0) (leafD 1)).1) (Rd_loadg_arr (f := fD) (i := 1) rfl tk42 (hl := (rfl : (exBL)[1]? = some (nodeD (leafD 0) (leafD 1))))) rfl) rfl rfl rfl (fun h => by cases h) ?_
  refine WJ_tp 6 rfl (Rd_build pls133 rfl (hf := fillND (i := 2) (d := nodeD (leafD 0) (leafD 1)) rfl)) rfl (hp _ _) ?_
  refine WJ_all (rs := [7]) (by kernel_rfl) rfl ?_
  refine WI_one ?_
  refine WI_ac rfl (Ac_bsF ([(6, leafD 2), (2, nodeD (leafD 0) (leafD 1))] : List Nd) nodV encND nodV_cells ud120 zr133 sz133 rfl rfl rfl rfl) rfl rfl rfl rfl ?_
  rintro _ _ ⟨b74, rfl, rfl⟩
  refine ⟨(fun _ => subA), ?_⟩
  have hS74 := Sv_own' (a := some b74) (cap := 2) (T := 133) (l := [(6, leafD 2), (2, nodeD (leafD 0) (leafD 1))]) encND (fun e => by cases e) (Nat.le_refl _)
  refine WJ_all (rs := [8]) (by kernel_rfl) rfl ?_
  refine WI_one ?_
  refine WI_ac rfl (Ac_call cf74 rfl (hs := pPut_ct (pb := pb) (m := m) (n := 3) (w := 4) (Kn := (newK 3 exR)) (hS := hS74) (hs := exS) (hn1 := by decide) (hw1 := by decide) (hw2 := by decide) (hll := by decide))) rfl rfl rfl rfl ?_
  rintro _ _ ⟨⟨⟩, rfl, hA⟩
  simp only [List.cons_append, List.nil_append] at hA
  replace hA := hA.symm
  subst hA
  rw [exP3', exP3'']
  refine ⟨(fun h => by cases h), ?_⟩
  refine WJ_tp 9 rfl (Rd_assign rfl) rfl (hp _ _) ?_
  refine WJ_done (by kernel_rfl) ?_
  refine Ps_next hK13 ?_
  refine WC_sr fun K14 hK14 => ?_
  refine WL_r (Rd_move rfl) rfl ?_
  refine WL_ac (Ac_call cf84 rfl (hs := pLeaf_ct (pb := pb) (m := m) (n := 3) (w := 4) (Kn := exK) (i := 2))) rfl rfl rfl ?_
  rintro _ _ ⟨⟨⟩, rfl, hA⟩
  simp only [List.cons_append, List.nil_append] at hA
  replace hA := hA.symm
  subst hA
  rw [exLf2, show (Option.getD (some (leafD 2)) zD).1 = (leafD 2).1 from rfl, show (some (leafD 2)).isSome = true from rfl]
  refine WL_r (Rd_move rfl) rfl ?_
  refine WL_r (Rd_ext0 rfl) rfl ?_
  refine WL_r (Rd_ext1 rfl) rfl ?_
  refine WL_ac (Ac_allocW (k := .u8) (w := 8) (m := 32) zr42) rfl rfl rfl ?_
  rintro _ _ ⟨b8, rfl, rfl⟩
  refine WL_ac0 (Ac_storeW rfl rfl sz42) rfl rfl ?_
  rintro _ _ rfl
  refine WL_r (Rd_assign rfl) rfl ?_
  refine WL_end hK14 ?_
  refine WC_sr fun K15 hK15 => ?_
  refine WL_r (Rd_move rfl) rfl ?_
  refine WL_ac (Ac_call cf84 rfl (hs := pLeaf_ct (pb := pb) (m := m) (n := 3) (w := 4) (Kn := exK) (i := 0))) rfl rfl rfl ?_
  rintro _ _ ⟨⟨⟩, rfl, hA⟩
  simp only [List.cons_append, List.nil_append] at hA
  replace hA := hA.symm
  subst hA
  rw [exLf0, show (Option.getD none zD).1 = zD.1 from rfl, show (none : Option Dg).isSome = false from rfl]
  have hzD := Dg_len zD
  refine WL_r (Rd_move rfl) rfl ?_
  refine WL_r (Rd_ext0 rfl) rfl ?_
  refine WL_r (Rd_ext1 rfl) rfl ?_
  refine WL_ac (Ac_allocW (k := .u8) (w := 8) (m := 32) zr42) rfl rfl rfl ?_
  rintro _ _ ⟨b10, rfl, rfl⟩
  refine WL_ac0 (Ac_storeW rfl rfl sz42) rfl rfl ?_
  rintro _ _ rfl
  refine WL_r (Rd_assign rfl) rfl ?_
  refine WL_end hK15 ?_
  refine WC_seq fun K16 hK16 => ?_
  refine WC_drawA mix (fun i => ([2, 2, 2, 2, 2, 2, 2, 1, 2, 2, 2, 2, 2, 2, 2] : List Nat).getD i 0) ?_
  refine WJ_tp 0 rfl (Rd_move rfl) rfl (hp _ _) ?_
  refine WJ_tp 1 rfl (Rd_isT (Rd_eql rfl rfl)) rfl (hp _ _) ?_
  refine WJ_tp 2 rfl (Rd_move rfl) rfl (hp _ _) ?_
  refine WJ_tp 3 rfl (Rd_move rfl) rfl (hp _ _) ?_
  refine WJ_tp 4 rfl (Rd_pickT rfl rfl) rfl (hp _ _) ?_
  refine WJ_tp 5 rfl (Rd_move rfl) rfl (hp _ _) ?_
  refine WJ_tk 6 (Rd_loadW rfl tk42) hp ?_ rfl (by kernel_rfl) rfl rfl rfl
  refine WJ_all (rs := [7]) (by kernel_rfl) rfl ?_
  refine WI_one ?_
  refine WI_ac rfl (Ac_call cf85 rfl (hs := leaf_ct (i := 2) (hi := by decide))) rfl rfl rfl rfl ?_
  rintro _ _ ⟨⟨⟩, rfl, hA⟩
  simp only [List.cons_append, List.nil_append] at hA
  replace hA := hA.symm
  subst hA
  have hlf2 := Dg_len (leafD 2)
  refine ⟨(fun _ => subA), ?_⟩
  refine WJ_tp 8 rfl (Rd_isT (Rd_eqW rfl rfl ais42)) rfl (hp _ _) ?_
  refine WJ_tp 9 rfl (Rd_pickT rfl rfl) rfl (hp _ _) ?_
  refine WJ_tp 10 rfl (Rd_move rfl) rfl (hp _ _) ?_
  refine WJ_tp 11 rfl (Rd_move rfl) rfl (hp _ _) ?_
  refine WJ_tp 12 rfl (Rd_not rfl) rfl (hp _ _) ?_
  refine WJ_tp 13 rfl (Rd_pickT rfl rfl) rfl (hp _ _) ?_
  refine WJ_tp 14 rfl (Rd_assign rfl) rfl (hp _ _) ?_
  refine WJ_done (by kernel_rfl) ?_
  refine Ps_next hK16 ?_
  refine WC_ret ?_
  exact hret.gf () (Rs1 rfl rfl)
 ·skip
  refine WI_rd rfl (Rd_aU (k := .u8) (l := (nodeD (leafD 0) (leafD 1)).1) (Rd_loadg_arr (f := fD) (i := 1) rfl tk42 (hl := (rfl : (exBL)[1]? = some (nodeD (leafD 0) (leafD 1))))) rfl) rfl rfl rfl (fun h => by cases h) ?_
  refine WJ_tp 6 rfl (Rd_build pls133 rfl (hf := fillND (i := 2) (d := nodeD (leafD 0) (leafD 1)) rfl)) rfl (hp _ _) ?_
  refine WJ_all (rs := [1]) (by kernel_rfl) rfl ?_
  refine WI_one ?_
  refine WI_ac rfl (Ac_call cf85 rfl (hs := leaf_ct (i := 2) (hi := by decide))) rfl rfl rfl rfl ?_
  rintro _ _ ⟨⟨⟩, rfl, hA⟩
  simp only [List.cons_append, List.nil_append] at hA
  replace hA := hA.symm
  subst hA
  have hlf2 := Dg_len (leafD 2)
  refine ⟨(fun _ => subA), ?_⟩
  refine WJ_tp 2 rfl (Rd_build pls133 rfl (hf := fillND (i := 6) (d := leafD 2) rfl)) rfl (hp _ _) ?_
  refine WJ_all (rs := [7]) (by kernel_rfl) rfl ?_
  refine WI_one ?_
  refine WI_ac rfl (Ac_bsF ([(6, leafD 2), (2, nodeD (leafD 0) (leafD 1))] : List Nd) nodV encND nodV_cells ud120 zr133 sz133 rfl rfl rfl rfl) rfl rfl rfl rfl ?_
  rintro _ _ ⟨b74, rfl, rfl⟩
  refine ⟨(fun _ => subA), ?_⟩
  have hS74 := Sv_own' (a := some b74) (cap := 2) (T := 133) (l := [(6, leafD 2), (2, nodeD (leafD 0) (leafD 1))]) encND (fun e => by cases e) (Nat.le_refl _)
  refine WJ_all (rs := [8]) (by kernel_rfl) rfl ?_
  refine WI_one ?_
  refine WI_ac rfl (Ac_call cf74 rfl (hs := pPut_ct (pb := pb) (m := m) (n := 3) (w := 4) (Kn := (newK 3 exR)) (hS := hS74) (hs := exS) (hn1 := by decide) (hw1 := by decide) (hw2 := by decide) (hll := by decide))) rfl rfl rfl rfl ?_
  rintro _ _ ⟨⟨⟩, rfl, hA⟩
  simp only [List.cons_append, List.nil_append] at hA
  replace hA := hA.symm
  subst hA
  rw [exP3', exP3'']
  refine ⟨(fun h => by cases h), ?_⟩
  refine WJ_tp 9 rfl (Rd_assign rfl) rfl (hp _ _) ?_
  refine WJ_done (by kernel_rfl) ?_
  refine Ps_next hK13 ?_
  refine WC_sr fun K17 hK17 => ?_
  refine WL_r (Rd_move rfl) rfl ?_
  refine WL_ac (Ac_call cf84 rfl (hs := pLeaf_ct (pb := pb) (m := m) (n := 3) (w := 4) (Kn := exK) (i := 2))) rfl rfl rfl ?_
  rintro _ _ ⟨⟨⟩, rfl, hA⟩
  simp only [List.cons_append, List.nil_append] at hA
  replace hA := hA.symm
  subst hA
  rw [exLf2, show (Option.getD (some (leafD 2)) zD).1 = (leafD 2).1 from rfl, show (some (leafD 2)).isSome = true from rfl]
  refine WL_r (Rd_move rfl) rfl ?_
  refine WL_r (Rd_ext0 rfl) rfl ?_
  refine WL_r (Rd_ext1 rfl) rfl ?_
  refine WL_ac (Ac_allocW (k := .u8) (w := 8) (m := 32) zr42) rfl rfl rfl ?_
  rintro _ _ ⟨b8, rfl, rfl⟩
  refine WL_ac0 (Ac_storeW rfl rfl sz42) rfl rfl ?_
  rintro _ _ rfl
  refine WL_r (Rd_assign rfl) rfl ?_
  refine WL_end hK17 ?_
  refine WC_sr fun K18 hK18 => ?_
  refine WL_r (Rd_move rfl) rfl ?_
  refine WL_ac (Ac_call cf84 rfl (hs := pLeaf_ct (pb := pb) (m := m) (n := 3) (w := 4) (Kn := exK) (i := 0))) rfl rfl rfl ?_
  rintro _ _ ⟨⟨⟩, rfl, hA⟩
  simp only [List.cons_append, List.nil_append] at hA
  replace hA := hA.symm
  subst hA
  rw [exLf0, show (Option.getD none zD).1 = zD.1 from rfl, show (none : Option Dg).isSome = false from rfl]
  have hzD := Dg_len zD
  refine WL_r (Rd_move rfl) rfl ?_
  refine WL_r (Rd_ext0 rfl) rfl ?_
  refine WL_r (Rd_ext1 rfl) rfl ?_
  refine WL_ac (Ac_allocW (k := .u8) (w := 8) (m := 32) zr42) rfl rfl rfl ?_
  rintro _ _ ⟨b10, rfl, rfl⟩
  refine WL_ac0 (Ac_storeW rfl rfl sz42) rfl rfl ?_
  rintro _ _ rfl
  refine WL_r (Rd_assign rfl) rfl ?_
  refine WL_end hK18 ?_
  refine WC_seq fun K19 hK19 => ?_
  refine WC_drawA mix (fun i => ([2, 2, 2, 2, 2, 2, 2, 1, 2, 2, 2, 2, 2, 2, 2] : List Nat).getD i 0) ?_
  refine WJ_tp 0 rfl (Rd_move rfl) rfl (hp _ _) ?_
  refine WJ_tp 1 rfl (Rd_isT (Rd_eql rfl rfl)) rfl (hp _ _) ?_
  refine WJ_tp 2 rfl (Rd_move rfl) rfl (hp _ _) ?_
  refine WJ_tp 3 rfl (Rd_move rfl) rfl (hp _ _) ?_
  refine WJ_tp 4 rfl (Rd_pickT rfl rfl) rfl (hp _ _) ?_
  refine WJ_tp 5 rfl (Rd_move rfl) rfl (hp _ _) ?_
  refine WJ_tk 6 (Rd_loadW rfl tk42) hp ?_ rfl (by kernel_rfl) rfl rfl rfl
  refine WJ_all (rs := [7]) (by kernel_rfl) rfl ?_
  refine WI_one ?_
  refine WI_ac rfl (Ac_call cf85 rfl (hs := leaf_ct (i := 2) (hi := by decide))) rfl rfl rfl rfl ?_
  rintro _ _ ⟨⟨⟩, rfl, hA⟩
  simp only [List.cons_append, List.nil_append] at hA
  replace hA := hA.symm
  subst hA
  have hlf2 := Dg_len (leafD 2)
  refine ⟨(fun _ => subA), ?_⟩
  refine WJ_tp 8 rfl (Rd_isT (Rd_eqW rfl rfl ais42)) rfl (hp _ _) ?_
  refine WJ_tp 9 rfl (Rd_pickT rfl rfl) rfl (hp _ _) ?_
  refine WJ_tp 10 rfl (Rd_move rfl) rfl (hp _ _) ?_
  refine WJ_tp 11 rfl (Rd_move rfl) rfl (hp _ _) ?_
  refine WJ_tp 12 rfl (Rd_not rfl) rfl (hp _ _) ?_
  refine WJ_tp 13 rfl (Rd_pickT rfl rfl) rfl (hp _ _) ?_
  refine WJ_tp 14 rfl (Rd_assign rfl) rfl (hp _ _) ?_
  refine WJ_done (by kernel_rfl) ?_
  refine Ps_next hK19 ?_
  refine WC_ret ?_
  exact hret.gf () (Rs1 rfl rfl)
end Go.Proofs.Ytgkpbeikcpecbaa
