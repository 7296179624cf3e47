/-
  Contracts of functions that the claim reaches, or the logic and the plain laws that they rest on, or the row over them. (Conditions: none beyond the statement.)
-/
import Derived.Test.YtgkpbeikcpecbaaPxDc
import Derived.Test.YtgkpbeikcpecbaaPfM
set_option linter.all false
namespace Go.Proofs.Ytgkpbeikcpecbaa
open Go.RowKit Go.SL Go.ShM
set_option maxHeartbeats 1000000
set_option maxRecDepth 20000
set_option linter.all false
theorem fls133 : fls Try.prog 133 = some [(0, 3), (1, 42)] := by kernel_rfl
theorem PNames_ct   : Ct Try.prog 22 [] [] (fun _ : Unit => .bool true) (fun _ => []) := by
  refine Ct_body (n := 253) Try.func22 rfl rfl rfl fun F w0 Q hret hnorm hp => ?_
  change WC _ _ _ _ _ _ _ (F)
  have hzD := Dg_len zD
  have hpd := Dg_len (padD 3)
  have hnt := Dg_len nmT
  have hl5 := Dg_len (leafD 5)
  refine WC_sr fun K1 hK1 => ?_
  refine WL_rd (Rd_assign rfl) rfl rfl rfl ?_
  refine WL_end hK1 ?_
  refine WC_seq fun K2 hK2 => ?_
  refine WC_condF rfl ?_
  refine WC_skip ?_
  refine Ps_next hK2 ?_
  refine WC_sr fun K3 hK3 => ?_
  refine WL_ac (Ac_call cf85 rfl (hs := leaf_ct (i := 0) (hi := by decide))) rfl rfl rfl ?_
  rintro _ _ ⟨⟨⟩, rfl, hA⟩
  simp only [List.cons_append, List.nil_append] at hA
  replace hA := hA.symm
  subst hA
  have hlf0 := Dg_len (leafD 0)
  refine WL_ac (Ac_call cf85 rfl (hs := leaf_ct (i := 1) (hi := by decide))) rfl rfl rfl ?_
  rintro _ _ ⟨⟨⟩, rfl, hA⟩
  simp only [List.cons_append, List.nil_append] at hA
  replace hA := hA.symm
  subst hA
  have hlf1 := Dg_len (leafD 1)
  refine WL_ac (Ac_call cf85 rfl (hs := leaf_ct (i := 2) (hi := by decide))) rfl rfl rfl ?_
  rintro _ _ ⟨⟨⟩, rfl, hA⟩
  simp only [List.cons_append, List.nil_append] at hA
  replace hA := hA.symm
  subst hA
  have hlf2 := Dg_len (leafD 2)
  refine WL_ac (Ac_bsF ([leafD 0, leafD 1, leafD 2] : List Dg) dV encD dV_cells ud76 zr42 sz42 rfl rfl rfl rfl) rfl rfl rfl ?_
  rintro _ _ ⟨b24, rfl, rfl⟩
  have hS24 := Sv_own' (a := some b24) (cap := 3) (T := 42) (l := [leafD 0, leafD 1, leafD 2]) encD (fun e => by cases e) (Nat.le_refl _)
  refine WL_ac (Ac_call cf82 rfl (hs := rBuild_ct (hS := hS24))) rfl rfl rfl ?_
  rintro _ _ ⟨⟨a25, cap25⟩, rfl, hA⟩
  simp only [List.cons_append, List.nil_append] at hA
  replace hA := hA.symm
  subst hA
  rw [show bldM _ = exBL from rfl]
  refine WL_some (a := a25) (by repeat (first | with_reducible exact Has.here | with_reducible refine Has.there ?_)) (by decide) (fun g25 hgb _ => ?_)
  subst hgb
  refine WL_rd (Rd_move rfl) rfl rfl rfl ?_
  refine WL_rd (Rd_ext0 rfl) rfl rfl rfl ?_
  refine WL_rd (Rd_ext1 rfl) rfl rfl rfl ?_
  refine WL_rd (Rd_assign rfl) rfl rfl rfl ?_
  refine WL_rd (Rd_assign rfl) rfl rfl rfl ?_
  refine WL_end hK3 ?_
  refine WC_sr fun K4 hK4 => ?_
  refine WL_rd (Rd_move rfl) rfl rfl rfl ?_
  refine WL_rd (Rd_index 0 rfl rfl ud76 sz42 (hi := by decide)) rfl rfl rfl ?_
  refine WL_rd (Rd_aU (k := .u8) (l := exR.1) (Rd_loadg_arr (f := fD) (i := 0) rfl tk42 (hl := (rfl : (exBL)[0]? = some exR))) rfl) rfl rfl rfl ?_
  refine WL_ac (Ac_call cf72 rfl (hs := pNew_ct (n := 3) (root := exR) (h1 := by decide) (h2 := by decide))) rfl rfl rfl ?_
  rintro _ _ ⟨⟨pb, m⟩, rfl, hA⟩
  simp only [List.cons_append, List.nil_append] at hA
  replace hA := hA.symm
  subst hA
  rw [exW, show newK 3 exR = nmK from rfl]
  refine WL_rd (Rd_move rfl) rfl rfl rfl ?_
  refine WL_rd (Rd_ext0 rfl) rfl rfl rfl ?_
  refine WL_rd (Rd_ext1 rfl) rfl rfl rfl ?_
  refine WL_rd (Rd_assign rfl) rfl rfl rfl ?_
  refine WL_rd (Rd_assign rfl) rfl rfl rfl ?_
  refine WL_end hK4 ?_
  refine WC_seq fun K5 hK5 => ?_
  refine WC_sr fun K6 hK6 => ?_
  refine WL_rd (Rd_move rfl) rfl rfl rfl ?_
  refine WL_rd (Rd_peq rfl rfl ud121) rfl rfl rfl ?_
  refine WL_rd (Rd_move rfl) rfl rfl rfl ?_
  refine WL_rd (Rd_move rfl) rfl rfl rfl ?_
  refine WL_rd (Rd_isF (Rd_neq rfl rfl)) rfl rfl rfl ?_
  refine WL_rd (Rd_pickF rfl rfl) rfl rfl rfl ?_
  refine WL_rd (Rd_move rfl) rfl rfl rfl ?_
  refine WL_rd (Rd_move rfl) rfl rfl rfl ?_
  refine WL_ac (Ac_call cf86 rfl (hs := pLeaves_ct (pb := pb) (m := m) (n := 3) (w := 4) (Kn := nmK))) rfl rfl rfl ?_
  rintro _ _ ⟨⟨⟩, rfl, hA⟩
  simp only [List.cons_append, List.nil_append] at hA
  replace hA := hA.symm
  subst hA
  refine WL_rd (Rd_isF (Rd_neqN (j := 3) rfl rfl)) rfl rfl rfl ?_
  refine WL_rd (Rd_pickF rfl rfl) rfl rfl rfl ?_
  refine WL_rd (Rd_move rfl) rfl rfl rfl ?_
  refine WL_rd (Rd_move rfl) rfl rfl rfl ?_
  refine WL_ac (Ac_call cf75 rfl (hs := pWidth_ct (pb := pb) (m := m) (n := 3) (w := 4) (Kn := nmK))) rfl rfl rfl ?_
  rintro _ _ ⟨⟨⟩, rfl, hA⟩
  simp only [List.cons_append, List.nil_append] at hA
  replace hA := hA.symm
  subst hA
  refine WL_rd (Rd_isF (Rd_neqN (j := 4) rfl rfl)) rfl rfl rfl ?_
  refine WL_rd (Rd_pickF rfl rfl) rfl rfl rfl ?_
  refine WL_rd (Rd_move rfl) rfl rfl rfl ?_
  refine WL_rd (Rd_move rfl) rfl rfl rfl ?_
  refine WL_ac (Ac_call cf87 rfl (hs := pWhole_ct (pb := pb) (m := m) (n := 3) (w := 4) (Kn := nmK) (hs := nmS) (hn1 := by decide) (hw1 := by decide))) rfl rfl rfl ?_
  rintro _ _ ⟨⟨⟩, rfl, hA⟩
  simp only [List.cons_append, List.nil_append] at hA
  replace hA := hA.symm
  subst hA
  rw [show whB 4 nmK = false from rfl]
  refine WL_rd (Rd_pickF rfl rfl) rfl rfl rfl ?_
  refine WL_rd (Rd_move rfl) rfl rfl rfl ?_
  refine WL_ac (Ac_call cf73 rfl (hs := awake_ct)) rfl rfl rfl ?_
  rintro _ _ ⟨⟨⟩, rfl, hA⟩
  simp only [List.cons_append, List.nil_append] at hA
  replace hA := hA.symm
  subst hA
  refine WL_rd (Rd_not rfl) rfl rfl rfl ?_
  refine WL_rd (Rd_pickF rfl rfl) rfl rfl rfl ?_
  refine WL_end hK6 ?_
  refine WC_condF rfl ?_
  refine WC_skip ?_
  refine Ps_next hK5 ?_
  refine WC_sr fun K7 hK7 => ?_
  refine WL_rd (Rd_move rfl) rfl rfl rfl ?_
  refine WL_ac (Ac_call cf76 rfl (hs := pKnown_ct (pb := pb) (m := m) (n := 3) (w := 4) (Kn := nmK) (i := 7))) rfl rfl rfl ?_
  rintro _ _ ⟨⟨⟩, rfl, hA⟩
  simp only [List.cons_append, List.nil_append] at hA
  replace hA := hA.symm
  subst hA
  rw [show (nmK 7).getD zD = (padD 3) from rfl, show (nmK 7).isSome = true from rfl]
  refine WL_rd (Rd_move rfl) rfl rfl rfl ?_
  refine WL_rd (Rd_ext0 rfl) rfl rfl rfl ?_
  refine WL_rd (Rd_ext1 rfl) rfl rfl rfl ?_
  refine WL_ac (Ac_allocW (k := .u8) (w := 8) (m := 32) zr42) rfl rfl rfl ?_
  rintro _ _ ⟨b5, rfl, rfl⟩
  refine WL_ac0 (Ac_storeW rfl rfl sz42) rfl rfl ?_
  rintro _ _ rfl
  refine WL_rd (Rd_assign rfl) rfl rfl rfl ?_
  refine WL_end hK7 ?_
  refine WC_sr fun K8 hK8 => ?_
  refine WL_rd (Rd_move rfl) rfl rfl rfl ?_
  refine WL_ac (Ac_call cf76 rfl (hs := pKnown_ct (pb := pb) (m := m) (n := 3) (w := 4) (Kn := nmK) (i := 3))) rfl rfl rfl ?_
  rintro _ _ ⟨⟨⟩, rfl, hA⟩
  simp only [List.cons_append, List.nil_append] at hA
  replace hA := hA.symm
  subst hA
  rw [show (nmK 3).getD zD = zD from rfl, show (nmK 3).isSome = false from rfl]
  refine WL_rd (Rd_move rfl) rfl rfl rfl ?_
  refine WL_rd (Rd_ext0 rfl) rfl rfl rfl ?_
  refine WL_rd (Rd_ext1 rfl) rfl rfl rfl ?_
  refine WL_ac (Ac_allocW (k := .u8) (w := 8) (m := 32) zr42) rfl rfl rfl ?_
  rintro _ _ ⟨b7, rfl, rfl⟩
  refine WL_ac0 (Ac_storeW rfl rfl sz42) rfl rfl ?_
  rintro _ _ rfl
  refine WL_rd (Rd_assign rfl) rfl rfl rfl ?_
  refine WL_end hK8 ?_
  refine WC_sr fun K9 hK9 => ?_
  refine WL_rd (Rd_move rfl) rfl rfl rfl ?_
  refine WL_ac (Ac_call cf83 rfl (hs := pNeeds_ct (pb := pb) (m := m) (n := 3) (w := 4) (Kn := nmK) (i0 := 2) (hw := rfl) (h1 := by decide) (h2 := by decide))) rfl rfl rfl ?_
  rintro _ _ ⟨⟨a71, cap71⟩, rfl, hA⟩
  simp only [List.cons_append, List.nil_append] at hA
  replace hA := hA.symm
  subst hA
  rw [nmNd, show askF 3 2 = 0 from rfl]
  refine WL_some (a := a71) (by repeat (first | with_reducible exact Has.here | with_reducible refine Has.there ?_)) (by decide) (fun g71 hgb _ => ?_)
  subst hgb
  refine WL_rd (Rd_move rfl) rfl rfl rfl ?_
  refine WL_rd (Rd_ext0 rfl) rfl rfl rfl ?_
  refine WL_rd (Rd_ext1 rfl) rfl rfl rfl ?_
  refine WL_rd (Rd_assign rfl) rfl rfl rfl ?_
  refine WL_rd (Rd_assign rfl) rfl rfl rfl ?_
  refine WL_end hK9 ?_
  refine WC_sr fun K10 hK10 => ?_
  refine WL_rd (Rd_move rfl) rfl rfl rfl ?_
  refine WL_ac (Ac_call cf83 rfl (hs := pNeeds_ct (pb := pb) (m := m) (n := 3) (w := 4) (Kn := nmK) (i0 := 3) (hw := rfl) (h1 := by decide) (h2 := by decide))) rfl rfl rfl ?_
  rintro _ _ ⟨⟨a76, cap76⟩, rfl, hA⟩
  simp only [List.cons_append, List.nil_append] at hA
  replace hA := hA.symm
  subst hA
  rw [show askF 3 3 = 111 from rfl]
  refine WL_rd (Rd_move rfl) rfl rfl rfl ?_
  refine WL_rd (Rd_ext0 rfl) rfl rfl rfl ?_
  refine WL_rd (Rd_ext1 rfl) rfl rfl rfl ?_
  refine WL_rd (Rd_assign rfl) rfl rfl rfl ?_
  refine WL_rd (Rd_assign rfl) rfl rfl rfl ?_
  refine WL_end hK10 ?_
  refine WC_sr fun K11 hK11 => ?_
  refine WL_rd (Rd_move rfl) rfl rfl rfl ?_
  refine WL_ac (Ac_call cf88 rfl (hs := pChain_ct (pb := pb) (m := m) (n := 3) (w := 4) (Kn := nmK) (i0 := 0) (hw := rfl) (h1 := by decide) (h2 := by decide))) rfl rfl rfl ?_
  rintro _ _ ⟨⟨a81, cap81⟩, rfl, hA⟩
  simp only [List.cons_append, List.nil_append] at hA
  replace hA := hA.symm
  subst hA
  rw [show chE 3 nmK 0 = 124 from rfl]
  refine WL_rd (Rd_move rfl) rfl rfl rfl ?_
  refine WL_rd (Rd_ext0 rfl) rfl rfl rfl ?_
  refine WL_rd (Rd_ext1 rfl) rfl rfl rfl ?_
  refine WL_rd (Rd_assign rfl) rfl rfl rfl ?_
  refine WL_rd (Rd_assign rfl) rfl rfl rfl ?_
  refine WL_end hK11 ?_
  refine WC_seq fun K12 hK12 => ?_
  refine WC_seq fun K13 hK13 => ?_
  refine WC_drawA mix (fun i => ([2, 2, 2, 2, 1, 2, 2, 2, 2, 2, 2, 2, 2, 2, 2, 2, 2, 2, 2, 2, 2, 2, 2, 2, 2, 2, 2, 2, 2, 2, 2, 2, 2] : List Nat).getD i 0) ?_
  refine WJ_takeP 0 rfl (by kernel_rfl) (Rd_move rfl) rfl rfl rfl (hp _ _) ?_
  refine WJ_takeP 1 rfl (by kernel_rfl) (Rd_not rfl) rfl rfl rfl (hp _ _) ?_
  refine WJ_takeP 2 rfl (by kernel_rfl) (Rd_move rfl) rfl rfl rfl (hp _ _) ?_
  refine WJ_tk 3 (Rd_loadW (l := (padD 3).1) rfl tk42) hp ?_ rfl (by kernel_rfl) rfl rfl rfl
  refine WJ_all (rs := [4]) (by kernel_rfl) rfl ?_
  refine WI_one ?_
  refine WI_ac rfl (Ac_call cf89 rfl (hs := padTR_ct (x := BitVec.ofNat 32 3))) rfl rfl rfl rfl ?_
  rintro _ _ ⟨⟨⟩, rfl, hA⟩
  simp only [List.cons_append, List.nil_append] at hA
  replace hA := hA.symm
  subst hA
  rw [show tagD 7#8 [big32 (BitVec.ofNat 32 3)] = (padD 3).1 from rfl]
  refine ⟨(fun _ => (by repeat (first | with_reducible exact Sub.refl | with_reducible exact Sub.nil | with_reducible refine Sub.cons (by repeat (first | with_reducible exact Ext.here | with_reducible apply Ext.there)) ?_ | with_reducible refine Sub.tail ?_))), ?_⟩
  refine WJ_takeP 5 rfl (by kernel_rfl) (Rd_isF (Rd_neW rfl rfl ais42)) rfl rfl rfl (hp _ _) ?_
  refine WJ_takeP 6 rfl (by kernel_rfl) (Rd_pickF rfl rfl) rfl rfl rfl (hp _ _) ?_
  refine WJ_takeP 7 rfl (by kernel_rfl) (Rd_move rfl) rfl rfl rfl (hp _ _) ?_
  refine WJ_takeP 8 rfl (by kernel_rfl) (Rd_move rfl) rfl rfl rfl (hp _ _) ?_
  refine WJ_takeP 9 rfl (by kernel_rfl) (Rd_pickF rfl rfl) rfl rfl rfl (hp _ _) ?_
  refine WJ_takeP 10 rfl (by kernel_rfl) (Rd_move rfl) rfl rfl rfl (hp _ _) ?_
  refine WJ_takeP 11 rfl (by kernel_rfl) (Rd_move rfl) rfl rfl rfl (hp _ _) ?_
  refine WJ_takeP 12 rfl (by kernel_rfl) (Rd_isF (Rd_neqN (j := 0) rfl rfl)) rfl rfl rfl (hp _ _) ?_
  refine WJ_takeP 13 rfl (by kernel_rfl) (Rd_pickF rfl rfl) rfl rfl rfl (hp _ _) ?_
  refine WJ_takeP 14 rfl (by kernel_rfl) (Rd_move rfl) rfl rfl rfl (hp _ _) ?_
  refine WJ_takeP 15 rfl (by kernel_rfl) (Rd_move rfl) rfl rfl rfl (hp _ _) ?_
  refine WJ_takeP 16 rfl (by kernel_rfl) (Rd_len rfl rfl ud101) rfl rfl rfl (hp _ _) ?_
  refine WJ_takeP 17 rfl (by kernel_rfl) (Rd_isF (Rd_neqN (j := 1) rfl rfl)) rfl rfl rfl (hp _ _) ?_
  refine WJ_takeP 18 rfl (by kernel_rfl) (Rd_pickF rfl rfl) rfl rfl rfl (hp _ _) ?_
  refine WJ_takeP 19 rfl (by kernel_rfl) (Rd_move rfl) rfl rfl rfl (hp _ _) ?_
  refine WJ_takeP 20 rfl (by kernel_rfl) (Rd_move rfl) rfl rfl rfl (hp _ _) ?_
  refine WJ_takeP 21 rfl (by kernel_rfl) (Rd_index 0 rfl rfl ud101 sz3 (hi := by decide)) rfl rfl rfl (hp _ _) ?_
  refine WJ_tk 22 (Rd_load_arr (f := eN) (i := 0) (j := 0) rfl tk3 (hl := (rfl : ([2])[0]? = some 2))) hp ?_ rfl (by kernel_rfl) rfl rfl rfl
  refine WJ_takeP 23 rfl (by kernel_rfl) (Rd_isF (Rd_neqN (j := 2) rfl rfl)) rfl rfl rfl (hp _ _) ?_
  refine WJ_takeP 24 rfl (by kernel_rfl) (Rd_pickF rfl rfl) rfl rfl rfl (hp _ _) ?_
  refine WJ_takeP 25 rfl (by kernel_rfl) (Rd_move rfl) rfl rfl rfl (hp _ _) ?_
  refine WJ_takeP 26 rfl (by kernel_rfl) (Rd_move rfl) rfl rfl rfl (hp _ _) ?_
  refine WJ_takeP 27 rfl (by kernel_rfl) (Rd_isF (Rd_neqN (j := 111) rfl rfl)) rfl rfl rfl (hp _ _) ?_
  refine WJ_takeP 28 rfl (by kernel_rfl) (Rd_pickF rfl rfl) rfl rfl rfl (hp _ _) ?_
  refine WJ_takeP 29 rfl (by kernel_rfl) (Rd_move rfl) rfl rfl rfl (hp _ _) ?_
  refine WJ_takeP 30 rfl (by kernel_rfl) (Rd_move rfl) rfl rfl rfl (hp _ _) ?_
  refine WJ_takeP 31 rfl (by kernel_rfl) (Rd_isF (Rd_neqN (j := 124) rfl rfl)) rfl rfl rfl (hp _ _) ?_
  refine WJ_takeP 32 rfl (by kernel_rfl) (Rd_pickF rfl rfl) rfl rfl rfl (hp _ _) ?_
  refine WJ_done (by kernel_rfl) ?_
  refine Ps_next hK13 ?_
  refine WC_condF rfl ?_
  refine WC_skip ?_
  refine Ps_next hK12 ?_
  refine WC_seq fun K14 hK14 => ?_
  refine WC_sr fun K15 hK15 => ?_
  refine WL_rd (Rd_move rfl) rfl rfl rfl ?_
  refine WL_ac (Ac_call cf85 rfl (hs := leaf_ct (i := 9) (hi := by decide))) rfl rfl rfl ?_
  rintro _ _ ⟨⟨⟩, rfl, hA⟩
  simp only [List.cons_append, List.nil_append] at hA
  replace hA := hA.symm
  subst hA
  have hlf9 := Dg_len (leafD 9)
  refine WL_rd (Rd_build pls133 rfl (hf := fillND (i := 7) (d := leafD 9) rfl)) rfl rfl rfl ?_
  refine WL_ac (Ac_bsF ([(7, leafD 9)] : List Nd) nodV encND nodV_cells ud120 zr133 sz133 rfl rfl rfl rfl) rfl rfl rfl ?_
  rintro _ _ ⟨b120, rfl, rfl⟩
  have hS120 := Sv_own' (a := some b120) (cap := 1) (T := 133) (l := [(7, leafD 9)]) encND (fun e => by cases e) (Nat.le_refl _)
  refine WL_ac (Ac_call cf74 rfl (hs := pPut_ct (pb := pb) (m := m) (n := 3) (w := 4) (Kn := nmK) (hS := hS120) (hs := nmS) (hn1 := by decide) (hw1 := by decide) (hw2 := by decide) (hll := by decide))) rfl rfl rfl ?_
  rintro _ _ ⟨⟨⟩, rfl, hA⟩
  simp only [List.cons_append, List.nil_append] at hA
  replace hA := hA.symm
  subst hA
  rw [nmP1, nm_bad nmP1 (by decide)]
  refine WL_rd (Rd_isF (Rd_neq rfl rfl)) rfl rfl rfl ?_
  refine WL_rd (Rd_move rfl) rfl rfl rfl ?_
  refine WL_rd (Rd_move rfl) rfl rfl rfl ?_
  refine WL_rd (Rd_build pls133 rfl (hf := (rfl : fillL _ _ _ = some (eND (8, zD))))) rfl rfl rfl ?_
  refine WL_ac (Ac_bsF ([(8, zD)] : List Nd) nodV encND nodV_cells ud120 zr133 sz133 rfl rfl rfl rfl) rfl rfl rfl ?_
  rintro _ _ ⟨b126, rfl, rfl⟩
  have hS126 := Sv_own' (a := some b126) (cap := 1) (T := 133) (l := [(8, zD)]) encND (fun e => by cases e) (Nat.le_refl _)
  refine WL_ac (Ac_call cf74 rfl (hs := pPut_ct (pb := pb) (m := m) (n := 3) (w := 4) (Kn := nmK) (hS := hS126) (hs := nmS) (hn1 := by decide) (hw1 := by decide) (hw2 := by decide) (hll := by decide))) rfl rfl rfl ?_
  rintro _ _ ⟨⟨⟩, rfl, hA⟩
  simp only [List.cons_append, List.nil_append] at hA
  replace hA := hA.symm
  subst hA
  rw [nmP2, nm_bad nmP2 (by decide)]
  refine WL_rd (Rd_isF (Rd_neq rfl rfl)) rfl rfl rfl ?_
  refine WL_rd (Rd_pickF rfl rfl) rfl rfl rfl ?_
  refine WL_rd (Rd_move rfl) rfl rfl rfl ?_
  refine WL_rd (Rd_move rfl) rfl rfl rfl ?_
  refine WL_rd (Rd_build pls133 rfl (hf := (rfl : fillL _ _ _ = some (eND (0, zD))))) rfl rfl rfl ?_
  refine WL_ac (Ac_bsF ([(0, zD)] : List Nd) nodV encND nodV_cells ud120 zr133 sz133 rfl rfl rfl rfl) rfl rfl rfl ?_
  rintro _ _ ⟨b133, rfl, rfl⟩
  have hS133 := Sv_own' (a := some b133) (cap := 1) (T := 133) (l := [(0, zD)]) encND (fun e => by cases e) (Nat.le_refl _)
  refine WL_ac (Ac_call cf74 rfl (hs := pPut_ct (pb := pb) (m := m) (n := 3) (w := 4) (Kn := nmK) (hS := hS133) (hs := nmS) (hn1 := by decide) (hw1 := by decide) (hw2 := by decide) (hll := by decide))) rfl rfl rfl ?_
  rintro _ _ ⟨⟨⟩, rfl, hA⟩
  simp only [List.cons_append, List.nil_append] at hA
  replace hA := hA.symm
  subst hA
  rw [nmP3, nm_bad nmP3 (by decide)]
  refine WL_rd (Rd_isF (Rd_neq rfl rfl)) rfl rfl rfl ?_
  refine WL_rd (Rd_pickF rfl rfl) rfl rfl rfl ?_
  refine WL_end hK15 ?_
  refine WC_condF rfl ?_
  refine WC_skip ?_
  refine Ps_next hK14 ?_
  refine WC_seq fun K16 hK16 => ?_
  refine WC_sr fun K17 hK17 => ?_
  refine WL_rd (Rd_move rfl) rfl rfl rfl ?_
  refine WL_ac (Ac_call cf85 rfl (hs := leaf_ct (i := 0) (hi := by decide))) rfl rfl rfl ?_
  rintro _ _ ⟨⟨⟩, rfl, hA⟩
  simp only [List.cons_append, List.nil_append] at hA
  replace hA := hA.symm
  subst hA
  have hlf0 := Dg_len (leafD 0)
  refine WL_rd (Rd_build pls133 rfl (hf := fillND (i := 4) (d := leafD 0) rfl)) rfl rfl rfl ?_
  refine WL_ac (Ac_call cf85 rfl (hs := leaf_ct (i := 1) (hi := by decide))) rfl rfl rfl ?_
  rintro _ _ ⟨⟨⟩, rfl, hA⟩
  simp only [List.cons_append, List.nil_append] at hA
  replace hA := hA.symm
  subst hA
  have hlf1 := Dg_len (leafD 1)
  refine WL_rd (Rd_build pls133 rfl (hf := fillND (i := 4) (d := leafD 1) rfl)) rfl rfl rfl ?_
  refine WL_ac (Ac_bsF ([(4, leafD 0), (4, leafD 1)] : List Nd) nodV encND nodV_cells ud120 zr133 sz133 rfl rfl rfl rfl) rfl rfl rfl ?_
  rintro _ _ ⟨b142, rfl, rfl⟩
  have hS142 := Sv_own' (a := some b142) (cap := 2) (T := 133) (l := [(4, leafD 0), (4, leafD 1)]) encND (fun e => by cases e) (Nat.le_refl _)
  refine WL_ac (Ac_call cf74 rfl (hs := pPut_ct (pb := pb) (m := m) (n := 3) (w := 4) (Kn := nmK) (hS := hS142) (hs := nmS) (hn1 := by decide) (hw1 := by decide) (hw2 := by decide) (hll := by decide))) rfl rfl rfl ?_
  rintro _ _ ⟨⟨⟩, rfl, hA⟩
  simp only [List.cons_append, List.nil_append] at hA
  replace hA := hA.symm
  subst hA
  rw [nmP4, nm_bad nmP4 (by decide)]
  refine WL_rd (Rd_isF (Rd_neq rfl rfl)) rfl rfl rfl ?_
  refine WL_rd (Rd_move rfl) rfl rfl rfl ?_
  refine WL_rd (Rd_move rfl) rfl rfl rfl ?_
  refine WL_ac (Ac_call cf74 rfl (hs := pPut_ct (pb := pb) (m := m) (n := 3) (w := 4) (Kn := nmK) (X := arr (some b142) 2 33 133 eND [(4, leafD 0), (4, leafD 1)]) (v := .slice none 0 0) (l := []) (hS := svN) (hs := nmS) (hn1 := by decide) (hw1 := by decide) (hw2 := by decide) (hll := by decide))) rfl rfl rfl ?_
  rintro _ _ ⟨⟨⟩, rfl, hA⟩
  simp only [List.cons_append, List.nil_append] at hA
  replace hA := hA.symm
  subst hA
  rw [show (putS 4 nmK []).1 = 0 from by rw [nmP5], nmK5_of]
  refine WL_rd (Rd_isF (Rd_neq rfl rfl)) rfl rfl rfl ?_
  refine WL_rd (Rd_pickF rfl rfl) rfl rfl rfl ?_
  refine WL_end hK17 ?_
  refine WC_condF rfl ?_
  refine WC_skip ?_
  refine Ps_next hK16 ?_
  refine WC_seq fun K18 hK18 => ?_
  refine WC_seq fun K19 hK19 => ?_
  refine WC_drawA mix (fun i => ([2, 1, 2, 1, 2, 2, 2, 2, 2, 1, 0, 2] : List Nat).getD i 0) ?_
  refine WJ_takeP 0 rfl (by kernel_rfl) (Rd_move rfl) rfl rfl rfl (hp _ _) ?_
  refine WJ_takeP 5 rfl (by kernel_rfl) (Rd_move rfl) rfl rfl rfl (hp _ _) ?_
  refine WJ_takeP 6 rfl (by kernel_rfl) (Rd_index 2 rfl rfl ud76 sz42 (hi := by decide)) rfl rfl rfl (hp _ _) ?_
  refine WJ_all (rs := [1, 7]) (by kernel_rfl) rfl ?_
  refine WI_cons ?_ (WI_cons ?_ (by intro _ h; cases h))
  · skip
    refine WI_ac rfl (Ac_call cf85 rfl (hs := leaf_ct (i := 0) (hi := by decide))) rfl rfl rfl rfl ?_
    rintro _ _ ⟨⟨⟩, rfl, hA⟩
    simp only [List.cons_append, List.nil_append] at hA
    replace hA := hA.symm
    subst hA
    have hlf0 := Dg_len (leafD 0)
    refine ⟨(fun _ => (by repeat (first | with_reducible exact Sub.refl | with_reducible exact Sub.nil | with_reducible refine Sub.cons (by repeat (first | with_reducible exact Ext.here | with_reducible apply Ext.there)) ?_ | with_reducible refine Sub.tail ?_))), ?_⟩
    refine WJ_takeP 2 rfl (by kernel_rfl) (Rd_build pls133 rfl (hf := fillND (i := 4) (d := leafD 0) rfl)) rfl rfl rfl (hp _ _) ?_
    refine WJ_all (rs := [3, 7]) (by kernel_rfl) rfl ?_
    refine WI_cons ?_ (WI_cons ?_ (by intro _ h; cases h))
    · skip
      refine WI_ac rfl (Ac_call cf85 rfl (hs := leaf_ct (i := 1) (hi := by decide))) rfl rfl rfl rfl ?_
      rintro _ _ ⟨⟨⟩, rfl, hA⟩
      simp only [List.cons_append, List.nil_append] at hA
      replace hA := hA.symm
      subst hA
      have hlf1 := Dg_len (leafD 1)
      refine ⟨(fun _ => (by repeat (first | with_reducible exact Sub.refl | with_reducible exact Sub.nil | with_reducible refine Sub.cons (by repeat (first | with_reducible exact Ext.here | with_reducible apply Ext.there)) ?_ | with_reducible refine Sub.tail ?_))), ?_⟩
      refine WJ_takeP 4 rfl (by kernel_rfl) (Rd_build pls133 rfl (hf := fillND (i := 5) (d := leafD 1) rfl)) rfl rfl rfl (hp _ _) ?_
      refine WJ_all (rs := [7]) (by kernel_rfl) rfl ?_
      refine WI_one ?_
      refine WI_rd rfl (Rd_aU (k := .u8) (l := nmT.1) (Rd_loadg_arr (f := fD) (i := 2) rfl tk42 (hl := (rfl : (exBL)[2]? = some nmT))) rfl) rfl rfl rfl (fun h => by cases h) ?_
      refine WJ_takeP 8 rfl (by kernel_rfl) (Rd_build pls133 rfl (hf := fillND (i := 3) (d := nmT) rfl)) rfl rfl rfl (hp _ _) ?_
      refine WJ_all (rs := [9]) (by kernel_rfl) rfl ?_
      refine WI_one ?_
      refine WI_ac rfl (Ac_bsF ([(4, leafD 0), (5, leafD 1), (3, nmT)] : List Nd) nodV encND nodV_cells ud120 zr133 sz133 rfl rfl rfl rfl) rfl rfl rfl rfl ?_
      rintro _ _ ⟨b159, rfl, rfl⟩
      refine ⟨(fun _ => (by repeat (first | with_reducible exact Sub.refl | with_reducible exact Sub.nil | with_reducible refine Sub.cons (by repeat (first | with_reducible exact Ext.here | with_reducible apply Ext.there)) ?_ | with_reducible refine Sub.tail ?_))), ?_⟩
      have hS159 := Sv_own' (a := some b159) (cap := 3) (T := 133) (l := [(4, leafD 0), (5, leafD 1), (3, nmT)]) encND (fun e => by cases e) (Nat.le_refl _)
      refine WJ_all (rs := [10]) (by kernel_rfl) rfl ?_
      refine WI_one ?_
      refine WI_ac rfl (Ac_call cf74 rfl (hs := pPut_ct (pb := pb) (m := m) (n := 3) (w := 4) (Kn := nmK) (hS := hS159) (hs := nmS) (hn1 := by decide) (hw1 := by decide) (hw2 := by decide) (hll := by decide))) rfl rfl rfl rfl ?_
      rintro _ _ ⟨⟨⟩, rfl, hA⟩
      simp only [List.cons_append, List.nil_append] at hA
      replace hA := hA.symm
      subst hA
      rw [show (putS 4 nmK [(4, leafD 0), (5, leafD 1), (3, nmT)]).1 = 0 from by rw [nmP6], nmK2_of]
      refine ⟨(fun h => by cases h), ?_⟩
      refine WJ_takeP 11 rfl (by kernel_rfl) (Rd_isF (Rd_neq rfl rfl)) rfl rfl rfl (hp _ _) ?_
      refine WJ_done (by kernel_rfl) ?_
      refine Ps_next hK19 ?_
      refine WC_condF rfl ?_
      refine WC_skip ?_
      refine Ps_next hK18 ?_
      refine WC_sr fun K20 hK20 => ?_
      refine WL_rd (Rd_move rfl) rfl rfl rfl ?_
      refine WL_ac (Ac_call cf76 rfl (hs := pKnown_ct (pb := pb) (m := m) (n := 3) (w := 4) (Kn := nmK2) (i := 6))) rfl rfl rfl ?_
      rintro _ _ ⟨⟨⟩, rfl, hA⟩
      simp only [List.cons_append, List.nil_append] at hA
      replace hA := hA.symm
      subst hA
      rw [show (nmK2 6).getD zD = zD from rfl, show (nmK2 6).isSome = false from rfl]
      refine WL_rd (Rd_move rfl) rfl rfl rfl ?_
      refine WL_rd (Rd_ext0 rfl) rfl rfl rfl ?_
      refine WL_rd (Rd_ext1 rfl) rfl rfl rfl ?_
      refine WL_ac (Ac_allocW (k := .u8) (w := 8) (m := 32) zr42) rfl rfl rfl ?_
      rintro _ _ ⟨b15, rfl, rfl⟩
      refine WL_ac0 (Ac_storeW rfl rfl sz42) rfl rfl ?_
      rintro _ _ rfl
      refine WL_rd (Rd_assign rfl) rfl rfl rfl ?_
      refine WL_end hK20 ?_
      refine WC_sr fun K21 hK21 => ?_
      refine WL_rd (Rd_move rfl) rfl rfl rfl ?_
      refine WL_ac (Ac_call cf88 rfl (hs := pChain_ct (pb := pb) (m := m) (n := 3) (w := 4) (Kn := nmK2) (i0 := 0) (hw := rfl) (h1 := by decide) (h2 := by decide))) rfl rfl rfl ?_
      rintro _ _ ⟨⟨a169, cap169⟩, rfl, hA⟩
      simp only [List.cons_append, List.nil_append] at hA
      replace hA := hA.symm
      subst hA
      rw [nmCh.1, nmCh.2]
      refine WL_some (a := a169) (by repeat (first | with_reducible exact Has.here | with_reducible refine Has.there ?_)) (by decide) (fun g169 hgb _ => ?_)
      subst hgb
      refine WL_rd (Rd_move rfl) rfl rfl rfl ?_
      refine WL_rd (Rd_ext0 rfl) rfl rfl rfl ?_
      refine WL_rd (Rd_ext1 rfl) rfl rfl rfl ?_
      refine WL_rd (Rd_assign rfl) rfl rfl rfl ?_
      refine WL_rd (Rd_assign rfl) rfl rfl rfl ?_
      refine WL_end hK21 ?_
      refine WC_seq fun K22 hK22 => ?_
      refine WC_seq fun K23 hK23 => ?_
      refine WC_drawA mix (fun i => ([2, 2, 2, 2, 2, 2, 2, 2, 2, 2, 2, 2, 2, 2, 1, 2, 2, 2, 2, 2, 2, 2, 2, 2, 2, 2, 2, 2] : List Nat).getD i 0) ?_
      refine WJ_takeP 0 rfl (by kernel_rfl) (Rd_move rfl) rfl rfl rfl (hp _ _) ?_
      refine WJ_takeP 1 rfl (by kernel_rfl) (Rd_move rfl) rfl rfl rfl (hp _ _) ?_
      refine WJ_takeP 2 rfl (by kernel_rfl) (Rd_move rfl) rfl rfl rfl (hp _ _) ?_
      refine WJ_takeP 3 rfl (by kernel_rfl) (Rd_isF (Rd_neqN (j := 0) rfl rfl)) rfl rfl rfl (hp _ _) ?_
      refine WJ_takeP 4 rfl (by kernel_rfl) (Rd_pickF rfl rfl) rfl rfl rfl (hp _ _) ?_
      refine WJ_takeP 5 rfl (by kernel_rfl) (Rd_move rfl) rfl rfl rfl (hp _ _) ?_
      refine WJ_takeP 6 rfl (by kernel_rfl) (Rd_move rfl) rfl rfl rfl (hp _ _) ?_
      refine WJ_takeP 7 rfl (by kernel_rfl) (Rd_len rfl rfl ud120) rfl rfl rfl (hp _ _) ?_
      refine WJ_takeP 8 rfl (by kernel_rfl) (Rd_isF (Rd_neqN (j := 2) rfl rfl)) rfl rfl rfl (hp _ _) ?_
      refine WJ_takeP 9 rfl (by kernel_rfl) (Rd_pickF rfl rfl) rfl rfl rfl (hp _ _) ?_
      refine WJ_takeP 10 rfl (by kernel_rfl) (Rd_move rfl) rfl rfl rfl (hp _ _) ?_
      refine WJ_takeP 11 rfl (by kernel_rfl) (Rd_move rfl) rfl rfl rfl (hp _ _) ?_
      refine WJ_takeP 12 rfl (by kernel_rfl) (Rd_index 0 rfl rfl ud120 sz133 (hi := by decide)) rfl rfl rfl (hp _ _) ?_
      refine WJ_tk 13 (Rd_loadg_arr (f := eND) (i := 0) rfl tk133 (hl := (rfl : ([(5, leafD 1), (3, nmT)] : List Nd)[0]? = some (5, leafD 1)))) hp ?_ rfl (by kernel_rfl) rfl rfl rfl
      refine WJ_all (rs := [14]) (by kernel_rfl) rfl ?_
      refine WI_one ?_
      refine WI_ac rfl (Ac_call cf85 rfl (hs := leaf_ct (i := 1) (hi := by decide))) rfl rfl rfl rfl ?_
      rintro _ _ ⟨⟨⟩, rfl, hA⟩
      simp only [List.cons_append, List.nil_append] at hA
      replace hA := hA.symm
      subst hA
      have hlf1 := Dg_len (leafD 1)
      refine ⟨(fun _ => (by repeat (first | with_reducible exact Sub.refl | with_reducible exact Sub.nil | with_reducible refine Sub.cons (by repeat (first | with_reducible exact Ext.here | with_reducible apply Ext.there)) ?_ | with_reducible refine Sub.tail ?_))), ?_⟩
      refine WJ_takeP 15 rfl (by kernel_rfl) (Rd_build pls133 rfl (hf := fillND (i := 5) (d := leafD 1) rfl)) rfl rfl rfl (hp _ _) ?_
      refine WJ_takeP 16 rfl (by kernel_rfl) (Rd_isF (Rd_neNd (a := (5, leafD 1)) (b := (5, leafD 1)) rfl rfl fls133 tk3 ud3 tk42 ais42) (by simp)) rfl rfl rfl (hp _ _) ?_
      refine WJ_takeP 17 rfl (by kernel_rfl) (Rd_pickF rfl rfl) rfl rfl rfl (hp _ _) ?_
      refine WJ_takeP 18 rfl (by kernel_rfl) (Rd_move rfl) rfl rfl rfl (hp _ _) ?_
      refine WJ_takeP 19 rfl (by kernel_rfl) (Rd_move rfl) rfl rfl rfl (hp _ _) ?_
      refine WJ_takeP 20 rfl (by kernel_rfl) (Rd_index 1 rfl rfl ud120 sz133 (hi := by decide)) rfl rfl rfl (hp _ _) ?_
      refine WJ_tk 21 (Rd_loadg_arr (f := eND) (i := 1) rfl tk133 (hl := (rfl : ([(5, leafD 1), (3, nmT)] : List Nd)[1]? = some (3, nmT)))) hp ?_ rfl (by kernel_rfl) rfl rfl rfl
      refine WJ_takeP 22 rfl (by kernel_rfl) (Rd_move rfl) rfl rfl rfl (hp _ _) ?_
      refine WJ_takeP 23 rfl (by kernel_rfl) (Rd_index 2 rfl rfl ud76 sz42 (hi := by decide)) rfl rfl rfl (hp _ _) ?_
      refine WJ_tk 24 (Rd_aU (k := .u8) (l := nmT.1) (Rd_loadg_arr (f := fD) (i := 2) rfl tk42 (hl := (rfl : (exBL)[2]? = some nmT))) rfl) hp ?_ rfl (by kernel_rfl) rfl rfl rfl
      refine WJ_takeP 25 rfl (by kernel_rfl) (Rd_build pls133 rfl (hf := fillND (i := 3) (d := nmT) rfl)) rfl rfl rfl (hp _ _) ?_
      refine WJ_takeP 26 rfl (by kernel_rfl) (Rd_isF (Rd_neNd (a := (3, nmT)) (b := (3, nmT)) rfl rfl fls133 tk3 ud3 tk42 ais42) (by simp)) rfl rfl rfl (hp _ _) ?_
      refine WJ_takeP 27 rfl (by kernel_rfl) (Rd_pickF rfl rfl) rfl rfl rfl (hp _ _) ?_
      refine WJ_done (by kernel_rfl) ?_
      refine Ps_next hK23 ?_
      refine WC_condF rfl ?_
      refine WC_skip ?_
      refine Ps_next hK22 ?_
      refine WC_sr fun K24 hK24 => ?_
      refine WL_ac (Ac_call cf85 rfl (hs := leaf_ct (i := 5) (hi := by decide))) rfl rfl rfl ?_
      rintro _ _ ⟨⟨⟩, rfl, hA⟩
      simp only [List.cons_append, List.nil_append] at hA
      replace hA := hA.symm
      subst hA
      have hlf5 := Dg_len (leafD 5)
      refine WL_ac (Ac_call cf72 rfl (hs := pNew_ct (n := 1) (root := leafD 5) (h1 := by decide) (h2 := by decide))) rfl rfl rfl ?_
      rintro _ _ ⟨⟨qb, mq⟩, rfl, hA⟩
      simp only [List.cons_append, List.nil_append] at hA
      replace hA := hA.symm
      subst hA
      rw [show wdM 1 = 1 from rfl, show newK 1 (leafD 5) = nmQ from rfl]
      refine WL_rd (Rd_move rfl) rfl rfl rfl ?_
      refine WL_rd (Rd_ext0 rfl) rfl rfl rfl ?_
      refine WL_rd (Rd_ext1 rfl) rfl rfl rfl ?_
      refine WL_rd (Rd_assign rfl) rfl rfl rfl ?_
      refine WL_rd (Rd_assign rfl) rfl rfl rfl ?_
      refine WL_end hK24 ?_
      refine WC_seq fun K25 hK25 => ?_
      refine WC_sr fun K26 hK26 => ?_
      refine WL_rd (Rd_move rfl) rfl rfl rfl ?_
      refine WL_rd (Rd_peq rfl rfl ud121) rfl rfl rfl ?_
      refine WL_rd (Rd_move rfl) rfl rfl rfl ?_
      refine WL_rd (Rd_move rfl) rfl rfl rfl ?_
      refine WL_rd (Rd_isF (Rd_neq rfl rfl)) rfl rfl rfl ?_
      refine WL_rd (Rd_pickF rfl rfl) rfl rfl rfl ?_
      refine WL_rd (Rd_move rfl) rfl rfl rfl ?_
      refine WL_rd (Rd_move rfl) rfl rfl rfl ?_
      refine WL_ac (Ac_call cf87 rfl (hs := pWhole_ct (pb := qb) (m := mq) (n := 1) (w := 1) (Kn := nmQ) (hs := nmQS) (hn1 := by decide) (hw1 := by decide))) rfl rfl rfl ?_
      rintro _ _ ⟨⟨⟩, rfl, hA⟩
      simp only [List.cons_append, List.nil_append] at hA
      replace hA := hA.symm
      subst hA
      rw [show whB 1 nmQ = true from rfl]
      refine WL_rd (Rd_not rfl) rfl rfl rfl ?_
      refine WL_rd (Rd_pickF rfl rfl) rfl rfl rfl ?_
      refine WL_rd (Rd_move rfl) rfl rfl rfl ?_
      refine WL_rd (Rd_move rfl) rfl rfl rfl ?_
      refine WL_ac (Ac_call cf85 rfl (hs := leaf_ct (i := 5) (hi := by decide))) rfl rfl rfl ?_
      rintro _ _ ⟨⟨⟩, rfl, hA⟩
      simp only [List.cons_append, List.nil_append] at hA
      replace hA := hA.symm
      subst hA
      have hlf5 := Dg_len (leafD 5)
      refine WL_rd (Rd_build pls133 rfl (hf := fillND (i := 1) (d := leafD 5) rfl)) rfl rfl rfl ?_
      refine WL_ac (Ac_bsF ([(1, leafD 5)] : List Nd) nodV encND nodV_cells ud120 zr133 sz133 rfl rfl rfl rfl) rfl rfl rfl ?_
      rintro _ _ ⟨b220, rfl, rfl⟩
      have hS220 := Sv_own' (a := some b220) (cap := 1) (T := 133) (l := [(1, leafD 5)]) encND (fun e => by cases e) (Nat.le_refl _)
      refine WL_ac (Ac_call cf74 rfl (hs := pPut_ct (pb := qb) (m := mq) (n := 1) (w := 1) (Kn := nmQ) (hS := hS220) (hs := nmQS) (hn1 := by decide) (hw1 := by decide) (hw2 := by decide) (hll := by decide))) rfl rfl rfl ?_
      rintro _ _ ⟨⟨⟩, rfl, hA⟩
      simp only [List.cons_append, List.nil_append] at hA
      replace hA := hA.symm
      subst hA
      rw [show (putS 1 nmQ [(1, leafD 5)]).1 = 0 from by rw [nmQP], nmQK]
      refine WL_rd (Rd_isF (Rd_neq rfl rfl)) rfl rfl rfl ?_
      refine WL_rd (Rd_pickF rfl rfl) rfl rfl rfl ?_
      refine WL_end hK26 ?_
      refine WC_condF rfl ?_
      refine WC_skip ?_
      refine Ps_next hK25 ?_
      refine WC_sr fun K27 hK27 => ?_
      refine WL_rd (Rd_move rfl) rfl rfl rfl ?_
      refine WL_ac (Ac_call cf84 rfl (hs := pLeaf_ct (pb := qb) (m := mq) (n := 1) (w := 1) (Kn := nmQ) (i := 0))) rfl rfl rfl ?_
      rintro _ _ ⟨⟨⟩, rfl, hA⟩
      simp only [List.cons_append, List.nil_append] at hA
      replace hA := hA.symm
      subst hA
      rw [show lfK 1 1 nmQ 0 = some (leafD 5) from rfl, show (Option.getD (some (leafD 5)) zD).1 = (leafD 5).1 from rfl, show (some (leafD 5)).isSome = true from rfl]
      refine WL_rd (Rd_move rfl) rfl rfl rfl ?_
      refine WL_rd (Rd_ext0 rfl) rfl rfl rfl ?_
      refine WL_rd (Rd_ext1 rfl) rfl rfl rfl ?_
      refine WL_ac (Ac_allocW (k := .u8) (w := 8) (m := 32) zr42) rfl rfl rfl ?_
      rintro _ _ ⟨b19, rfl, rfl⟩
      refine WL_ac0 (Ac_storeW rfl rfl sz42) rfl rfl ?_
      rintro _ _ rfl
      refine WL_rd (Rd_assign rfl) rfl rfl rfl ?_
      refine WL_end hK27 ?_
      refine WC_sr fun K28 hK28 => ?_
      refine WL_ac (Ac_call cf85 rfl (hs := leaf_ct (i := 5) (hi := by decide))) rfl rfl rfl ?_
      rintro _ _ ⟨⟨⟩, rfl, hA⟩
      simp only [List.cons_append, List.nil_append] at hA
      replace hA := hA.symm
      subst hA
      have hlf5 := Dg_len (leafD 5)
      refine WL_ac (Ac_call cf72 rfl (hs := pNew_no (n := 0) (root := leafD 5) (h1 := by decide))) rfl rfl rfl ?_
      rintro _ _ ⟨⟨⟩, rfl, hA⟩
      simp only [List.cons_append, List.nil_append] at hA
      replace hA := hA.symm
      subst hA
      refine WL_rd (Rd_move rfl) rfl rfl rfl ?_
      refine WL_rd (Rd_ext0 rfl) rfl rfl rfl ?_
      refine WL_rd (Rd_ext1 rfl) rfl rfl rfl ?_
      refine WL_rd (Rd_assign rfl) rfl rfl rfl ?_
      refine WL_end hK28 ?_
      refine WC_sr fun K29 hK29 => ?_
      refine WL_ac (Ac_call cf85 rfl (hs := leaf_ct (i := 5) (hi := by decide))) rfl rfl rfl ?_
      rintro _ _ ⟨⟨⟩, rfl, hA⟩
      simp only [List.cons_append, List.nil_append] at hA
      replace hA := hA.symm
      subst hA
      have hlf5 := Dg_len (leafD 5)
      refine WL_ac (Ac_call cf72 rfl (hs := pNew_no (n := 513) (root := leafD 5) (h1 := by decide))) rfl rfl rfl ?_
      rintro _ _ ⟨⟨⟩, rfl, hA⟩
      simp only [List.cons_append, List.nil_append] at hA
      replace hA := hA.symm
      subst hA
      refine WL_rd (Rd_move rfl) rfl rfl rfl ?_
      refine WL_rd (Rd_ext0 rfl) rfl rfl rfl ?_
      refine WL_rd (Rd_ext1 rfl) rfl rfl rfl ?_
      refine WL_rd (Rd_assign rfl) rfl rfl rfl ?_
      refine WL_end hK29 ?_
      refine WC_seq fun K30 hK30 => ?_
      refine WC_drawA mix (fun i => ([2, 2, 2, 1, 2, 2, 2, 2, 2, 2, 2, 2, 2, 2, 2] : List Nat).getD i 0) ?_
      refine WJ_takeP 0 rfl (by kernel_rfl) (Rd_move rfl) rfl rfl rfl (hp _ _) ?_
      refine WJ_takeP 1 rfl (by kernel_rfl) (Rd_move rfl) rfl rfl rfl (hp _ _) ?_
      refine WJ_tk 2 (Rd_loadW (l := (leafD 5).1) rfl tk42) hp ?_ rfl (by kernel_rfl) rfl rfl rfl
      refine WJ_all (rs := [3]) (by kernel_rfl) rfl ?_
      refine WI_one ?_
      refine WI_ac rfl (Ac_call cf85 rfl (hs := leaf_ct (i := 5) (hi := by decide))) rfl rfl rfl rfl ?_
      rintro _ _ ⟨⟨⟩, rfl, hA⟩
      simp only [List.cons_append, List.nil_append] at hA
      replace hA := hA.symm
      subst hA
      have hlf5 := Dg_len (leafD 5)
      refine ⟨(fun _ => (by repeat (first | with_reducible exact Sub.refl | with_reducible exact Sub.nil | with_reducible refine Sub.cons (by repeat (first | with_reducible exact Ext.here | with_reducible apply Ext.there)) ?_ | with_reducible refine Sub.tail ?_))), ?_⟩
      refine WJ_takeP 4 rfl (by kernel_rfl) (Rd_isT (Rd_eqW rfl rfl ais42)) rfl rfl rfl (hp _ _) ?_
      refine WJ_takeP 5 rfl (by kernel_rfl) (Rd_pickT rfl rfl) rfl rfl rfl (hp _ _) ?_
      refine WJ_takeP 6 rfl (by kernel_rfl) (Rd_move rfl) rfl rfl rfl (hp _ _) ?_
      refine WJ_takeP 7 rfl (by kernel_rfl) (Rd_move rfl) rfl rfl rfl (hp _ _) ?_
      refine WJ_takeP 8 rfl (by kernel_rfl) (Rd_isT (Rd_eql rfl rfl)) rfl rfl rfl (hp _ _) ?_
      refine WJ_takeP 9 rfl (by kernel_rfl) (Rd_pickT rfl rfl) rfl rfl rfl (hp _ _) ?_
      refine WJ_takeP 10 rfl (by kernel_rfl) (Rd_move rfl) rfl rfl rfl (hp _ _) ?_
      refine WJ_takeP 11 rfl (by kernel_rfl) (Rd_move rfl) rfl rfl rfl (hp _ _) ?_
      refine WJ_takeP 12 rfl (by kernel_rfl) (Rd_isT (Rd_eql rfl rfl)) rfl rfl rfl (hp _ _) ?_
      refine WJ_takeP 13 rfl (by kernel_rfl) (Rd_pickT rfl rfl) rfl rfl rfl (hp _ _) ?_
      refine WJ_takeP 14 rfl (by kernel_rfl) (Rd_assign rfl) rfl rfl rfl (hp _ _) ?_
      refine WJ_done (by kernel_rfl) ?_
      refine Ps_next hK30 ?_
      refine WC_ret ?_
      exact hret.go () (Rs1 rfl rfl) (hs := by simp only [List.cons_append, List.nil_append]; first | ((repeat (first | with_reducible exact Sub.refl | with_reducible apply Sub.cons Ext.here | with_reducible apply Sub.tail)); done) | (repeat (first | with_reducible exact Sub.refl | with_reducible exact Sub.nil | (with_reducible apply Sub.cons; · (repeat (first | with_reducible exact Ext.here | with_reducible apply Ext.there))) | with_reducible apply Sub.tail)))
    · skip
      refine WI_rd rfl (Rd_aU (k := .u8) (l := nmT.1) (Rd_loadg_arr (f := fD) (i := 2) rfl tk42 (hl := (rfl : (exBL)[2]? = some nmT))) rfl) rfl rfl rfl (fun h => by cases h) ?_
      refine WJ_takeP 8 rfl (by kernel_rfl) (Rd_build pls133 rfl (hf := fillND (i := 3) (d := nmT) rfl)) rfl rfl rfl (hp _ _) ?_
      refine WJ_all (rs := [3]) (by kernel_rfl) rfl ?_
      refine WI_one ?_
      refine WI_ac rfl (Ac_call cf85 rfl (hs := leaf_ct (i := 1) (hi := by decide))) rfl rfl rfl rfl ?_
      rintro _ _ ⟨⟨⟩, rfl, hA⟩
      simp only [List.cons_append, List.nil_append] at hA
      replace hA := hA.symm
      subst hA
      have hlf1 := Dg_len (leafD 1)
      refine ⟨(fun _ => (by repeat (first | with_reducible exact Sub.refl | with_reducible exact Sub.nil | with_reducible refine Sub.cons (by repeat (first | with_reducible exact Ext.here | with_reducible apply Ext.there)) ?_ | with_reducible refine Sub.tail ?_))), ?_⟩
      refine WJ_takeP 4 rfl (by kernel_rfl) (Rd_build pls133 rfl (hf := fillND (i := 5) (d := leafD 1) rfl)) rfl rfl rfl (hp _ _) ?_
      refine WJ_all (rs := [9]) (by kernel_rfl) rfl ?_
      refine WI_one ?_
      refine WI_ac rfl (Ac_bsF ([(4, leafD 0), (5, leafD 1), (3, nmT)] : List Nd) nodV encND nodV_cells ud120 zr133 sz133 rfl rfl rfl rfl) rfl rfl rfl rfl ?_
      rintro _ _ ⟨b159, rfl, rfl⟩
      refine ⟨(fun _ => (by repeat (first | with_reducible exact Sub.refl | with_reducible exact Sub.nil | with_reducible refine Sub.cons (by repeat (first | with_reducible exact Ext.here | with_reducible apply Ext.there)) ?_ | with_reducible refine Sub.tail ?_))), ?_⟩
      have hS159 := Sv_own' (a := some b159) (cap := 3) (T := 133) (l := [(4, leafD 0), (5, leafD 1), (3, nmT)]) encND (fun e => by cases e) (Nat.le_refl _)
      refine WJ_all (rs := [10]) (by kernel_rfl) rfl ?_
      refine WI_one ?_
      refine WI_ac rfl (Ac_call cf74 rfl (hs := pPut_ct (pb := pb) (m := m) (n := 3) (w := 4) (Kn := nmK) (hS := hS159) (hs := nmS) (hn1 := by decide) (hw1 := by decide) (hw2 := by decide) (hll := by decide))) rfl rfl rfl rfl ?_
      rintro _ _ ⟨⟨⟩, rfl, hA⟩
      simp only [List.cons_append, List.nil_append] at hA
      replace hA := hA.symm
      subst hA
      rw [show (putS 4 nmK [(4, leafD 0), (5, leafD 1), (3, nmT)]).1 = 0 from by rw [nmP6], nmK2_of]
      refine ⟨(fun h => by cases h), ?_⟩
      refine WJ_takeP 11 rfl (by kernel_rfl) (Rd_isF (Rd_neq rfl rfl)) rfl rfl rfl (hp _ _) ?_
      refine WJ_done (by kernel_rfl) ?_
      refine Ps_next hK19 ?_
      refine WC_condF rfl ?_
      refine WC_skip ?_
      refine Ps_next hK18 ?_
      refine WC_sr fun K31 hK31 => ?_
      refine WL_rd (Rd_move rfl) rfl rfl rfl ?_
      refine WL_ac (Ac_call cf76 rfl (hs := pKnown_ct (pb := pb) (m := m) (n := 3) (w := 4) (Kn := nmK2) (i := 6))) rfl rfl rfl ?_
      rintro _ _ ⟨⟨⟩, rfl, hA⟩
      simp only [List.cons_append, List.nil_append] at hA
      replace hA := hA.symm
      subst hA
      rw [show (nmK2 6).getD zD = zD from rfl, show (nmK2 6).isSome = false from rfl]
      refine WL_rd (Rd_move rfl) rfl rfl rfl ?_
      refine WL_rd (Rd_ext0 rfl) rfl rfl rfl ?_
      refine WL_rd (Rd_ext1 rfl) rfl rfl rfl ?_
      refine WL_ac (Ac_allocW (k := .u8) (w := 8) (m := 32) zr42) rfl rfl rfl ?_
      rintro _ _ ⟨b15, rfl, rfl⟩
      refine WL_ac0 (Ac_storeW rfl rfl sz42) rfl rfl ?_
      rintro _ _ rfl
      refine WL_rd (Rd_assign rfl) rfl rfl rfl ?_
      refine WL_end hK31 ?_
      refine WC_sr fun K32 hK32 => ?_
      refine WL_rd (Rd_move rfl) rfl rfl rfl ?_
      refine WL_ac (Ac_call cf88 rfl (hs := pChain_ct (pb := pb) (m := m) (n := 3) (w := 4) (Kn := nmK2) (i0 := 0) (hw := rfl) (h1 := by decide) (h2 := by decide))) rfl rfl rfl ?_
      rintro _ _ ⟨⟨a169, cap169⟩, rfl, hA⟩
      simp only [List.cons_append, List.nil_append] at hA
      replace hA := hA.symm
      subst hA
      rw [nmCh.1, nmCh.2]
      refine WL_some (a := a169) (by repeat (first | with_reducible exact Has.here | with_reducible refine Has.there ?_)) (by decide) (fun g169 hgb _ => ?_)
      subst hgb
      refine WL_rd (Rd_move rfl) rfl rfl rfl ?_
      refine WL_rd (Rd_ext0 rfl) rfl rfl rfl ?_
      refine WL_rd (Rd_ext1 rfl) rfl rfl rfl ?_
      refine WL_rd (Rd_assign rfl) rfl rfl rfl ?_
      refine WL_rd (Rd_assign rfl) rfl rfl rfl ?_
      refine WL_end hK32 ?_
      refine WC_seq fun K33 hK33 => ?_
      refine WC_seq fun K34 hK34 => ?_
      refine WC_drawA mix (fun i => ([2, 2, 2, 2, 2, 2, 2, 2, 2, 2, 2, 2, 2, 2, 1, 2, 2, 2, 2, 2, 2, 2, 2, 2, 2, 2, 2, 2] : List Nat).getD i 0) ?_
      refine WJ_takeP 0 rfl (by kernel_rfl) (Rd_move rfl) rfl rfl rfl (hp _ _) ?_
      refine WJ_takeP 1 rfl (by kernel_rfl) (Rd_move rfl) rfl rfl rfl (hp _ _) ?_
      refine WJ_takeP 2 rfl (by kernel_rfl) (Rd_move rfl) rfl rfl rfl (hp _ _) ?_
      refine WJ_takeP 3 rfl (by kernel_rfl) (Rd_isF (Rd_neqN (j := 0) rfl rfl)) rfl rfl rfl (hp _ _) ?_
      refine WJ_takeP 4 rfl (by kernel_rfl) (Rd_pickF rfl rfl) rfl rfl rfl (hp _ _) ?_
      refine WJ_takeP 5 rfl (by kernel_rfl) (Rd_move rfl) rfl rfl rfl (hp _ _) ?_
      refine WJ_takeP 6 rfl (by kernel_rfl) (Rd_move rfl) rfl rfl rfl (hp _ _) ?_
      refine WJ_takeP 7 rfl (by kernel_rfl) (Rd_len rfl rfl ud120) rfl rfl rfl (hp _ _) ?_
      refine WJ_takeP 8 rfl (by kernel_rfl) (Rd_isF (Rd_neqN (j := 2) rfl rfl)) rfl rfl rfl (hp _ _) ?_
      refine WJ_takeP 9 rfl (by kernel_rfl) (Rd_pickF rfl rfl) rfl rfl rfl (hp _ _) ?_
      refine WJ_takeP 10 rfl (by kernel_rfl) (Rd_move rfl) rfl rfl rfl (hp _ _) ?_
      refine WJ_takeP 11 rfl (by kernel_rfl) (Rd_move rfl) rfl rfl rfl (hp _ _) ?_
      refine WJ_takeP 12 rfl (by kernel_rfl) (Rd_index 0 rfl rfl ud120 sz133 (hi := by decide)) rfl rfl rfl (hp _ _) ?_
      refine WJ_tk 13 (Rd_loadg_arr (f := eND) (i := 0) rfl tk133 (hl := (rfl : ([(5, leafD 1), (3, nmT)] : List Nd)[0]? = some (5, leafD 1)))) hp ?_ rfl (by kernel_rfl) rfl rfl rfl
      refine WJ_all (rs := [14]) (by kernel_rfl) rfl ?_
      refine WI_one ?_
      refine WI_ac rfl (Ac_call cf85 rfl (hs := leaf_ct (i := 1) (hi := by decide))) rfl rfl rfl rfl ?_
      rintro _ _ ⟨⟨⟩, rfl, hA⟩
      simp only [List.cons_append, List.nil_append] at hA
      replace hA := hA.symm
      subst hA
      have hlf1 := Dg_len (leafD 1)
      refine ⟨(fun _ => (by repeat (first | with_reducible exact Sub.refl | with_reducible exact Sub.nil | with_reducible refine Sub.cons (by repeat (first | with_reducible exact Ext.here | with_reducible apply Ext.there)) ?_ | with_reducible refine Sub.tail ?_))), ?_⟩
      refine WJ_takeP 15 rfl (by kernel_rfl) (Rd_build pls133 rfl (hf := fillND (i := 5) (d := leafD 1) rfl)) rfl rfl rfl (hp _ _) ?_
      refine WJ_takeP 16 rfl (by kernel_rfl) (Rd_isF (Rd_neNd (a := (5, leafD 1)) (b := (5, leafD 1)) rfl rfl fls133 tk3 ud3 tk42 ais42) (by simp)) rfl rfl rfl (hp _ _) ?_
      refine WJ_takeP 17 rfl (by kernel_rfl) (Rd_pickF rfl rfl) rfl rfl rfl (hp _ _) ?_
      refine WJ_takeP 18 rfl (by kernel_rfl) (Rd_move rfl) rfl rfl rfl (hp _ _) ?_
      refine WJ_takeP 19 rfl (by kernel_rfl) (Rd_move rfl) rfl rfl rfl (hp _ _) ?_
      refine WJ_takeP 20 rfl (by kernel_rfl) (Rd_index 1 rfl rfl ud120 sz133 (hi := by decide)) rfl rfl rfl (hp _ _) ?_
      refine WJ_tk 21 (Rd_loadg_arr (f := eND) (i := 1) rfl tk133 (hl := (rfl : ([(5, leafD 1), (3, nmT)] : List Nd)[1]? = some (3, nmT)))) hp ?_ rfl (by kernel_rfl) rfl rfl rfl
      refine WJ_takeP 22 rfl (by kernel_rfl) (Rd_move rfl) rfl rfl rfl (hp _ _) ?_
      refine WJ_takeP 23 rfl (by kernel_rfl) (Rd_index 2 rfl rfl ud76 sz42 (hi := by decide)) rfl rfl rfl (hp _ _) ?_
      refine WJ_tk 24 (Rd_aU (k := .u8) (l := nmT.1) (Rd_loadg_arr (f := fD) (i := 2) rfl tk42 (hl := (rfl : (exBL)[2]? = some nmT))) rfl) hp ?_ rfl (by kernel_rfl) rfl rfl rfl
      refine WJ_takeP 25 rfl (by kernel_rfl) (Rd_build pls133 rfl (hf := fillND (i := 3) (d := nmT) rfl)) rfl rfl rfl (hp _ _) ?_
      refine WJ_takeP 26 rfl (by kernel_rfl) (Rd_isF (Rd_neNd (a := (3, nmT)) (b := (3, nmT)) rfl rfl fls133 tk3 ud3 tk42 ais42) (by simp)) rfl rfl rfl (hp _ _) ?_
      refine WJ_takeP 27 rfl (by kernel_rfl) (Rd_pickF rfl rfl) rfl rfl rfl (hp _ _) ?_
      refine WJ_done (by kernel_rfl) ?_
      refine Ps_next hK34 ?_
      refine WC_condF rfl ?_
      refine WC_skip ?_
      refine Ps_next hK33 ?_
      refine WC_sr fun K35 hK35 => ?_
      refine WL_ac (Ac_call cf85 rfl (hs := leaf_ct (i := 5) (hi := by decide))) rfl rfl rfl ?_
      rintro _ _ ⟨⟨⟩, rfl, hA⟩
      simp only [List.cons_append, List.nil_append] at hA
      replace hA := hA.symm
      subst hA
      have hlf5 := Dg_len (leafD 5)
      refine WL_ac (Ac_call cf72 rfl (hs := pNew_ct (n := 1) (root := leafD 5) (h1 := by decide) (h2 := by decide))) rfl rfl rfl ?_
      rintro _ _ ⟨⟨qb, mq⟩, rfl, hA⟩
      simp only [List.cons_append, List.nil_append] at hA
      replace hA := hA.symm
      subst hA
      rw [show wdM 1 = 1 from rfl, show newK 1 (leafD 5) = nmQ from rfl]
      refine WL_rd (Rd_move rfl) rfl rfl rfl ?_
      refine WL_rd (Rd_ext0 rfl) rfl rfl rfl ?_
      refine WL_rd (Rd_ext1 rfl) rfl rfl rfl ?_
      refine WL_rd (Rd_assign rfl) rfl rfl rfl ?_
      refine WL_rd (Rd_assign rfl) rfl rfl rfl ?_
      refine WL_end hK35 ?_
      refine WC_seq fun K36 hK36 => ?_
      refine WC_sr fun K37 hK37 => ?_
      refine WL_rd (Rd_move rfl) rfl rfl rfl ?_
      refine WL_rd (Rd_peq rfl rfl ud121) rfl rfl rfl ?_
      refine WL_rd (Rd_move rfl) rfl rfl rfl ?_
      refine WL_rd (Rd_move rfl) rfl rfl rfl ?_
      refine WL_rd (Rd_isF (Rd_neq rfl rfl)) rfl rfl rfl ?_
      refine WL_rd (Rd_pickF rfl rfl) rfl rfl rfl ?_
      refine WL_rd (Rd_move rfl) rfl rfl rfl ?_
      refine WL_rd (Rd_move rfl) rfl rfl rfl ?_
      refine WL_ac (Ac_call cf87 rfl (hs := pWhole_ct (pb := qb) (m := mq) (n := 1) (w := 1) (Kn := nmQ) (hs := nmQS) (hn1 := by decide) (hw1 := by decide))) rfl rfl rfl ?_
      rintro _ _ ⟨⟨⟩, rfl, hA⟩
      simp only [List.cons_append, List.nil_append] at hA
      replace hA := hA.symm
      subst hA
      rw [show whB 1 nmQ = true from rfl]
      refine WL_rd (Rd_not rfl) rfl rfl rfl ?_
      refine WL_rd (Rd_pickF rfl rfl) rfl rfl rfl ?_
      refine WL_rd (Rd_move rfl) rfl rfl rfl ?_
      refine WL_rd (Rd_move rfl) rfl rfl rfl ?_
      refine WL_ac (Ac_call cf85 rfl (hs := leaf_ct (i := 5) (hi := by decide))) rfl rfl rfl ?_
      rintro _ _ ⟨⟨⟩, rfl, hA⟩
      simp only [List.cons_append, List.nil_append] at hA
      replace hA := hA.symm
      subst hA
      have hlf5 := Dg_len (leafD 5)
      refine WL_rd (Rd_build pls133 rfl (hf := fillND (i := 1) (d := leafD 5) rfl)) rfl rfl rfl ?_
      refine WL_ac (Ac_bsF ([(1, leafD 5)] : List Nd) nodV encND nodV_cells ud120 zr133 sz133 rfl rfl rfl rfl) rfl rfl rfl ?_
      rintro _ _ ⟨b220, rfl, rfl⟩
      have hS220 := Sv_own' (a := some b220) (cap := 1) (T := 133) (l := [(1, leafD 5)]) encND (fun e => by cases e) (Nat.le_refl _)
      refine WL_ac (Ac_call cf74 rfl (hs := pPut_ct (pb := qb) (m := mq) (n := 1) (w := 1) (Kn := nmQ) (hS := hS220) (hs := nmQS) (hn1 := by decide) (hw1 := by decide) (hw2 := by decide) (hll := by decide))) rfl rfl rfl ?_
      rintro _ _ ⟨⟨⟩, rfl, hA⟩
      simp only [List.cons_append, List.nil_append] at hA
      replace hA := hA.symm
      subst hA
      rw [show (putS 1 nmQ [(1, leafD 5)]).1 = 0 from by rw [nmQP], nmQK]
      refine WL_rd (Rd_isF (Rd_neq rfl rfl)) rfl rfl rfl ?_
      refine WL_rd (Rd_pickF rfl rfl) rfl rfl rfl ?_
      refine WL_end hK37 ?_
      refine WC_condF rfl ?_
      refine WC_skip ?_
      refine Ps_next hK36 ?_
      refine WC_sr fun K38 hK38 => ?_
      refine WL_rd (Rd_move rfl) rfl rfl rfl ?_
      refine WL_ac (Ac_call cf84 rfl (hs := pLeaf_ct (pb := qb) (m := mq) (n := 1) (w := 1) (Kn := nmQ) (i := 0))) rfl rfl rfl ?_
      rintro _ _ ⟨⟨⟩, rfl, hA⟩
      simp only [List.cons_append, List.nil_append] at hA
      replace hA := hA.symm
      subst hA
      rw [show lfK 1 1 nmQ 0 = some (leafD 5) from rfl, show (Option.getD (some (leafD 5)) zD).1 = (leafD 5).1 from rfl, show (some (leafD 5)).isSome = true from rfl]
      refine WL_rd (Rd_move rfl) rfl rfl rfl ?_
      refine WL_rd (Rd_ext0 rfl) rfl rfl rfl ?_
      refine WL_rd (Rd_ext1 rfl) rfl rfl rfl ?_
      refine WL_ac (Ac_allocW (k := .u8) (w := 8) (m := 32) zr42) rfl rfl rfl ?_
      rintro _ _ ⟨b19, rfl, rfl⟩
      refine WL_ac0 (Ac_storeW rfl rfl sz42) rfl rfl ?_
      rintro _ _ rfl
      refine WL_rd (Rd_assign rfl) rfl rfl rfl ?_
      refine WL_end hK38 ?_
      refine WC_sr fun K39 hK39 => ?_
      refine WL_ac (Ac_call cf85 rfl (hs := leaf_ct (i := 5) (hi := by decide))) rfl rfl rfl ?_
      rintro _ _ ⟨⟨⟩, rfl, hA⟩
      simp only [List.cons_append, List.nil_append] at hA
      replace hA := hA.symm
      subst hA
      have hlf5 := Dg_len (leafD 5)
      refine WL_ac (Ac_call cf72 rfl (hs := pNew_no (n := 0) (root := leafD 5) (h1 := by decide))) rfl rfl rfl ?_
      rintro _ _ ⟨⟨⟩, rfl, hA⟩
      simp only [List.cons_append, List.nil_append] at hA
      replace hA := hA.symm
      subst hA
      refine WL_rd (Rd_move rfl) rfl rfl rfl ?_
      refine WL_rd (Rd_ext0 rfl) rfl rfl rfl ?_
      refine WL_rd (Rd_ext1 rfl) rfl rfl rfl ?_
      refine WL_rd (Rd_assign rfl) rfl rfl rfl ?_
      refine WL_end hK39 ?_
      refine WC_sr fun K40 hK40 => ?_
      refine WL_ac (Ac_call cf85 rfl (hs := leaf_ct (i := 5) (hi := by decide))) rfl rfl rfl ?_
      rintro _ _ ⟨⟨⟩, rfl, hA⟩
      simp only [List.cons_append, List.nil_append] at hA
      replace hA := hA.symm
      subst hA
      have hlf5 := Dg_len (leafD 5)
      refine WL_ac (Ac_call cf72 rfl (hs := pNew_no (n := 513) (root := leafD 5) (h1 := by decide))) rfl rfl rfl ?_
      rintro _ _ ⟨⟨⟩, rfl, hA⟩
      simp only [List.cons_append, List.nil_append] at hA
      replace hA := hA.symm
      subst hA
      refine WL_rd (Rd_move rfl) rfl rfl rfl ?_
      refine WL_rd (Rd_ext0 rfl) rfl rfl rfl ?_
      refine WL_rd (Rd_ext1 rfl) rfl rfl rfl ?_
      refine WL_rd (Rd_assign rfl) rfl rfl rfl ?_
      refine WL_end hK40 ?_
      refine WC_seq fun K41 hK41 => ?_
      refine WC_drawA mix (fun i => ([2, 2, 2, 1, 2, 2, 2, 2, 2, 2, 2, 2, 2, 2, 2] : List Nat).getD i 0) ?_
      refine WJ_takeP 0 rfl (by kernel_rfl) (Rd_move rfl) rfl rfl rfl (hp _ _) ?_
      refine WJ_takeP 1 rfl (by kernel_rfl) (Rd_move rfl) rfl rfl rfl (hp _ _) ?_
      refine WJ_tk 2 (Rd_loadW (l := (leafD 5).1) rfl tk42) hp ?_ rfl (by kernel_rfl) rfl rfl rfl
      refine WJ_all (rs := [3]) (by kernel_rfl) rfl ?_
      refine WI_one ?_
      refine WI_ac rfl (Ac_call cf85 rfl (hs := leaf_ct (i := 5) (hi := by decide))) rfl rfl rfl rfl ?_
      rintro _ _ ⟨⟨⟩, rfl, hA⟩
      simp only [List.cons_append, List.nil_append] at hA
      replace hA := hA.symm
      subst hA
      have hlf5 := Dg_len (leafD 5)
      refine ⟨(fun _ => (by repeat (first | with_reducible exact Sub.refl | with_reducible exact Sub.nil | with_reducible refine Sub.cons (by repeat (first | with_reducible exact Ext.here | with_reducible apply Ext.there)) ?_ | with_reducible refine Sub.tail ?_))), ?_⟩
      refine WJ_takeP 4 rfl (by kernel_rfl) (Rd_isT (Rd_eqW rfl rfl ais42)) rfl rfl rfl (hp _ _) ?_
      refine WJ_takeP 5 rfl (by kernel_rfl) (Rd_pickT rfl rfl) rfl rfl rfl (hp _ _) ?_
      refine WJ_takeP 6 rfl (by kernel_rfl) (Rd_move rfl) rfl rfl rfl (hp _ _) ?_
      refine WJ_takeP 7 rfl (by kernel_rfl) (Rd_move rfl) rfl rfl rfl (hp _ _) ?_
      refine WJ_takeP 8 rfl (by kernel_rfl) (Rd_isT (Rd_eql rfl rfl)) rfl rfl rfl (hp _ _) ?_
      refine WJ_takeP 9 rfl (by kernel_rfl) (Rd_pickT rfl rfl) rfl rfl rfl (hp _ _) ?_
      refine WJ_takeP 10 rfl (by kernel_rfl) (Rd_move rfl) rfl rfl rfl (hp _ _) ?_
      refine WJ_takeP 11 rfl (by kernel_rfl) (Rd_move rfl) rfl rfl rfl (hp _ _) ?_
      refine WJ_takeP 12 rfl (by kernel_rfl) (Rd_isT (Rd_eql rfl rfl)) rfl rfl rfl (hp _ _) ?_
      refine WJ_takeP 13 rfl (by kernel_rfl) (Rd_pickT rfl rfl) rfl rfl rfl (hp _ _) ?_
      refine WJ_takeP 14 rfl (by kernel_rfl) (Rd_assign rfl) rfl rfl rfl (hp _ _) ?_
      refine WJ_done (by kernel_rfl) ?_
      refine Ps_next hK41 ?_
      refine WC_ret ?_
      exact hret.go () (Rs1 rfl rfl) (hs := by simp only [List.cons_append, List.nil_append]; first | ((repeat (first | with_reducible exact Sub.refl | with_reducible apply Sub.cons Ext.here | with_reducible apply Sub.tail)); done) | (repeat (first | with_reducible exact Sub.refl | with_reducible exact Sub.nil | (with_reducible apply Sub.cons; · (repeat (first | with_reducible exact Ext.here | with_reducible apply Ext.there))) | with_reducible apply Sub.tail)))
  · skip
    refine WI_rd rfl (Rd_aU (k := .u8) (l := nmT.1) (Rd_loadg_arr (f := fD) (i := 2) rfl tk42 (hl := (rfl : (exBL)[2]? = some nmT))) rfl) rfl rfl rfl (fun h => by cases h) ?_
    refine WJ_takeP 8 rfl (by kernel_rfl) (Rd_build pls133 rfl (hf := fillND (i := 3) (d := nmT) rfl)) rfl rfl rfl (hp _ _) ?_
    refine WJ_all (rs := [1]) (by kernel_rfl) rfl ?_
    refine WI_one ?_
    refine WI_ac rfl (Ac_call cf85 rfl (hs := leaf_ct (i := 0) (hi := by decide))) rfl rfl rfl rfl ?_
    rintro _ _ ⟨⟨⟩, rfl, hA⟩
    simp only [List.cons_append, List.nil_append] at hA
    replace hA := hA.symm
    subst hA
    have hlf0 := Dg_len (leafD 0)
    refine ⟨(fun _ => (by repeat (first | with_reducible exact Sub.refl | with_reducible exact Sub.nil | with_reducible refine Sub.cons (by repeat (first | with_reducible exact Ext.here | with_reducible apply Ext.there)) ?_ | with_reducible refine Sub.tail ?_))), ?_⟩
    refine WJ_takeP 2 rfl (by kernel_rfl) (Rd_build pls133 rfl (hf := fillND (i := 4) (d := leafD 0) rfl)) rfl rfl rfl (hp _ _) ?_
    refine WJ_all (rs := [3]) (by kernel_rfl) rfl ?_
    refine WI_one ?_
    refine WI_ac rfl (Ac_call cf85 rfl (hs := leaf_ct (i := 1) (hi := by decide))) rfl rfl rfl rfl ?_
    rintro _ _ ⟨⟨⟩, rfl, hA⟩
    simp only [List.cons_append, List.nil_append] at hA
    replace hA := hA.symm
    subst hA
    have hlf1 := Dg_len (leafD 1)
    refine ⟨(fun _ => (by repeat (first | with_reducible exact Sub.refl | with_reducible exact Sub.nil | with_reducible refine Sub.cons (by repeat (first | with_reducible exact Ext.here | with_reducible apply Ext.there)) ?_ | with_reducible refine Sub.tail ?_))), ?_⟩
    refine WJ_takeP 4 rfl (by kernel_rfl) (Rd_build pls133 rfl (hf := fillND (i := 5) (d := leafD 1) rfl)) rfl rfl rfl (hp _ _) ?_
    refine WJ_all (rs := [9]) (by kernel_rfl) rfl ?_
    refine WI_one ?_
    refine WI_ac rfl (Ac_bsF ([(4, leafD 0), (5, leafD 1), (3, nmT)] : List Nd) nodV encND nodV_cells ud120 zr133 sz133 rfl rfl rfl rfl) rfl rfl rfl rfl ?_
    rintro _ _ ⟨b159, rfl, rfl⟩
    refine ⟨(fun _ => (by repeat (first | with_reducible exact Sub.refl | with_reducible exact Sub.nil | with_reducible refine Sub.cons (by repeat (first | with_reducible exact Ext.here | with_reducible apply Ext.there)) ?_ | with_reducible refine Sub.tail ?_))), ?_⟩
    have hS159 := Sv_own' (a := some b159) (cap := 3) (T := 133) (l := [(4, leafD 0), (5, leafD 1), (3, nmT)]) encND (fun e => by cases e) (Nat.le_refl _)
    refine WJ_all (rs := [10]) (by kernel_rfl) rfl ?_
    refine WI_one ?_
    refine WI_ac rfl (Ac_call cf74 rfl (hs := pPut_ct (pb := pb) (m := m) (n := 3) (w := 4) (Kn := nmK) (hS := hS159) (hs := nmS) (hn1 := by decide) (hw1 := by decide) (hw2 := by decide) (hll := by decide))) rfl rfl rfl rfl ?_
    rintro _ _ ⟨⟨⟩, rfl, hA⟩
    simp only [List.cons_append, List.nil_append] at hA
    replace hA := hA.symm
    subst hA
    rw [show (putS 4 nmK [(4, leafD 0), (5, leafD 1), (3, nmT)]).1 = 0 from by rw [nmP6], nmK2_of]
    refine ⟨(fun h => by cases h), ?_⟩
    refine WJ_takeP 11 rfl (by kernel_rfl) (Rd_isF (Rd_neq rfl rfl)) rfl rfl rfl (hp _ _) ?_
    refine WJ_done (by kernel_rfl) ?_
    refine Ps_next hK19 ?_
    refine WC_condF rfl ?_
    refine WC_skip ?_
    refine Ps_next hK18 ?_
    refine WC_sr fun K42 hK42 => ?_
    refine WL_rd (Rd_move rfl) rfl rfl rfl ?_
    refine WL_ac (Ac_call cf76 rfl (hs := pKnown_ct (pb := pb) (m := m) (n := 3) (w := 4) (Kn := nmK2) (i := 6))) rfl rfl rfl ?_
    rintro _ _ ⟨⟨⟩, rfl, hA⟩
    simp only [List.cons_append, List.nil_append] at hA
    replace hA := hA.symm
    subst hA
    rw [show (nmK2 6).getD zD = zD from rfl, show (nmK2 6).isSome = false from rfl]
    refine WL_rd (Rd_move rfl) rfl rfl rfl ?_
    refine WL_rd (Rd_ext0 rfl) rfl rfl rfl ?_
    refine WL_rd (Rd_ext1 rfl) rfl rfl rfl ?_
    refine WL_ac (Ac_allocW (k := .u8) (w := 8) (m := 32) zr42) rfl rfl rfl ?_
    rintro _ _ ⟨b15, rfl, rfl⟩
    refine WL_ac0 (Ac_storeW rfl rfl sz42) rfl rfl ?_
    rintro _ _ rfl
    refine WL_rd (Rd_assign rfl) rfl rfl rfl ?_
    refine WL_end hK42 ?_
    refine WC_sr fun K43 hK43 => ?_
    refine WL_rd (Rd_move rfl) rfl rfl rfl ?_
    refine WL_ac (Ac_call cf88 rfl (hs := pChain_ct (pb := pb) (m := m) (n := 3) (w := 4) (Kn := nmK2) (i0 := 0) (hw := rfl) (h1 := by decide) (h2 := by decide))) rfl rfl rfl ?_
    rintro _ _ ⟨⟨a169, cap169⟩, rfl, hA⟩
    simp only [List.cons_append, List.nil_append] at hA
    replace hA := hA.symm
    subst hA
    rw [nmCh.1, nmCh.2]
    refine WL_some (a := a169) (by repeat (first | with_reducible exact Has.here | with_reducible refine Has.there ?_)) (by decide) (fun g169 hgb _ => ?_)
    subst hgb
    refine WL_rd (Rd_move rfl) rfl rfl rfl ?_
    refine WL_rd (Rd_ext0 rfl) rfl rfl rfl ?_
    refine WL_rd (Rd_ext1 rfl) rfl rfl rfl ?_
    refine WL_rd (Rd_assign rfl) rfl rfl rfl ?_
    refine WL_rd (Rd_assign rfl) rfl rfl rfl ?_
    refine WL_end hK43 ?_
    refine WC_seq fun K44 hK44 => ?_
    refine WC_seq fun K45 hK45 => ?_
    refine WC_drawA mix (fun i => ([2, 2, 2, 2, 2, 2, 2, 2, 2, 2, 2, 2, 2, 2, 1, 2, 2, 2, 2, 2, 2, 2, 2, 2, 2, 2, 2, 2] : List Nat).getD i 0) ?_
    refine WJ_takeP 0 rfl (by kernel_rfl) (Rd_move rfl) rfl rfl rfl (hp _ _) ?_
    refine WJ_takeP 1 rfl (by kernel_rfl) (Rd_move rfl) rfl rfl rfl (hp _ _) ?_
    refine WJ_takeP 2 rfl (by kernel_rfl) (Rd_move rfl) rfl rfl rfl (hp _ _) ?_
    refine WJ_takeP 3 rfl (by kernel_rfl) (Rd_isF (Rd_neqN (j := 0) rfl rfl)) rfl rfl rfl (hp _ _) ?_
    refine WJ_takeP 4 rfl (by kernel_rfl) (Rd_pickF rfl rfl) rfl rfl rfl (hp _ _) ?_
    refine WJ_takeP 5 rfl (by kernel_rfl) (Rd_move rfl) rfl rfl rfl (hp _ _) ?_
    refine WJ_takeP 6 rfl (by kernel_rfl) (Rd_move rfl) rfl rfl rfl (hp _ _) ?_
    refine WJ_takeP 7 rfl (by kernel_rfl) (Rd_len rfl rfl ud120) rfl rfl rfl (hp _ _) ?_
    refine WJ_takeP 8 rfl (by kernel_rfl) (Rd_isF (Rd_neqN (j := 2) rfl rfl)) rfl rfl rfl (hp _ _) ?_
    refine WJ_takeP 9 rfl (by kernel_rfl) (Rd_pickF rfl rfl) rfl rfl rfl (hp _ _) ?_
    refine WJ_takeP 10 rfl (by kernel_rfl) (Rd_move rfl) rfl rfl rfl (hp _ _) ?_
    refine WJ_takeP 11 rfl (by kernel_rfl) (Rd_move rfl) rfl rfl rfl (hp _ _) ?_
    refine WJ_takeP 12 rfl (by kernel_rfl) (Rd_index 0 rfl rfl ud120 sz133 (hi := by decide)) rfl rfl rfl (hp _ _) ?_
    refine WJ_tk 13 (Rd_loadg_arr (f := eND) (i := 0) rfl tk133 (hl := (rfl : ([(5, leafD 1), (3, nmT)] : List Nd)[0]? = some (5, leafD 1)))) hp ?_ rfl (by kernel_rfl) rfl rfl rfl
    refine WJ_all (rs := [14]) (by kernel_rfl) rfl ?_
    refine WI_one ?_
    refine WI_ac rfl (Ac_call cf85 rfl (hs := leaf_ct (i := 1) (hi := by decide))) rfl rfl rfl rfl ?_
    rintro _ _ ⟨⟨⟩, rfl, hA⟩
    simp only [List.cons_append, List.nil_append] at hA
    replace hA := hA.symm
    subst hA
    have hlf1 := Dg_len (leafD 1)
    refine ⟨(fun _ => (by repeat (first | with_reducible exact Sub.refl | with_reducible exact Sub.nil | with_reducible refine Sub.cons (by repeat (first | with_reducible exact Ext.here | with_reducible apply Ext.there)) ?_ | with_reducible refine Sub.tail ?_))), ?_⟩
    refine WJ_takeP 15 rfl (by kernel_rfl) (Rd_build pls133 rfl (hf := fillND (i := 5) (d := leafD 1) rfl)) rfl rfl rfl (hp _ _) ?_
    refine WJ_takeP 16 rfl (by kernel_rfl) (Rd_isF (Rd_neNd (a := (5, leafD 1)) (b := (5, leafD 1)) rfl rfl fls133 tk3 ud3 tk42 ais42) (by simp)) rfl rfl rfl (hp _ _) ?_
    refine WJ_takeP 17 rfl (by kernel_rfl) (Rd_pickF rfl rfl) rfl rfl rfl (hp _ _) ?_
    refine WJ_takeP 18 rfl (by kernel_rfl) (Rd_move rfl) rfl rfl rfl (hp _ _) ?_
    refine WJ_takeP 19 rfl (by kernel_rfl) (Rd_move rfl) rfl rfl rfl (hp _ _) ?_
    refine WJ_takeP 20 rfl (by kernel_rfl) (Rd_index 1 rfl rfl ud120 sz133 (hi := by decide)) rfl rfl rfl (hp _ _) ?_
    refine WJ_tk 21 (Rd_loadg_arr (f := eND) (i := 1) rfl tk133 (hl := (rfl : ([(5, leafD 1), (3, nmT)] : List Nd)[1]? = some (3, nmT)))) hp ?_ rfl (by kernel_rfl) rfl rfl rfl
    refine WJ_takeP 22 rfl (by kernel_rfl) (Rd_move rfl) rfl rfl rfl (hp _ _) ?_
    refine WJ_takeP 23 rfl (by kernel_rfl) (Rd_index 2 rfl rfl ud76 sz42 (hi := by decide)) rfl rfl rfl (hp _ _) ?_
    refine WJ_tk 24 (Rd_aU (k := .u8) (l := nmT.1) (Rd_loadg_arr (f := fD) (i := 2) rfl tk42 (hl := (rfl : (exBL)[2]? = some nmT))) rfl) hp ?_ rfl (by kernel_rfl) rfl rfl rfl
    refine WJ_takeP 25 rfl (by kernel_rfl) (Rd_build pls133 rfl (hf := fillND (i := 3) (d := nmT) rfl)) rfl rfl rfl (hp _ _) ?_
    refine WJ_takeP 26 rfl (by kernel_rfl) (Rd_isF (Rd_neNd (a := (3, nmT)) (b := (3, nmT)) rfl rfl fls133 tk3 ud3 tk42 ais42) (by simp)) rfl rfl rfl (hp _ _) ?_
    refine WJ_takeP 27 rfl (by kernel_rfl) (Rd_pickF rfl rfl) rfl rfl rfl (hp _ _) ?_
    refine WJ_done (by kernel_rfl) ?_
    refine Ps_next hK45 ?_
    refine WC_condF rfl ?_
    refine WC_skip ?_
    refine Ps_next hK44 ?_
    refine WC_sr fun K46 hK46 => ?_
    refine WL_ac (Ac_call cf85 rfl (hs := leaf_ct (i := 5) (hi := by decide))) rfl rfl rfl ?_
    rintro _ _ ⟨⟨⟩, rfl, hA⟩
    simp only [List.cons_append, List.nil_append] at hA
    replace hA := hA.symm
    subst hA
    have hlf5 := Dg_len (leafD 5)
    refine WL_ac (Ac_call cf72 rfl (hs := pNew_ct (n := 1) (root := leafD 5) (h1 := by decide) (h2 := by decide))) rfl rfl rfl ?_
    rintro _ _ ⟨⟨qb, mq⟩, rfl, hA⟩
    simp only [List.cons_append, List.nil_append] at hA
    replace hA := hA.symm
    subst hA
    rw [show wdM 1 = 1 from rfl, show newK 1 (leafD 5) = nmQ from rfl]
    refine WL_rd (Rd_move rfl) rfl rfl rfl ?_
    refine WL_rd (Rd_ext0 rfl) rfl rfl rfl ?_
    refine WL_rd (Rd_ext1 rfl) rfl rfl rfl ?_
    refine WL_rd (Rd_assign rfl) rfl rfl rfl ?_
    refine WL_rd (Rd_assign rfl) rfl rfl rfl ?_
    refine WL_end hK46 ?_
    refine WC_seq fun K47 hK47 => ?_
    refine WC_sr fun K48 hK48 => ?_
    refine WL_rd (Rd_move rfl) rfl rfl rfl ?_
    refine WL_rd (Rd_peq rfl rfl ud121) rfl rfl rfl ?_
    refine WL_rd (Rd_move rfl) rfl rfl rfl ?_
    refine WL_rd (Rd_move rfl) rfl rfl rfl ?_
    refine WL_rd (Rd_isF (Rd_neq rfl rfl)) rfl rfl rfl ?_
    refine WL_rd (Rd_pickF rfl rfl) rfl rfl rfl ?_
    refine WL_rd (Rd_move rfl) rfl rfl rfl ?_
    refine WL_rd (Rd_move rfl) rfl rfl rfl ?_
    refine WL_ac (Ac_call cf87 rfl (hs := pWhole_ct (pb := qb) (m := mq) (n := 1) (w := 1) (Kn := nmQ) (hs := nmQS) (hn1 := by decide) (hw1 := by decide))) rfl rfl rfl ?_
    rintro _ _ ⟨⟨⟩, rfl, hA⟩
    simp only [List.cons_append, List.nil_append] at hA
    replace hA := hA.symm
    subst hA
    rw [show whB 1 nmQ = true from rfl]
    refine WL_rd (Rd_not rfl) rfl rfl rfl ?_
    refine WL_rd (Rd_pickF rfl rfl) rfl rfl rfl ?_
    refine WL_rd (Rd_move rfl) rfl rfl rfl ?_
    refine WL_rd (Rd_move rfl) rfl rfl rfl ?_
    refine WL_ac (Ac_call cf85 rfl (hs := leaf_ct (i := 5) (hi := by decide))) rfl rfl rfl ?_
    rintro _ _ ⟨⟨⟩, rfl, hA⟩
    simp only [List.cons_append, List.nil_append] at hA
    replace hA := hA.symm
    subst hA
    have hlf5 := Dg_len (leafD 5)
    refine WL_rd (Rd_build pls133 rfl (hf := fillND (i := 1) (d := leafD 5) rfl)) rfl rfl rfl ?_
    refine WL_ac (Ac_bsF ([(1, leafD 5)] : List Nd) nodV encND nodV_cells ud120 zr133 sz133 rfl rfl rfl rfl) rfl rfl rfl ?_
    rintro _ _ ⟨b220, rfl, rfl⟩
    have hS220 := Sv_own' (a := some b220) (cap := 1) (T := 133) (l := [(1, leafD 5)]) encND (fun e => by cases e) (Nat.le_refl _)
    refine WL_ac (Ac_call cf74 rfl (hs := pPut_ct (pb := qb) (m := mq) (n := 1) (w := 1) (Kn := nmQ) (hS := hS220) (hs := nmQS) (hn1 := by decide) (hw1 := by decide) (hw2 := by decide) (hll := by decide))) rfl rfl rfl ?_
    rintro _ _ ⟨⟨⟩, rfl, hA⟩
    simp only [List.cons_append, List.nil_append] at hA
    replace hA := hA.symm
    subst hA
    rw [show (putS 1 nmQ [(1, leafD 5)]).1 = 0 from by rw [nmQP], nmQK]
    refine WL_rd (Rd_isF (Rd_neq rfl rfl)) rfl rfl rfl ?_
    refine WL_rd (Rd_pickF rfl rfl) rfl rfl rfl ?_
    refine WL_end hK48 ?_
    refine WC_condF rfl ?_
    refine WC_skip ?_
    refine Ps_next hK47 ?_
    refine WC_sr fun K49 hK49 => ?_
    refine WL_rd (Rd_move rfl) rfl rfl rfl ?_
    refine WL_ac (Ac_call cf84 rfl (hs := pLeaf_ct (pb := qb) (m := mq) (n := 1) (w := 1) (Kn := nmQ) (i := 0))) rfl rfl rfl ?_
    rintro _ _ ⟨⟨⟩, rfl, hA⟩
    simp only [List.cons_append, List.nil_append] at hA
    replace hA := hA.symm
    subst hA
    rw [show lfK 1 1 nmQ 0 = some (leafD 5) from rfl, show (Option.getD (some (leafD 5)) zD).1 = (leafD 5).1 from rfl, show (some (leafD 5)).isSome = true from rfl]
    refine WL_rd (Rd_move rfl) rfl rfl rfl ?_
    refine WL_rd (Rd_ext0 rfl) rfl rfl rfl ?_
    refine WL_rd (Rd_ext1 rfl) rfl rfl rfl ?_
    refine WL_ac (Ac_allocW (k := .u8) (w := 8) (m := 32) zr42) rfl rfl rfl ?_
    rintro _ _ ⟨b19, rfl, rfl⟩
    refine WL_ac0 (Ac_storeW rfl rfl sz42) rfl rfl ?_
    rintro _ _ rfl
    refine WL_rd (Rd_assign rfl) rfl rfl rfl ?_
    refine WL_end hK49 ?_
    refine WC_sr fun K50 hK50 => ?_
    refine WL_ac (Ac_call cf85 rfl (hs := leaf_ct (i := 5) (hi := by decide))) rfl rfl rfl ?_
    rintro _ _ ⟨⟨⟩, rfl, hA⟩
    simp only [List.cons_append, List.nil_append] at hA
    replace hA := hA.symm
    subst hA
    have hlf5 := Dg_len (leafD 5)
    refine WL_ac (Ac_call cf72 rfl (hs := pNew_no (n := 0) (root := leafD 5) (h1 := by decide))) rfl rfl rfl ?_
    rintro _ _ ⟨⟨⟩, rfl, hA⟩
    simp only [List.cons_append, List.nil_append] at hA
    replace hA := hA.symm
    subst hA
    refine WL_rd (Rd_move rfl) rfl rfl rfl ?_
    refine WL_rd (Rd_ext0 rfl) rfl rfl rfl ?_
    refine WL_rd (Rd_ext1 rfl) rfl rfl rfl ?_
    refine WL_rd (Rd_assign rfl) rfl rfl rfl ?_
    refine WL_end hK50 ?_
    refine WC_sr fun K51 hK51 => ?_
    refine WL_ac (Ac_call cf85 rfl (hs := leaf_ct (i := 5) (hi := by decide))) rfl rfl rfl ?_
    rintro _ _ ⟨⟨⟩, rfl, hA⟩
    simp only [List.cons_append, List.nil_append] at hA
    replace hA := hA.symm
    subst hA
    have hlf5 := Dg_len (leafD 5)
    refine WL_ac (Ac_call cf72 rfl (hs := pNew_no (n := 513) (root := leafD 5) (h1 := by decide))) rfl rfl rfl ?_
    rintro _ _ ⟨⟨⟩, rfl, hA⟩
    simp only [List.cons_append, List.nil_append] at hA
    replace hA := hA.symm
    subst hA
    refine WL_rd (Rd_move rfl) rfl rfl rfl ?_
    refine WL_rd (Rd_ext0 rfl) rfl rfl rfl ?_
    refine WL_rd (Rd_ext1 rfl) rfl rfl rfl ?_
    refine WL_rd (Rd_assign rfl) rfl rfl rfl ?_
    refine WL_end hK51 ?_
    refine WC_seq fun K52 hK52 => ?_
    refine WC_drawA mix (fun i => ([2, 2, 2, 1, 2, 2, 2, 2, 2, 2, 2, 2, 2, 2, 2] : List Nat).getD i 0) ?_
    refine WJ_takeP 0 rfl (by kernel_rfl) (Rd_move rfl) rfl rfl rfl (hp _ _) ?_
    refine WJ_takeP 1 rfl (by kernel_rfl) (Rd_move rfl) rfl rfl rfl (hp _ _) ?_
    refine WJ_tk 2 (Rd_loadW (l := (leafD 5).1) rfl tk42) hp ?_ rfl (by kernel_rfl) rfl rfl rfl
    refine WJ_all (rs := [3]) (by kernel_rfl) rfl ?_
    refine WI_one ?_
    refine WI_ac rfl (Ac_call cf85 rfl (hs := leaf_ct (i := 5) (hi := by decide))) rfl rfl rfl rfl ?_
    rintro _ _ ⟨⟨⟩, rfl, hA⟩
    simp only [List.cons_append, List.nil_append] at hA
    replace hA := hA.symm
    subst hA
    have hlf5 := Dg_len (leafD 5)
    refine ⟨(fun _ => (by repeat (first | with_reducible exact Sub.refl | with_reducible exact Sub.nil | with_reducible refine Sub.cons (by repeat (first | with_reducible exact Ext.here | with_reducible apply Ext.there)) ?_ | with_reducible refine Sub.tail ?_))), ?_⟩
    refine WJ_takeP 4 rfl (by kernel_rfl) (Rd_isT (Rd_eqW rfl rfl ais42)) rfl rfl rfl (hp _ _) ?_
    refine WJ_takeP 5 rfl (by kernel_rfl) (Rd_pickT rfl rfl) rfl rfl rfl (hp _ _) ?_
    refine WJ_takeP 6 rfl (by kernel_rfl) (Rd_move rfl) rfl rfl rfl (hp _ _) ?_
    refine WJ_takeP 7 rfl (by kernel_rfl) (Rd_move rfl) rfl rfl rfl (hp _ _) ?_
    refine WJ_takeP 8 rfl (by kernel_rfl) (Rd_isT (Rd_eql rfl rfl)) rfl rfl rfl (hp _ _) ?_
    refine WJ_takeP 9 rfl (by kernel_rfl) (Rd_pickT rfl rfl) rfl rfl rfl (hp _ _) ?_
    refine WJ_takeP 10 rfl (by kernel_rfl) (Rd_move rfl) rfl rfl rfl (hp _ _) ?_
    refine WJ_takeP 11 rfl (by kernel_rfl) (Rd_move rfl) rfl rfl rfl (hp _ _) ?_
    refine WJ_takeP 12 rfl (by kernel_rfl) (Rd_isT (Rd_eql rfl rfl)) rfl rfl rfl (hp _ _) ?_
    refine WJ_takeP 13 rfl (by kernel_rfl) (Rd_pickT rfl rfl) rfl rfl rfl (hp _ _) ?_
    refine WJ_takeP 14 rfl (by kernel_rfl) (Rd_assign rfl) rfl rfl rfl (hp _ _) ?_
    refine WJ_done (by kernel_rfl) ?_
    refine Ps_next hK52 ?_
    refine WC_ret ?_
    exact hret.go () (Rs1 rfl rfl) (hs := by simp only [List.cons_append, List.nil_append]; first | ((repeat (first | with_reducible exact Sub.refl | with_reducible apply Sub.cons Ext.here | with_reducible apply Sub.tail)); done) | (repeat (first | with_reducible exact Sub.refl | with_reducible exact Sub.nil | (with_reducible apply Sub.cons; · (repeat (first | with_reducible exact Ext.here | with_reducible apply Ext.there))) | with_reducible apply Sub.tail)))
end Go.Proofs.Ytgkpbeikcpecbaa
