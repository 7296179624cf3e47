/-
  Contracts of functions that the claim reaches, or the logic and the plain laws that they rest on, or the row over them. (Conditions: none beyond the statement.)
-/
import Derived.Test.YtcookmkklcbbnaaHqSortB
set_option linter.all false
namespace Go.Proofs.Ytcookmkklcbbnaa
open Go.RowKit Go.SL Go.HpM Go.ShM 
set_option maxHeartbeats 1000000
set_option maxRecDepth 20000
set_option linter.all false
theorem cf18 : cfn Try.prog 18 = true := by kernel_rfl
theorem cf20 : cfn Try.prog 20 = true := by kernel_rfl
theorem cf21 : cfn Try.prog 21 = true := by kernel_rfl
theorem cf23 : cfn Try.prog 23 = true := by kernel_rfl
theorem cf28 : cfn Try.prog 28 = true := by kernel_rfl
theorem Sorts_ct {X : Asn} {v : Value} {l : List Int} {ao : Option Addr} {cap : Nat} {by_ : Int} (hS : Sv [X] v 1 (eInt .i64) l ao cap := by assumption) (hl : l.length ≤ 1048576 := by omega) : Ct Try.prog 6 [.int .i64 by_, v] [X] (fun _ : Unit => .bool true) (fun _ => [X]) := by
  refine Ct_body (n := 159) Try.func6 rfl rfl rfl fun F w0 Q hret hnorm hp => ?_
  change WC _ _ _ _ _ _ _ (_ :: F)
  have hll := lentI_len l
  have hol := overI_len (lentI l).length
  have hl2 : ((overI (lentI l).length).take l.length).length = l.length := by rw [List.length_take, overI_len]; omega
  have hs1 := sortZ_len (lt := ltz by_) l
  have hs2 := sortZ_len (lt := ltz by_) ((overI (lentI l).length).take l.length)
  refine WC_sr fun K1 hK1 => ?_
  refine WL_rd (Rd_assign rfl) rfl rfl rfl ?_
  refine WL_end hK1 ?_
  refine WC_seq fun K2 hK2 => ?_
  refine WC_sr fun K3 hK3 => ?_
  refine WL_ac (Ac_call cf12 rfl (hs := lives_ct)) rfl rfl rfl ?_
  rintro _ _ ⟨⟨⟩, rfl, hA⟩
  simp only [List.cons_append, List.nil_append] at hA
  replace hA := hA.symm
  subst hA
  refine WL_rd (Rd_not rfl) rfl rfl rfl ?_
  refine WL_end hK3 ?_
  refine WC_condF rfl ?_
  refine WC_skip ?_
  refine Ps_next hK2 ?_
  refine WC_sr fun K4 hK4 => ?_
  refine WL_rd (Rd_move rfl) rfl rfl rfl ?_
  refine WL_ac (Ac_call cf17 rfl (hs := lentI_ct (hS := hS))) rfl rfl rfl ?_
  rintro _ _ ⟨⟨a23, cap23⟩, rfl, hA⟩
  simp only [List.cons_append, List.nil_append] at hA
  replace hA := hA.symm
  subst hA
  refine WL_fact (fun w h => arr_facts (a := a23) (cap := cap23) (e := 1) (T := 3) (f := eInt .i64) (l := (lentI l)) (by repeat (first | with_reducible exact Has.here | with_reducible refine Has.there ?_)) h) (fun hF1f => ?_)
  have hF1 : Sv [arr a23 cap23 1 3 (eInt .i64) (lentI l)] (sl a23 l.length cap23) 1 (eInt .i64) l (a23.map fun g => ⟨g, 0, none⟩) cap23 := Sv_pre encZ (List.prefix_append _ _) hF1f.1 hF1f.2
  refine WL_fact (fun w h => arr_facts (a := a23) (cap := cap23) (e := 1) (T := 3) (f := eInt .i64) (l := (lentI l)) (by repeat (first | with_reducible exact Has.here | with_reducible refine Has.there ?_)) h) (fun hFFf => ?_)
  have hFF : Sv [arr a23 cap23 1 3 (eInt .i64) (lentI l)] (sl a23 (lentI l).length cap23) 1 (eInt .i64) (lentI l) (a23.map fun g => ⟨g, 0, none⟩) cap23 := Sv_own' encZ hFFf.1 hFFf.2
  have hcf : (lentI l).length ≤ cap23 := hFFf.2
  refine WL_rd (Rd_assign rfl) rfl rfl rfl ?_
  refine WL_end hK4 ?_
  refine WC_seq fun K5 hK5 => ?_
  refine WC_drawA mix (fun i => ([2, 2, 2, 2, 2, 1, 1, 2, 2, 2, 2, 2] : List Nat).getD i 0) ?_
  refine WJ_takeP 0 rfl (by kernel_rfl) (Rd_move rfl) rfl rfl rfl (hp _ _) ?_
  refine WJ_takeP 1 rfl (by kernel_rfl) (Rd_move rfl) rfl rfl rfl (hp _ _) ?_
  refine WJ_takeP 2 rfl (by kernel_rfl) (Rd_len_sv rfl rfl ud46) rfl rfl rfl (hp _ _) ?_
  refine WJ_takeP 3 rfl (by kernel_rfl) (Rd_slice_hi l.length rfl rfl ud46 sz3 (hi := by omega)) rfl rfl rfl (hp _ _) ?_
  refine WJ_takeP 4 rfl (by kernel_rfl) (Rd_move rfl) rfl rfl rfl (hp _ _) ?_
  refine WJ_all (rs := [5]) (by kernel_rfl) rfl ?_
  refine WI_one ?_
  refine WI_ac rfl (Ac_call cf19 rfl (hs := order_ct (by_ := by_))) rfl rfl rfl rfl ?_
  rintro _ _ ⟨c30, rfl, hA⟩
  simp only [List.cons_append, List.nil_append] at hA
  replace hA := hA.symm
  subst hA
  refine ⟨(fun _ => (by repeat (first | with_reducible exact Sub.refl | with_reducible exact Sub.nil | with_reducible refine Sub.cons (by repeat (first | with_reducible exact Ext.here | with_reducible apply Ext.there)) ?_ | with_reducible refine Sub.tail ?_))), ?_⟩
  refine WJ_all (rs := [6]) (by kernel_rfl) rfl ?_
  refine WI_one ?_
  refine WI_ac rfl (Ac_call cf18 rfl (hs := pSorted_ct (X := arr a23 cap23 1 3 (eInt .i64) (lentI l)) (l := l) (by_ := by_) (c := c30) (hS := hF1))) rfl rfl rfl rfl ?_
  rintro _ _ ⟨⟨a31, cap31⟩, rfl, hA⟩
  simp only [List.cons_append, List.nil_append] at hA
  replace hA := hA.symm
  subst hA
  refine ⟨(fun _ => (by repeat (first | with_reducible exact Sub.refl | with_reducible exact Sub.nil | with_reducible refine Sub.cons (by repeat (first | with_reducible exact Ext.here | with_reducible apply Ext.there)) ?_ | with_reducible refine Sub.tail ?_))), ?_⟩
  refine WJ_takeP 7 rfl (by kernel_rfl) (Rd_move rfl) rfl rfl rfl (hp _ _) ?_
  refine WJ_takeP 8 rfl (by kernel_rfl) (Rd_ext0 rfl) rfl rfl rfl (hp _ _) ?_
  refine WJ_takeP 9 rfl (by kernel_rfl) (Rd_ext1 rfl) rfl rfl rfl (hp _ _) ?_
  refine WJ_takeP 10 rfl (by kernel_rfl) (Rd_assign rfl) rfl rfl rfl (hp _ _) ?_
  refine WJ_takeP 11 rfl (by kernel_rfl) (Rd_assign rfl) rfl rfl rfl (hp _ _) ?_
  refine WJ_done (by kernel_rfl) ?_
  refine Ps_next hK5 ?_
  refine WC_seq fun K6 hK6 => ?_
  refine WC_drawA mix (fun i => ([2, 2, 2, 2, 2, 1, 1, 2, 2, 2, 2, 2] : List Nat).getD i 0) ?_
  refine WJ_takeP 0 rfl (by kernel_rfl) (Rd_move rfl) rfl rfl rfl (hp _ _) ?_
  refine WJ_takeP 1 rfl (by kernel_rfl) (Rd_move rfl) rfl rfl rfl (hp _ _) ?_
  refine WJ_takeP 2 rfl (by kernel_rfl) (Rd_len_sv rfl rfl ud46) rfl rfl rfl (hp _ _) ?_
  refine WJ_takeP 3 rfl (by kernel_rfl) (Rd_slice_hi l.length rfl rfl ud46 sz3 (hi := by omega)) rfl rfl rfl (hp _ _) ?_
  refine WJ_takeP 4 rfl (by kernel_rfl) (Rd_move rfl) rfl rfl rfl (hp _ _) ?_
  refine WJ_all (rs := [5]) (by kernel_rfl) rfl ?_
  refine WI_one ?_
  refine WI_ac rfl (Ac_call cf19 rfl (hs := order_ct (by_ := by_))) rfl rfl rfl rfl ?_
  rintro _ _ ⟨c40, rfl, hA⟩
  simp only [List.cons_append, List.nil_append] at hA
  replace hA := hA.symm
  subst hA
  refine ⟨(fun _ => (by repeat (first | with_reducible exact Sub.refl | with_reducible exact Sub.nil | with_reducible refine Sub.cons (by repeat (first | with_reducible exact Ext.here | with_reducible apply Ext.there)) ?_ | with_reducible refine Sub.tail ?_))), ?_⟩
  refine WJ_all (rs := [6]) (by kernel_rfl) rfl ?_
  refine WI_one ?_
  refine WI_ac rfl (Ac_call cf18 rfl (hs := pSorted_ct (X := arr a23 cap23 1 3 (eInt .i64) (lentI l)) (l := l) (by_ := by_) (c := c40) (hS := hF1))) rfl rfl rfl rfl ?_
  rintro _ _ ⟨⟨a41, cap41⟩, rfl, hA⟩
  simp only [List.cons_append, List.nil_append] at hA
  replace hA := hA.symm
  subst hA
  refine ⟨(fun _ => (by repeat (first | with_reducible exact Sub.refl | with_reducible exact Sub.nil | with_reducible refine Sub.cons (by repeat (first | with_reducible exact Ext.here | with_reducible apply Ext.there)) ?_ | with_reducible refine Sub.tail ?_))), ?_⟩
  refine WJ_takeP 7 rfl (by kernel_rfl) (Rd_move rfl) rfl rfl rfl (hp _ _) ?_
  refine WJ_takeP 8 rfl (by kernel_rfl) (Rd_ext0 rfl) rfl rfl rfl (hp _ _) ?_
  refine WJ_takeP 9 rfl (by kernel_rfl) (Rd_ext1 rfl) rfl rfl rfl (hp _ _) ?_
  refine WJ_takeP 10 rfl (by kernel_rfl) (Rd_assign rfl) rfl rfl rfl (hp _ _) ?_
  refine WJ_takeP 11 rfl (by kernel_rfl) (Rd_assign rfl) rfl rfl rfl (hp _ _) ?_
  refine WJ_done (by kernel_rfl) ?_
  refine Ps_next hK6 ?_
  refine WC_sr fun K7 hK7 => ?_
  refine WL_rd (Rd_move rfl) rfl rfl rfl ?_
  refine WL_rd (Rd_move rfl) rfl rfl rfl ?_
  refine WL_ac (Ac_call cf20 rfl (hs := rSorted_ct (X := X) (l := l) (by_ := by_) (hS := hS))) rfl rfl rfl ?_
  rintro _ _ ⟨⟨a46, cap46⟩, rfl, hA⟩
  simp only [List.cons_append, List.nil_append] at hA
  replace hA := hA.symm
  subst hA
  refine WL_rd (Rd_assign rfl) rfl rfl rfl ?_
  refine WL_end hK7 ?_
  refine WC_seq fun K8 hK8 => ?_
  refine WC_sr fun K9 hK9 => ?_
  refine WL_rd (Rd_move rfl) rfl rfl rfl ?_
  refine WL_rd (Rd_neqN (i := 0) (j := 0) rfl rfl) rfl rfl rfl ?_
  refine WL_rd (Rd_move rfl) rfl rfl rfl ?_
  refine WL_rd (Rd_move rfl) rfl rfl rfl ?_
  refine WL_rd (Rd_neqN (i := 0) (j := 0) rfl rfl) rfl rfl rfl ?_
  refine WL_rd (Rd_pickF rfl rfl) rfl rfl rfl ?_
  refine WL_rd (Rd_move rfl) rfl rfl rfl ?_
  refine WL_rd (Rd_move rfl) rfl rfl rfl ?_
  refine WL_rd (Rd_move rfl) rfl rfl rfl ?_
  refine WL_ac (Ac_call cf21 rfl (hs := Ct.un0 (Xs := [arr a23 cap23 1 3 (eInt .i64) (lentI l), X]) (keptI_ct (X := sep [arr a23 cap23 1 3 (eInt .i64) (lentI l), X]) (l := lentI l) (l' := l) (hS := hFF.pk (by repeat (first | with_reducible exact Has.here | with_reducible refine Has.there ?_))) (hS' := hS.pk (by repeat (first | with_reducible exact Has.here | with_reducible refine Has.there ?_)))))) rfl rfl rfl ?_
  rintro _ _ ⟨⟨⟩, rfl, hA⟩
  simp only [List.cons_append, List.nil_append] at hA
  replace hA := hA.symm
  subst hA
  rw [decide_eq_true (rfl : lentI l = lentI l)]
  refine WL_rd (Rd_not rfl) rfl rfl rfl ?_
  refine WL_rd (Rd_pickF rfl rfl) rfl rfl rfl ?_
  refine WL_rd (Rd_move rfl) rfl rfl rfl ?_
  refine WL_rd (Rd_move rfl) rfl rfl rfl ?_
  refine WL_rd (Rd_move rfl) rfl rfl rfl ?_
  refine WL_fact (fun w h => arr_facts (a := a31) (cap := cap31) (e := 1) (T := 3) (f := eInt .i64) (l := (sortZ (ltz by_) l)) (by repeat (first | with_reducible exact Has.here | with_reducible refine Has.there ?_)) h) (fun h31f => ?_)
  have h31 : Sv [arr a31 cap31 1 3 (eInt .i64) (sortZ (ltz by_) l)] (sl a31 (sortZ (ltz by_) l).length cap31) 1 (eInt .i64) (sortZ (ltz by_) l) (a31.map fun g => ⟨g, 0, none⟩) cap31 := Sv_own' encZ h31f.1 h31f.2
  refine WL_fact (fun w h => arr_facts (a := a46) (cap := cap46) (e := 1) (T := 3) (f := eInt .i64) (l := (sortZ (ltz by_) l)) (by repeat (first | with_reducible exact Has.here | with_reducible refine Has.there ?_)) h) (fun h46f => ?_)
  have h46 : Sv [arr a46 cap46 1 3 (eInt .i64) (sortZ (ltz by_) l)] (sl a46 (sortZ (ltz by_) l).length cap46) 1 (eInt .i64) (sortZ (ltz by_) l) (a46.map fun g => ⟨g, 0, none⟩) cap46 := Sv_own' encZ h46f.1 h46f.2
  refine WL_fact (fun w h => arr_facts (a := a41) (cap := cap41) (e := 1) (T := 3) (f := eInt .i64) (l := (sortZ (ltz by_) l)) (by repeat (first | with_reducible exact Has.here | with_reducible refine Has.there ?_)) h) (fun h41f => ?_)
  have h41 : Sv [arr a41 cap41 1 3 (eInt .i64) (sortZ (ltz by_) l)] (sl a41 (sortZ (ltz by_) l).length cap41) 1 (eInt .i64) (sortZ (ltz by_) l) (a41.map fun g => ⟨g, 0, none⟩) cap41 := Sv_own' encZ h41f.1 h41f.2
  refine WL_ac (Ac_call cf22 rfl (hs := Ct.un0 (Xs := [arr a31 cap31 1 3 (eInt .i64) (sortZ (ltz by_) l), arr a46 cap46 1 3 (eInt .i64) (sortZ (ltz by_) l)]) (sameI_ct (X := sep [arr a31 cap31 1 3 (eInt .i64) (sortZ (ltz by_) l), arr a46 cap46 1 3 (eInt .i64) (sortZ (ltz by_) l)]) (l := (sortZ (ltz by_) l)) (l' := (sortZ (ltz by_) l)) (hS := h31.pk (by repeat (first | with_reducible exact Has.here | with_reducible refine Has.there ?_))) (hS' := h46.pk (by repeat (first | with_reducible exact Has.here | with_reducible refine Has.there ?_)))))) rfl rfl rfl ?_
  rintro _ _ ⟨⟨⟩, rfl, hA⟩
  simp only [List.cons_append, List.nil_append] at hA
  replace hA := hA.symm
  subst hA
  rw [decide_eq_true (rfl : (sortZ (ltz by_) l) = (sortZ (ltz by_) l))]
  refine WL_rd (Rd_not rfl) rfl rfl rfl ?_
  refine WL_rd (Rd_pickF rfl rfl) rfl rfl rfl ?_
  refine WL_rd (Rd_move rfl) rfl rfl rfl ?_
  refine WL_rd (Rd_move rfl) rfl rfl rfl ?_
  refine WL_rd (Rd_move rfl) rfl rfl rfl ?_
  refine WL_ac (Ac_call cf22 rfl (hs := Ct.un0 (Xs := [arr a41 cap41 1 3 (eInt .i64) (sortZ (ltz by_) l), arr a46 cap46 1 3 (eInt .i64) (sortZ (ltz by_) l)]) (sameI_ct (X := sep [arr a41 cap41 1 3 (eInt .i64) (sortZ (ltz by_) l), arr a46 cap46 1 3 (eInt .i64) (sortZ (ltz by_) l)]) (l := (sortZ (ltz by_) l)) (l' := (sortZ (ltz by_) l)) (hS := h41.pk (by repeat (first | with_reducible exact Has.here | with_reducible refine Has.there ?_))) (hS' := h46.pk (by repeat (first | with_reducible exact Has.here | with_reducible refine Has.there ?_)))))) rfl rfl rfl ?_
  rintro _ _ ⟨⟨⟩, rfl, hA⟩
  simp only [List.cons_append, List.nil_append] at hA
  replace hA := hA.symm
  subst hA
  rw [decide_eq_true (rfl : (sortZ (ltz by_) l) = (sortZ (ltz by_) l))]
  refine WL_rd (Rd_not rfl) rfl rfl rfl ?_
  refine WL_rd (Rd_pickF rfl rfl) rfl rfl rfl ?_
  refine WL_end hK9 ?_
  refine WC_condF rfl ?_
  refine WC_skip ?_
  refine Ps_next hK8 ?_
  refine WC_sr fun K10 hK10 => ?_
  refine WL_rd (Rd_move rfl) rfl rfl rfl ?_
  refine WL_ac (Ac_call cf23 rfl (hs := overI_ct (l := lentI l) (a := a23) (cap := cap23))) rfl rfl rfl ?_
  rintro _ _ ⟨⟨⟩, rfl, hA⟩
  simp only [List.cons_append, List.nil_append] at hA
  replace hA := hA.symm
  subst hA
  refine WL_fact (fun w h => arr_facts (a := a23) (cap := cap23) (e := 1) (T := 3) (f := eInt .i64) (l := (overI (lentI l).length)) (by repeat (first | with_reducible exact Has.here | with_reducible refine Has.there ?_)) h) (fun hF3f => ?_)
  have hF3 : Sv [arr a23 cap23 1 3 (eInt .i64) (overI (lentI l).length)] (sl a23 ((overI (lentI l).length).take l.length).length cap23) 1 (eInt .i64) ((overI (lentI l).length).take l.length) (a23.map fun g => ⟨g, 0, none⟩) cap23 := Sv_pre encZ (List.take_prefix _ _) hF3f.1 hF3f.2
  rw [hl2] at hF3
  refine WL_end hK10 ?_
  refine WC_seq fun K11 hK11 => ?_
  refine WC_drawA mix (fun i => ([2, 2, 2, 2, 2, 1, 1, 2, 2, 2, 2, 2] : List Nat).getD i 0) ?_
  refine WJ_takeP 0 rfl (by kernel_rfl) (Rd_move rfl) rfl rfl rfl (hp _ _) ?_
  refine WJ_takeP 1 rfl (by kernel_rfl) (Rd_move rfl) rfl rfl rfl (hp _ _) ?_
  refine WJ_takeP 2 rfl (by kernel_rfl) (Rd_len_sv rfl rfl ud46) rfl rfl rfl (hp _ _) ?_
  refine WJ_takeP 3 rfl (by kernel_rfl) (Rd_slice_hi l.length rfl rfl ud46 sz3 (hi := by omega)) rfl rfl rfl (hp _ _) ?_
  refine WJ_takeP 4 rfl (by kernel_rfl) (Rd_move rfl) rfl rfl rfl (hp _ _) ?_
  refine WJ_all (rs := [5]) (by kernel_rfl) rfl ?_
  refine WI_one ?_
  refine WI_ac rfl (Ac_call cf19 rfl (hs := order_ct (by_ := by_))) rfl rfl rfl rfl ?_
  rintro _ _ ⟨c79, rfl, hA⟩
  simp only [List.cons_append, List.nil_append] at hA
  replace hA := hA.symm
  subst hA
  refine ⟨(fun _ => (by repeat (first | with_reducible exact Sub.refl | with_reducible exact Sub.nil | with_reducible refine Sub.cons (by repeat (first | with_reducible exact Ext.here | with_reducible apply Ext.there)) ?_ | with_reducible refine Sub.tail ?_))), ?_⟩
  refine WJ_all (rs := [6]) (by kernel_rfl) rfl ?_
  refine WI_one ?_
  refine WI_ac rfl (Ac_call cf18 rfl (hs := pSorted_ct (X := arr a23 cap23 1 3 (eInt .i64) (overI (lentI l).length)) (l := ((overI (lentI l).length).take l.length)) (by_ := by_) (c := c79) (hS := hF3))) rfl rfl rfl rfl ?_
  rintro _ _ ⟨⟨a80, cap80⟩, rfl, hA⟩
  simp only [List.cons_append, List.nil_append] at hA
  replace hA := hA.symm
  subst hA
  refine ⟨(fun _ => (by repeat (first | with_reducible exact Sub.refl | with_reducible exact Sub.nil | with_reducible refine Sub.cons (by repeat (first | with_reducible exact Ext.here | with_reducible apply Ext.there)) ?_ | with_reducible refine Sub.tail ?_))), ?_⟩
  refine WJ_takeP 7 rfl (by kernel_rfl) (Rd_move rfl) rfl rfl rfl (hp _ _) ?_
  refine WJ_takeP 8 rfl (by kernel_rfl) (Rd_ext0 rfl) rfl rfl rfl (hp _ _) ?_
  refine WJ_takeP 9 rfl (by kernel_rfl) (Rd_ext1 rfl) rfl rfl rfl (hp _ _) ?_
  refine WJ_takeP 10 rfl (by kernel_rfl) (Rd_assign rfl) rfl rfl rfl (hp _ _) ?_
  refine WJ_takeP 11 rfl (by kernel_rfl) (Rd_assign rfl) rfl rfl rfl (hp _ _) ?_
  refine WJ_done (by kernel_rfl) ?_
  refine Ps_next hK11 ?_
  refine WC_sr fun K12 hK12 => ?_
  refine WL_rd (Rd_move rfl) rfl rfl rfl ?_
  refine WL_ac (Ac_call cf19 rfl (hs := order_ct (by_ := by_))) rfl rfl rfl ?_
  rintro _ _ ⟨c85, rfl, hA⟩
  simp only [List.cons_append, List.nil_append] at hA
  replace hA := hA.symm
  subst hA
  refine WL_ac (Ac_call cf24 rfl (hs := hI_new_hp (lf := 45) (caps := caO c85))) rfl rfl rfl ?_
  rintro _ _ ⟨hb, rfl, hA⟩
  simp only [List.cons_append, List.nil_append] at hA
  replace hA := hA.symm
  subst hA
  refine WL_rd (Rd_move rfl) rfl rfl rfl ?_
  refine WL_rd (Rd_ext0 rfl) rfl rfl rfl ?_
  refine WL_rd (Rd_ext1 rfl) rfl rfl rfl ?_
  refine WL_rd (Rd_assign rfl) rfl rfl rfl ?_
  refine WL_rd (Rd_assign rfl) rfl rfl rfl ?_
  refine WL_end hK12 ?_
  refine WC_seq fun K13 hK13 => ?_
  refine WC_sr fun K14 hK14 => ?_
  refine WL_rd (Rd_move rfl) rfl rfl rfl ?_
  refine WL_rd (Rd_neqN (i := 0) (j := 0) rfl rfl) rfl rfl rfl ?_
  refine WL_rd (Rd_move rfl) rfl rfl rfl ?_
  refine WL_rd (Rd_move rfl) rfl rfl rfl ?_
  refine WL_rd (Rd_neqN (i := 0) (j := 0) rfl rfl) rfl rfl rfl ?_
  refine WL_rd (Rd_pickF rfl rfl) rfl rfl rfl ?_
  refine WL_rd (Rd_move rfl) rfl rfl rfl ?_
  refine WL_rd (Rd_move rfl) rfl rfl rfl ?_
  refine WL_rd (Rd_peq rfl rfl ud55) rfl rfl rfl ?_
  refine WL_rd (Rd_pickF rfl rfl) rfl rfl rfl ?_
  refine WL_rd (Rd_move rfl) rfl rfl rfl ?_
  refine WL_rd (Rd_move rfl) rfl rfl rfl ?_
  refine WL_rd (Rd_move rfl) rfl rfl rfl ?_
  refine WL_rd (Rd_move rfl) rfl rfl rfl ?_
  refine WL_rd (Rd_move rfl) rfl rfl rfl ?_
  refine WL_rd (Rd_len_sv rfl rfl ud46) rfl rfl rfl ?_
  refine WL_rd (Rd_slice_hi l.length rfl rfl ud46 sz3 (hi := by omega)) rfl rfl rfl ?_
  refine WL_ac (Ac_call cf20 rfl (hs := rSorted_ct (X := arr a23 cap23 1 3 (eInt .i64) (overI (lentI l).length)) (l := ((overI (lentI l).length).take l.length)) (by_ := by_) (hS := hF3))) rfl rfl rfl ?_
  rintro _ _ ⟨⟨a106, cap106⟩, rfl, hA⟩
  simp only [List.cons_append, List.nil_append] at hA
  replace hA := hA.symm
  subst hA
  refine WL_fact (fun w h => arr_facts (a := a80) (cap := cap80) (e := 1) (T := 3) (f := eInt .i64) (l := (sortZ (ltz by_) ((overI (lentI l).length).take l.length))) (by repeat (first | with_reducible exact Has.here | with_reducible refine Has.there ?_)) h) (fun h80f => ?_)
  have h80 : Sv [arr a80 cap80 1 3 (eInt .i64) (sortZ (ltz by_) ((overI (lentI l).length).take l.length))] (sl a80 (sortZ (ltz by_) ((overI (lentI l).length).take l.length)).length cap80) 1 (eInt .i64) (sortZ (ltz by_) ((overI (lentI l).length).take l.length)) (a80.map fun g => ⟨g, 0, none⟩) cap80 := Sv_own' encZ h80f.1 h80f.2
  refine WL_fact (fun w h => arr_facts (a := a106) (cap := cap106) (e := 1) (T := 3) (f := eInt .i64) (l := (sortZ (ltz by_) ((overI (lentI l).length).take l.length))) (by repeat (first | with_reducible exact Has.here | with_reducible refine Has.there ?_)) h) (fun h106f => ?_)
  have h106 : Sv [arr a106 cap106 1 3 (eInt .i64) (sortZ (ltz by_) ((overI (lentI l).length).take l.length))] (sl a106 (sortZ (ltz by_) ((overI (lentI l).length).take l.length)).length cap106) 1 (eInt .i64) (sortZ (ltz by_) ((overI (lentI l).length).take l.length)) (a106.map fun g => ⟨g, 0, none⟩) cap106 := Sv_own' encZ h106f.1 h106f.2
  refine WL_ac (Ac_call cf22 rfl (hs := Ct.un0 (Xs := [arr a80 cap80 1 3 (eInt .i64) (sortZ (ltz by_) ((overI (lentI l).length).take l.length)), arr a106 cap106 1 3 (eInt .i64) (sortZ (ltz by_) ((overI (lentI l).length).take l.length))]) (sameI_ct (X := sep [arr a80 cap80 1 3 (eInt .i64) (sortZ (ltz by_) ((overI (lentI l).length).take l.length)), arr a106 cap106 1 3 (eInt .i64) (sortZ (ltz by_) ((overI (lentI l).length).take l.length))]) (l := (sortZ (ltz by_) ((overI (lentI l).length).take l.length))) (l' := (sortZ (ltz by_) ((overI (lentI l).length).take l.length))) (hS := h80.pk (by repeat (first | with_reducible exact Has.here | with_reducible refine Has.there ?_))) (hS' := h106.pk (by repeat (first | with_reducible exact Has.here | with_reducible refine Has.there ?_)))))) rfl rfl rfl ?_
  rintro _ _ ⟨⟨⟩, rfl, hA⟩
  simp only [List.cons_append, List.nil_append] at hA
  replace hA := hA.symm
  subst hA
  rw [decide_eq_true (rfl : (sortZ (ltz by_) ((overI (lentI l).length).take l.length)) = (sortZ (ltz by_) ((overI (lentI l).length).take l.length)))]
  refine WL_rd (Rd_not rfl) rfl rfl rfl ?_
  refine WL_rd (Rd_pickF rfl rfl) rfl rfl rfl ?_
  refine WL_end hK14 ?_
  refine WC_condF rfl ?_
  refine WC_skip ?_
  refine Ps_next hK13 ?_
  refine WC_seq fun K15 hK15 => ?_
  refine WC_sr fun K16 hK16 => ?_
  refine WL_rd (Rd_assign rfl) rfl rfl rfl ?_
  refine WL_end hK16 ?_
  refine WC_block ?_
  refine WC_loopK (σ := Nat × (List (Nat × Int))) (fun ⟨i', rows⟩ => [(15, .int .i64 ((i' : Nat) : Int))]) (fun ⟨i', rows⟩ => [hI_hpA (.func (.func 45) #[] (caO c85).toArray) hb rows i', JO c85 by_]) (fun ⟨i', rows⟩ => i' ≤ l.length ∧ rows.Perm (rowsI (l.take i')) ∧ Hp (ltz by_) rows) (fun ⟨i', rows⟩ => l.length - i') ⟨0, []⟩ [1, 4, 6, 8, 10, 11, 13, 16, 17, 18, 19, 122, 123, 124, 125, 126, 127, 128, 129, 130, 131, 132, 133, 134, 135, 136, 137, 138, 139, 140, 141, 142, 143, 144, 145, 146, 147, 148, 149, 150, 151, 152, 153, 154, 155, 156, 157, 158] (by repeat (first | exact Kep.nil | apply Kep.drop rfl | apply Kep.keep rfl)) (by (try dsimp only); repeat (first | with_reducible exact Gv.nil | (with_reducible apply Gv.cons; · (repeat (first | with_reducible exact Ext.here | with_reducible apply Ext.there))))) ?_ ?_ Sub.refl ?_
  · exact ⟨Nat.zero_le _, List.Perm.refl _, Hp_nil⟩
  · (try dsimp only); exact (Wk.cons (by first | rfl | (simp only [List.length_append, List.length_cons, List.length_nil, List.length_replicate, Nat.zero_add]; rfl) | (simp; done)) Wk.nil)
  · rintro ⟨i', rows⟩ ⟨hi, hpm, hH⟩ K17 hK17
    simp only [List.cons_append, List.nil_append]
    refine WC_seq fun K18 hK18 => ?_
    refine WC_sr fun K19 hK19 => ?_
    refine WL_rd (Rd_move rfl) rfl rfl rfl ?_
    refine WL_rd (Rd_move rfl) rfl rfl rfl ?_
    refine WL_rd (Rd_len_sv rfl rfl ud46) rfl rfl rfl ?_
    refine WL_rd (Rd_lssN rfl rfl) rfl rfl rfl ?_
    refine WL_end hK19 ?_
    refine WC_cond rfl (fun hc3 => ?_) (fun hc3 => ?_)
    · try simp only [decide_eq_true_eq, decide_eq_false_iff_not, Bool.not_eq_true', Bool.not_eq_false', Bool.not_eq_true, Bool.not_eq_false, Int.not_lt, Int.not_le, Nat.not_lt, Nat.not_le, Decidable.not_not, ne_eq] at hc3
      obtain ⟨x, hx⟩ := at_r (l := l) (i := i') (by omega)
      refine WC_skip ?_
      refine Ps_next hK18 ?_
      refine WC_seq fun K20 hK20 => ?_
      refine WC_block ?_
      refine WC_region ?_
      refine WL_rd (Rd_move rfl) rfl rfl rfl ?_
      refine WL_rd (Rd_move rfl) rfl rfl rfl ?_
      refine WL_rd (Rd_move rfl) rfl rfl rfl ?_
      refine WL_rd (Rd_index_sv i' rfl rfl ud46 sz3 (hi := by omega)) rfl rfl rfl ?_
      refine WL_rd (Rd_load_sv (i := i') (j := 0) rfl tk3 (hl := hx)) rfl rfl rfl ?_
      refine WL_ac (Ac_call cf25 rfl (hs := hI_push_hp hcfO (hlessO _ by_) (s := ()) (x := x))) rfl rfl rfl ?_
      rintro _ _ ⟨⟨⟩, rfl, hA⟩
      simp only [List.cons_append, List.nil_append] at hA
      replace hA := hA.symm
      subst hA
      refine WL_nil ?_
      refine Ps_next hK20 ?_
      refine WC_region ?_
      refine WL_rd (Rd_move rfl) rfl rfl rfl ?_
      refine WL_rd (Rd_addN (j := 1) rfl rfl) rfl rfl rfl ?_
      refine WL_rd (Rd_assign rfl) rfl rfl rfl ?_
      refine WL_nil ?_
      refine Ps_wk (by (try simp only [List.cons_append, List.nil_append]); repeat (first | with_reducible exact Wk.nil | refine Wk.cons (by first | rfl | (simp only [List.length_append, List.length_cons, List.length_nil, List.length_replicate, Nat.zero_add]; rfl) | (simp; done)) ?_)) (by (try simp only [List.cons_append, List.nil_append]); repeat (first | with_reducible exact Sub.refl | with_reducible exact Sub.nil | with_reducible refine Sub.cons (by repeat (first | with_reducible exact Ext.here | with_reducible apply Ext.there)) ?_ | with_reducible refine Sub.tail ?_)) (hK17 ⟨i' + 1, (pushM (pl (ltz by_)) () rows i' x).1⟩ (⟨by (try dsimp only); omega, by (try dsimp only); rw [← rowsI_snoc hx]; exact (pushM_perm _ _ _ _ _).trans (List.Perm.append_right _ hpm), pushM_Hp (ltz_od by_) () hH⟩) (by (try dsimp only); omega))
    · try simp only [decide_eq_true_eq, decide_eq_false_iff_not, Bool.not_eq_true', Bool.not_eq_false', Bool.not_eq_true, Bool.not_eq_false, Int.not_lt, Int.not_le, Nat.not_lt, Nat.not_le, Decidable.not_not, ne_eq] at hc3
      obtain rfl : i' = l.length := by omega
      rw [List.take_length] at hpm
      refine WC_exit ?_
      refine Ps_next hK15 ?_
      refine WC_sr fun K21 hK21 => ?_
      refine WL_rd (Rd_assign (v := sl none 0 0) rfl) rfl rfl rfl ?_
      refine WL_nilarr (eInt .i64) 1 3 ?_
      refine WL_end hK21 ?_
      refine WC_seq fun K22 hK22 => ?_
      refine WC_sr fun K23 hK23 => ?_
      refine WL_rd (Rd_assign rfl) rfl rfl rfl ?_
      refine WL_end hK23 ?_
      refine WC_block ?_
      rw [show arr none 0 1 3 (eInt .i64) ([] : List Int) = arr none 0 1 3 (eInt .i64) (([] : List (Nat × Int)).map (·.2)) from rfl]
      refine WC_loopK (σ := Nat × (List (Nat × Int)) × (List (Nat × Int)) × (Option Nat) × Nat) (fun ⟨i2, rows2, out, a2, c2⟩ => [(16, sl a2 (out.map (·.2)).length c2), (17, .int .i64 ((i2 : Nat) : Int))]) (fun ⟨i2, rows2, out, a2, c2⟩ => [hI_hpA (.func (.func 45) #[] (caO c85).toArray) hb rows2 l.length, JO c85 by_, arr a2 c2 1 3 (eInt .i64) (out.map (·.2))]) (fun ⟨i2, rows2, out, a2, c2⟩ => Outs (ltz by_) l out rows2 ∧ Hp (ltz by_) rows2 ∧ out.length = i2) (fun ⟨i2, rows2, out, a2, c2⟩ => l.length - i2) ⟨0, rows, [], none, 0⟩ [1, 6, 8, 10, 11, 13, 139, 140, 141, 142, 143, 144, 145, 146, 147, 148, 149, 150, 151, 152, 153, 154, 155, 156, 157, 158] (by repeat (first | exact Kep.nil | apply Kep.drop rfl | apply Kep.keep rfl)) (by (try dsimp only); repeat (first | with_reducible exact Gv.nil | (with_reducible apply Gv.cons; · (repeat (first | with_reducible exact Ext.here | with_reducible apply Ext.there))))) ?_ ?_ Sub.refl ?_
      · exact ⟨Outs_0 hpm, hH, rfl⟩
      · (try dsimp only); exact (Wk.cons (by first | rfl | (simp only [List.length_append, List.length_cons, List.length_nil, List.length_replicate, Nat.zero_add]; rfl) | (simp; done)) (Wk.cons (by first | rfl | (simp only [List.length_append, List.length_cons, List.length_nil, List.length_replicate, Nat.zero_add]; rfl) | (simp; done)) Wk.nil))
      · rintro ⟨i2, rows2, out, a2, c2⟩ ⟨hO, hH2, hoi⟩ K24 hK24
        simp only [List.cons_append, List.nil_append]
        have hou := Outs_len hO
        have hml : (out.map (·.2)).length = out.length := List.length_map _
        refine WC_seq fun K25 hK25 => ?_
        refine WC_sr fun K26 hK26 => ?_
        refine WL_rd (Rd_move rfl) rfl rfl rfl ?_
        refine WL_rd (Rd_move rfl) rfl rfl rfl ?_
        refine WL_rd (Rd_len_sv rfl rfl ud46) rfl rfl rfl ?_
        refine WL_rd (Rd_lssN rfl rfl) rfl rfl rfl ?_
        refine WL_end hK26 ?_
        refine WC_cond rfl (fun hc4 => ?_) (fun hc4 => ?_)
        · try simp only [decide_eq_true_eq, decide_eq_false_iff_not, Bool.not_eq_true', Bool.not_eq_false', Bool.not_eq_true, Bool.not_eq_false, Int.not_lt, Int.not_le, Nat.not_lt, Nat.not_le, Decidable.not_not, ne_eq] at hc4
          obtain ⟨x, hx⟩ := at_r (l := rows2) (i := 0) (by omega)
          refine WC_skip ?_
          refine Ps_next hK25 ?_
          refine WC_seq fun K27 hK27 => ?_
          refine WC_block ?_
          refine WC_sr fun K28 hK28 => ?_
          refine WL_rd (Rd_move rfl) rfl rfl rfl ?_
          refine WL_ac (Ac_call cf26 rfl (hs := hI_pop_hp hcfO (hlessO _ by_) (s := ()) (x := x))) rfl rfl rfl ?_
          rintro _ _ ⟨⟨⟩, rfl, hA⟩
          simp only [List.cons_append, List.nil_append] at hA
          replace hA := hA.symm
          subst hA
          refine WL_rd (Rd_move rfl) rfl rfl rfl ?_
          refine WL_rd (Rd_ext0 rfl) rfl rfl rfl ?_
          refine WL_rd (Rd_ext1 rfl) rfl rfl rfl ?_
          refine WL_rd (Rd_assign rfl) rfl rfl rfl ?_
          refine WL_rd (Rd_assign rfl) rfl rfl rfl ?_
          refine WL_end hK28 ?_
          refine WC_seq fun K29 hK29 => ?_
          refine WC_sr fun K30 hK30 => ?_
          refine WL_rd (Rd_move rfl) rfl rfl rfl ?_
          refine WL_rd (Rd_not rfl) rfl rfl rfl ?_
          refine WL_end hK30 ?_
          refine WC_condF rfl ?_
          refine WC_skip ?_
          refine Ps_next hK29 ?_
          refine WC_region ?_
          refine WL_rd (Rd_move rfl) rfl rfl rfl ?_
          refine WL_rd (Rd_move rfl) rfl rfl rfl ?_
          refine WL_ac (Ac_bs1 rfl ud46 zr3 sz3) rfl rfl rfl ?_
          rintro _ _ ⟨b137, rfl, rfl⟩
          refine WL_ac (Ac_append1 (f := (eInt .i64)) encZ x.2 rfl rfl ud46 ud46 el3) rfl rfl rfl ?_
          rintro _ _ ⟨a138, cap138, rfl, rfl⟩
          rw [show out.map (·.2) ++ [x.2] = (out ++ [x]).map (·.2) from by rw [List.map_append]; rfl, show (out.map (·.2)).length + 1 = ((out ++ [x]).map (·.2)).length from by simp]
          refine WL_rd (Rd_assign rfl) rfl rfl rfl ?_
          refine WL_nil ?_
          refine Ps_next hK27 ?_
          refine WC_region ?_
          refine WL_rd (Rd_move rfl) rfl rfl rfl ?_
          refine WL_rd (Rd_addN (j := 1) rfl rfl) rfl rfl rfl ?_
          refine WL_rd (Rd_assign rfl) rfl rfl rfl ?_
          refine WL_nil ?_
          refine Ps_wk (by (try simp only [List.cons_append, List.nil_append]); repeat (first | with_reducible exact Wk.nil | refine Wk.cons (by first | rfl | (simp only [List.length_append, List.length_cons, List.length_nil, List.length_replicate, Nat.zero_add]; rfl) | (simp; done)) ?_)) (by (try simp only [List.cons_append, List.nil_append]); repeat (first | with_reducible exact Sub.refl | with_reducible exact Sub.nil | with_reducible refine Sub.cons (by repeat (first | with_reducible exact Ext.here | with_reducible apply Ext.there)) ?_ | with_reducible refine Sub.tail ?_)) (hK24 ⟨i2 + 1, (takeM (pl (ltz by_)) () rows2 0).1, out ++ [x], a138, cap138⟩ (⟨Outs_heap (ltz_od by_) hO hH2 hx, takeM_Hp (ltz_od by_) () (by omega) hH2, by simp; omega⟩) (by (try dsimp only); omega))
        · try simp only [decide_eq_true_eq, decide_eq_false_iff_not, Bool.not_eq_true', Bool.not_eq_false', Bool.not_eq_true, Bool.not_eq_false, Int.not_lt, Int.not_le, Nat.not_lt, Nat.not_le, Decidable.not_not, ne_eq] at hc4
          obtain rfl : rows2 = [] := List.eq_nil_of_length_eq_zero (by omega)
          rw [Outs_end (ltz_od by_) hO]
          refine WC_exit ?_
          refine Ps_next hK22 ?_
          refine WC_sr fun K31 hK31 => ?_
          refine WL_rd (Rd_move rfl) rfl rfl rfl ?_
          refine WL_rd (Rd_move rfl) rfl rfl rfl ?_
          refine WL_fact (fun w h => arr_facts (a := a2) (cap := c2) (e := 1) (T := 3) (f := eInt .i64) (l := (sortZ (ltz by_) l)) (by repeat (first | with_reducible exact Has.here | with_reducible refine Has.there ?_)) h) (fun h2f => ?_)
          have h2 : Sv [arr a2 c2 1 3 (eInt .i64) (sortZ (ltz by_) l)] (sl a2 (sortZ (ltz by_) l).length c2) 1 (eInt .i64) (sortZ (ltz by_) l) (a2.map fun g => ⟨g, 0, none⟩) c2 := Sv_own' encZ h2f.1 h2f.2
          refine WL_ac (Ac_call cf22 rfl (hs := Ct.un0 (Xs := [arr a2 c2 1 3 (eInt .i64) (sortZ (ltz by_) l), arr a46 cap46 1 3 (eInt .i64) (sortZ (ltz by_) l)]) (sameI_ct (X := sep [arr a2 c2 1 3 (eInt .i64) (sortZ (ltz by_) l), arr a46 cap46 1 3 (eInt .i64) (sortZ (ltz by_) l)]) (l := (sortZ (ltz by_) l)) (l' := (sortZ (ltz by_) l)) (hS := h2.pk (by repeat (first | with_reducible exact Has.here | with_reducible refine Has.there ?_))) (hS' := h46.pk (by repeat (first | with_reducible exact Has.here | with_reducible refine Has.there ?_)))))) rfl rfl rfl ?_
          rintro _ _ ⟨⟨⟩, rfl, hA⟩
          simp only [List.cons_append, List.nil_append] at hA
          replace hA := hA.symm
          subst hA
          rw [decide_eq_true (rfl : (sortZ (ltz by_) l) = (sortZ (ltz by_) l))]
          refine WL_rd (Rd_move rfl) rfl rfl rfl ?_
          refine WL_rd (Rd_move rfl) rfl rfl rfl ?_
          refine WL_ac (Ac_call cf27 rfl (hs := hI_len_hp (lf := 45) (caps := caO c85))) rfl rfl rfl ?_
          rintro _ _ ⟨⟨⟩, rfl, hA⟩
          simp only [List.cons_append, List.nil_append] at hA
          replace hA := hA.symm
          subst hA
          refine WL_rd (Rd_isT (Rd_eqlN (j := 0) rfl rfl)) rfl rfl rfl ?_
          refine WL_rd (Rd_pickT rfl rfl) rfl rfl rfl ?_
          refine WL_rd (Rd_move rfl) rfl rfl rfl ?_
          refine WL_rd (Rd_move rfl) rfl rfl rfl ?_
          refine WL_rd (Rd_move rfl) rfl rfl rfl ?_
          refine WL_ac (Ac_call cf22 rfl (hs := Ct.un0 (Xs := [arr a31 cap31 1 3 (eInt .i64) (sortZ (ltz by_) l), arr a46 cap46 1 3 (eInt .i64) (sortZ (ltz by_) l)]) (sameI_ct (X := sep [arr a31 cap31 1 3 (eInt .i64) (sortZ (ltz by_) l), arr a46 cap46 1 3 (eInt .i64) (sortZ (ltz by_) l)]) (l := (sortZ (ltz by_) l)) (l' := (sortZ (ltz by_) l)) (hS := h31.pk (by repeat (first | with_reducible exact Has.here | with_reducible refine Has.there ?_))) (hS' := h46.pk (by repeat (first | with_reducible exact Has.here | with_reducible refine Has.there ?_)))))) rfl rfl rfl ?_
          rintro _ _ ⟨⟨⟩, rfl, hA⟩
          simp only [List.cons_append, List.nil_append] at hA
          replace hA := hA.symm
          subst hA
          rw [decide_eq_true (rfl : (sortZ (ltz by_) l) = (sortZ (ltz by_) l))]
          refine WL_rd (Rd_pickT rfl rfl) rfl rfl rfl ?_
          refine WL_rd (Rd_move rfl) rfl rfl rfl ?_
          refine WL_rd (Rd_move rfl) rfl rfl rfl ?_
          refine WL_rd (Rd_move rfl) rfl rfl rfl ?_
          refine WL_rd (Rd_move rfl) rfl rfl rfl ?_
          refine WL_ac (Ac_bsL (f := ePI) (zs := [.slice none 0 0]) (bs := [.slice none 0 0, .slice none 0 0, .slice none 0 0]) [(⟨a31, cap31, (sortZ (ltz by_) l)⟩ : PI), ⟨a41, cap41, (sortZ (ltz by_) l)⟩, ⟨a80, cap80, (sortZ (ltz by_) ((overI (lentI l).length).take l.length))⟩] encPI ud63 zr46 sz46 rfl (by rw [Array.toList_map, Array.toList_range]; rfl) (by rfl) (by rfl) (by rfl) (by rfl)) rfl rfl rfl ?_
          rintro _ _ ⟨b156, rfl, rfl⟩
          rw [show arr a31 cap31 1 3 (eInt .i64) (sortZ (ltz by_) l) = FP 3 ⟨a31, cap31, (sortZ (ltz by_) l)⟩ from rfl]
          rw [show arr a41 cap41 1 3 (eInt .i64) (sortZ (ltz by_) l) = FP 3 ⟨a41, cap41, (sortZ (ltz by_) l)⟩ from rfl]
          rw [show arr a80 cap80 1 3 (eInt .i64) (sortZ (ltz by_) ((overI (lentI l).length).take l.length)) = FP 3 ⟨a80, cap80, (sortZ (ltz by_) ((overI (lentI l).length).take l.length))⟩ from rfl]
          refine WL_imp (fun w h => sat_star3 (F := FP 3) (x := ⟨a31, cap31, (sortZ (ltz by_) l)⟩) (y := ⟨a41, cap41, (sortZ (ltz by_) l)⟩) (z := ⟨a80, cap80, (sortZ (ltz by_) ((overI (lentI l).length).take l.length))⟩) (by repeat (first | with_reducible exact Ext.here | with_reducible apply Ext.there)) (by repeat (first | with_reducible exact Ext.here | with_reducible apply Ext.there)) (by repeat (first | with_reducible exact Ext.here | with_reducible apply Ext.there)) h) ?_
          have hAP : Sv [arr (some b156) 3 1 46 ePI [(⟨a31, cap31, (sortZ (ltz by_) l)⟩ : PI), ⟨a41, cap41, (sortZ (ltz by_) l)⟩, ⟨a80, cap80, (sortZ (ltz by_) ((overI (lentI l).length).take l.length))⟩]] (sl (some b156) [(⟨a31, cap31, (sortZ (ltz by_) l)⟩ : PI), ⟨a41, cap41, (sortZ (ltz by_) l)⟩, ⟨a80, cap80, (sortZ (ltz by_) ((overI (lentI l).length).take l.length))⟩].length 3) 1 ePI [(⟨a31, cap31, (sortZ (ltz by_) l)⟩ : PI), ⟨a41, cap41, (sortZ (ltz by_) l)⟩, ⟨a80, cap80, (sortZ (ltz by_) ((overI (lentI l).length).take l.length))⟩] (some ⟨b156, 0, none⟩) 3 := Sv_own' (a := some b156) (cap := 3) (T := 46) encPI (l := [(⟨a31, cap31, (sortZ (ltz by_) l)⟩ : PI), ⟨a41, cap41, (sortZ (ltz by_) l)⟩, ⟨a80, cap80, (sortZ (ltz by_) ((overI (lentI l).length).take l.length))⟩]) (by simp) (Nat.le_refl 3)
          refine WL_ac (Ac_call cf28 rfl (hs := apartI_ct (X := arr (some b156) 3 1 46 ePI [(⟨a31, cap31, (sortZ (ltz by_) l)⟩ : PI), ⟨a41, cap41, (sortZ (ltz by_) l)⟩, ⟨a80, cap80, (sortZ (ltz by_) ((overI (lentI l).length).take l.length))⟩]) (ps := [(⟨a31, cap31, (sortZ (ltz by_) l)⟩ : PI), ⟨a41, cap41, (sortZ (ltz by_) l)⟩, ⟨a80, cap80, (sortZ (ltz by_) ((overI (lentI l).length).take l.length))⟩]) (hS := hAP) (hn := by show 3 ≤ 1000000; decide) (hb := by intro p hp; simp only [List.mem_cons, List.not_mem_nil, or_false] at hp; rcases hp with rfl | rfl | rfl <;> dsimp only <;> omega))) rfl rfl rfl ?_
          rintro _ _ ⟨⟨⟩, rfl, hA⟩
          simp only [List.cons_append, List.nil_append] at hA
          replace hA := hA.symm
          subst hA
          refine WL_rd (Rd_pickT rfl rfl) rfl rfl rfl ?_
          refine WL_rd (Rd_assign rfl) rfl rfl rfl ?_
          refine WL_end hK31 ?_
          refine WC_ret ?_
          exact hret.go () (Rs1 rfl rfl)
end Go.Proofs.Ytcookmkklcbbnaa
