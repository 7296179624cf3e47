/-
  Contracts of functions that the claim reaches, or the logic and the plain laws that they rest on, or the row over them. (Conditions: none beyond the statement.)
-/
import Derived.Test.YthkchjcodibaeaaZqRingP
import Derived.Test.YthkchjcodibaeaaLibR
import Derived.Test.YthkchjcodibaeaaZqRH
set_option linter.all false
namespace Go.Proofs.Ythkchjcodibaeaa
open Go.RowKit Go.SL Go.ShM
set_option maxHeartbeats 1000000
set_option maxRecDepth 20000
set_option linter.all false
theorem cf67 : cfn Try.prog 67 = true := by kernel_rfl
theorem cf69 : cfn Try.prog 69 = true := by kernel_rfl
theorem cf74 : cfn Try.prog 74 = true := by kernel_rfl
theorem OrderOk_ct {x y : List B8} {n s : Nat} (hx : x.length = 16 := by assumption) (hy : y.length = 16 := by assumption) (h1 : 1 ≤ n := by omega) (h2 : n ≤ 32 := by omega) (hs : s < n) : Ct Try.prog 20 [aU .u8 x, aU .u8 y, .int .i64 ((n : Nat) : Int), .int .i64 ((s : Nat) : Int)] [] (fun _ : Unit => .bool true) (fun _ => []) := by
  refine Ct_body (n := 107) Try.func20 rfl rfl rfl fun F w0 Q hret hnorm hp => ?_
  change WC _ _ _ _ _ _ _ (F)
  refine WC_sr fun K1 hK1 => ?_
  refine WL_ac (Ac_boxW (k := .u8) rfl) rfl rfl rfl ?_
  rintro _ _ ⟨b4, rfl, rfl⟩
  refine WL_ac (Ac_boxW (k := .u8) rfl) rfl rfl rfl ?_
  rintro _ _ ⟨b5, rfl, rfl⟩
  refine WL_rd (Rd_assign rfl) rfl rfl rfl ?_
  refine WL_end hK1 ?_
  refine WC_sr fun K2 hK2 => ?_
  refine WL_rd (Rd_loadW rfl tk120) rfl rfl rfl ?_
  refine WL_rd (Rd_move rfl) rfl rfl rfl ?_
  refine WL_ac (Ac_call cf71 rfl (hs := order_ct (x := x) (n := n))) rfl rfl rfl ?_
  rintro _ _ ⟨oa, rfl, hA⟩
  simp only [List.cons_append, List.nil_append] at hA
  replace hA := hA.symm
  subst hA
  refine WL_rd (Rd_move rfl) rfl rfl rfl ?_
  refine WL_rd (Rd_ext0 rfl) rfl rfl rfl ?_
  refine WL_rd (Rd_ext1 rfl) rfl rfl rfl ?_
  refine WL_rd (Rd_assign rfl) rfl rfl rfl ?_
  refine WL_rd (Rd_assign rfl) rfl rfl rfl ?_
  refine WL_end hK2 ?_
  refine WC_sr fun K3 hK3 => ?_
  refine WL_rd (Rd_loadW rfl tk120) rfl rfl rfl ?_
  refine WL_rd (Rd_move rfl) rfl rfl rfl ?_
  refine WL_ac (Ac_call cf71 rfl (hs := order_ct (x := x) (n := n))) rfl rfl rfl ?_
  rintro _ _ ⟨ob, rfl, hA⟩
  simp only [List.cons_append, List.nil_append] at hA
  replace hA := hA.symm
  subst hA
  refine WL_rd (Rd_move rfl) rfl rfl rfl ?_
  refine WL_rd (Rd_ext0 rfl) rfl rfl rfl ?_
  refine WL_rd (Rd_ext1 rfl) rfl rfl rfl ?_
  refine WL_rd (Rd_assign rfl) rfl rfl rfl ?_
  refine WL_rd (Rd_assign rfl) rfl rfl rfl ?_
  refine WL_end hK3 ?_
  refine WC_sr fun K4 hK4 => ?_
  refine WL_rd (Rd_loadW rfl tk120) rfl rfl rfl ?_
  refine WL_rd (Rd_move rfl) rfl rfl rfl ?_
  refine WL_ac (Ac_call cf71 rfl (hs := order_ct (x := y) (n := n))) rfl rfl rfl ?_
  rintro _ _ ⟨oc, rfl, hA⟩
  simp only [List.cons_append, List.nil_append] at hA
  replace hA := hA.symm
  subst hA
  refine WL_rd (Rd_move rfl) rfl rfl rfl ?_
  refine WL_rd (Rd_ext0 rfl) rfl rfl rfl ?_
  refine WL_rd (Rd_ext1 rfl) rfl rfl rfl ?_
  refine WL_rd (Rd_assign rfl) rfl rfl rfl ?_
  refine WL_rd (Rd_assign rfl) rfl rfl rfl ?_
  refine WL_end hK4 ?_
  refine WC_sr fun K5 hK5 => ?_
  refine WL_rd (Rd_loadW rfl tk120) rfl rfl rfl ?_
  refine WL_rd (Rd_move rfl) rfl rfl rfl ?_
  refine WL_ac (Ac_call cf72 rfl (hs := rOrder_ct (x := x) (n := n))) rfl rfl rfl ?_
  rintro _ _ ⟨od, rfl, hA⟩
  simp only [List.cons_append, List.nil_append] at hA
  replace hA := hA.symm
  subst hA
  refine WL_rd (Rd_move rfl) rfl rfl rfl ?_
  refine WL_rd (Rd_ext0 rfl) rfl rfl rfl ?_
  refine WL_rd (Rd_ext1 rfl) rfl rfl rfl ?_
  refine WL_rd (Rd_assign rfl) rfl rfl rfl ?_
  refine WL_rd (Rd_assign rfl) rfl rfl rfl ?_
  refine WL_end hK5 ?_
  refine WC_sr fun K6 hK6 => ?_
  refine WL_rd (Rd_loadW rfl tk120) rfl rfl rfl ?_
  refine WL_rd (Rd_move rfl) rfl rfl rfl ?_
  refine WL_ac (Ac_call cf72 rfl (hs := rOrder_ct (x := y) (n := n))) rfl rfl rfl ?_
  rintro _ _ ⟨oe, rfl, hA⟩
  simp only [List.cons_append, List.nil_append] at hA
  replace hA := hA.symm
  subst hA
  refine WL_rd (Rd_move rfl) rfl rfl rfl ?_
  refine WL_rd (Rd_ext0 rfl) rfl rfl rfl ?_
  refine WL_rd (Rd_ext1 rfl) rfl rfl rfl ?_
  refine WL_rd (Rd_assign rfl) rfl rfl rfl ?_
  refine WL_rd (Rd_assign rfl) rfl rfl rfl ?_
  refine WL_end hK6 ?_
  refine WC_sr fun K7 hK7 => ?_
  refine WL_rd (Rd_loadW rfl tk120) rfl rfl rfl ?_
  refine WL_rd (Rd_move rfl) rfl rfl rfl ?_
  refine WL_rd (Rd_move rfl) rfl rfl rfl ?_
  refine WL_ac (Ac_call cf73 rfl (hs := rank_ct (x := x) (n := n) (s := s) (k := (rkM (ringD x) s n)) (hk := rk_at hs))) rfl rfl rfl ?_
  rintro _ _ ⟨⟨⟩, rfl, hA⟩
  simp only [List.cons_append, List.nil_append] at hA
  replace hA := hA.symm
  subst hA
  refine WL_rd (Rd_move rfl) rfl rfl rfl ?_
  refine WL_rd (Rd_ext0 rfl) rfl rfl rfl ?_
  refine WL_rd (Rd_ext1 rfl) rfl rfl rfl ?_
  refine WL_rd (Rd_assign rfl) rfl rfl rfl ?_
  refine WL_rd (Rd_assign rfl) rfl rfl rfl ?_
  refine WL_end hK7 ?_
  refine WC_sr fun K8 hK8 => ?_
  refine WL_rd (Rd_loadW rfl tk120) rfl rfl rfl ?_
  refine WL_rd (Rd_move rfl) rfl rfl rfl ?_
  refine WL_rd (Rd_move rfl) rfl rfl rfl ?_
  refine WL_ac (Ac_call cf74 rfl (hs := rRank_ct (x := x) (n := n) (s := s) (k := (rkM (ringD x) s n)) (hk := rk_at hs))) rfl rfl rfl ?_
  rintro _ _ ⟨⟨⟩, rfl, hA⟩
  simp only [List.cons_append, List.nil_append] at hA
  replace hA := hA.symm
  subst hA
  refine WL_rd (Rd_move rfl) rfl rfl rfl ?_
  refine WL_rd (Rd_ext0 rfl) rfl rfl rfl ?_
  refine WL_rd (Rd_ext1 rfl) rfl rfl rfl ?_
  refine WL_rd (Rd_assign rfl) rfl rfl rfl ?_
  refine WL_rd (Rd_assign rfl) rfl rfl rfl ?_
  refine WL_end hK8 ?_
  refine WC_sr fun K9 hK9 => ?_
  refine WL_imp (fun w h => sat_at (arr_map (f := eInt .i64) (g := fun i : Nat => (i : Int)) (fun _ => rfl)) (X := arr (some oa) n 1 3 eN (ordL (ringD x) n)) (by repeat (first | with_reducible exact Ext.here | with_reducible apply Ext.there)) h) ?_
  refine WL_imp (fun w h => sat_at (arr_map (f := eInt .i64) (g := fun i : Nat => (i : Int)) (fun _ => rfl)) (X := arr (some ob) n 1 3 eN (ordL (ringD x) n)) (by repeat (first | with_reducible exact Ext.here | with_reducible apply Ext.there)) h) ?_
  refine WL_imp (fun w h => sat_at (arr_map (f := eInt .i64) (g := fun i : Nat => (i : Int)) (fun _ => rfl)) (X := arr (some oc) n 1 3 eN (ordL (ringD y) n)) (by repeat (first | with_reducible exact Ext.here | with_reducible apply Ext.there)) h) ?_
  refine WL_imp (fun w h => sat_at (arr_map (f := eInt .i64) (g := fun i : Nat => (i : Int)) (fun _ => rfl)) (X := arr (some od) n 1 3 eN (ordL (ringD x) n)) (by repeat (first | with_reducible exact Ext.here | with_reducible apply Ext.there)) h) ?_
  refine WL_imp (fun w h => sat_at (arr_map (f := eInt .i64) (g := fun i : Nat => (i : Int)) (fun _ => rfl)) (X := arr (some oe) n 1 3 eN (ordL (ringD y) n)) (by repeat (first | with_reducible exact Ext.here | with_reducible apply Ext.there)) h) ?_
  have hlx : ((ordL (ringD x) n).map fun i : Nat => (i : Int)).length = n := by rw [List.length_map, ordL_len]
  have hly : ((ordL (ringD y) n).map fun i : Nat => (i : Int)).length = n := by rw [List.length_map, ordL_len]
  rw [show sl (some oa) n n = sl (some oa) ((ordL (ringD x) n).map fun i : Nat => (i : Int)).length n from by rw [hlx]]
  rw [show sl (some ob) n n = sl (some ob) ((ordL (ringD x) n).map fun i : Nat => (i : Int)).length n from by rw [hlx]]
  rw [show sl (some oc) n n = sl (some oc) ((ordL (ringD y) n).map fun i : Nat => (i : Int)).length n from by rw [hly]]
  rw [show sl (some od) n n = sl (some od) ((ordL (ringD x) n).map fun i : Nat => (i : Int)).length n from by rw [hlx]]
  rw [show sl (some oe) n n = sl (some oe) ((ordL (ringD y) n).map fun i : Nat => (i : Int)).length n from by rw [hly]]
  have hva : Sv [arr (some oa) n 1 3 (eInt .i64) ((ordL (ringD x) n).map fun i : Nat => (i : Int))] (sl (some oa) ((ordL (ringD x) n).map fun i : Nat => (i : Int)).length n) 1 (eInt .i64) ((ordL (ringD x) n).map fun i : Nat => (i : Int)) ((some oa).map fun g => ⟨g, 0, none⟩) n := Sv_own' encZ (by intro h; first | rfl | cases h) (by first | exact Nat.le_refl _ | omega)
  have hvb : Sv [arr (some ob) n 1 3 (eInt .i64) ((ordL (ringD x) n).map fun i : Nat => (i : Int))] (sl (some ob) ((ordL (ringD x) n).map fun i : Nat => (i : Int)).length n) 1 (eInt .i64) ((ordL (ringD x) n).map fun i : Nat => (i : Int)) ((some ob).map fun g => ⟨g, 0, none⟩) n := Sv_own' encZ (by intro h; first | rfl | cases h) (by first | exact Nat.le_refl _ | omega)
  have hvc : Sv [arr (some oc) n 1 3 (eInt .i64) ((ordL (ringD y) n).map fun i : Nat => (i : Int))] (sl (some oc) ((ordL (ringD y) n).map fun i : Nat => (i : Int)).length n) 1 (eInt .i64) ((ordL (ringD y) n).map fun i : Nat => (i : Int)) ((some oc).map fun g => ⟨g, 0, none⟩) n := Sv_own' encZ (by intro h; first | rfl | cases h) (by first | exact Nat.le_refl _ | omega)
  have hvd : Sv [arr (some od) n 1 3 (eInt .i64) ((ordL (ringD x) n).map fun i : Nat => (i : Int))] (sl (some od) ((ordL (ringD x) n).map fun i : Nat => (i : Int)).length n) 1 (eInt .i64) ((ordL (ringD x) n).map fun i : Nat => (i : Int)) ((some od).map fun g => ⟨g, 0, none⟩) n := Sv_own' encZ (by intro h; first | rfl | cases h) (by first | exact Nat.le_refl _ | omega)
  have hve : Sv [arr (some oe) n 1 3 (eInt .i64) ((ordL (ringD y) n).map fun i : Nat => (i : Int))] (sl (some oe) ((ordL (ringD y) n).map fun i : Nat => (i : Int)).length n) 1 (eInt .i64) ((ordL (ringD y) n).map fun i : Nat => (i : Int)) ((some oe).map fun g => ⟨g, 0, none⟩) n := Sv_own' encZ (by intro h; first | rfl | cases h) (by first | exact Nat.le_refl _ | omega)
  refine WL_rd (Rd_move rfl) rfl rfl rfl ?_
  refine WL_rd (Rd_move rfl) rfl rfl rfl ?_
  refine WL_rd (Rd_eqlN (i := 0) (j := 0) rfl rfl) rfl rfl rfl ?_
  refine WL_rd (Rd_move rfl) rfl rfl rfl ?_
  refine WL_rd (Rd_move rfl) rfl rfl rfl ?_
  refine WL_rd (Rd_move rfl) rfl rfl rfl ?_
  refine WL_rd (Rd_eqlN (i := 0) (j := 0) rfl rfl) rfl rfl rfl ?_
  refine WL_rd (Rd_pickT rfl rfl) rfl rfl rfl ?_
  refine WL_rd (Rd_move rfl) rfl rfl rfl ?_
  refine WL_rd (Rd_move rfl) rfl rfl rfl ?_
  refine WL_rd (Rd_move rfl) rfl rfl rfl ?_
  refine WL_rd (Rd_eqlN (i := 0) (j := 0) rfl rfl) rfl rfl rfl ?_
  refine WL_rd (Rd_pickT rfl rfl) rfl rfl rfl ?_
  refine WL_rd (Rd_move rfl) rfl rfl rfl ?_
  refine WL_rd (Rd_move rfl) rfl rfl rfl ?_
  refine WL_rd (Rd_move rfl) rfl rfl rfl ?_
  refine WL_rd (Rd_isT (Rd_eqlN rfl rfl)) rfl rfl rfl ?_
  refine WL_rd (Rd_pickT rfl rfl) rfl rfl rfl ?_
  refine WL_rd (Rd_move rfl) rfl rfl rfl ?_
  refine WL_rd (Rd_move rfl) rfl rfl rfl ?_
  refine WL_rd (Rd_move rfl) rfl rfl rfl ?_
  refine WL_ac (Ac_call cf67 rfl (hs := Ct.un0 (Xs := [arr (some oa) n 1 3 (eInt .i64) ((ordL (ringD x) n).map fun i : Nat => (i : Int)), arr (some od) n 1 3 (eInt .i64) ((ordL (ringD x) n).map fun i : Nat => (i : Int))]) (sameI_ct (X := sep [arr (some oa) n 1 3 (eInt .i64) ((ordL (ringD x) n).map fun i : Nat => (i : Int)), arr (some od) n 1 3 (eInt .i64) ((ordL (ringD x) n).map fun i : Nat => (i : Int))]) (l := ((ordL (ringD x) n).map fun i : Nat => (i : Int))) (l' := ((ordL (ringD x) n).map fun i : Nat => (i : Int))) (hS := hva.pk (by repeat (first | with_reducible exact Has.here | with_reducible refine Has.there ?_))) (hS' := hvd.pk (by repeat (first | with_reducible exact Has.here | with_reducible refine Has.there ?_))) (hl := by first | omega | decide)))) rfl rfl rfl ?_
  rintro _ _ ⟨⟨⟩, rfl, hA⟩
  simp only [List.cons_append, List.nil_append] at hA
  replace hA := hA.symm
  subst hA
  rw [decide_eq_true (rfl : ((ordL (ringD x) n).map fun i : Nat => (i : Int)) = ((ordL (ringD x) n).map fun i : Nat => (i : Int)))]
  refine WL_rd (Rd_pickT rfl rfl) rfl rfl rfl ?_
  refine WL_rd (Rd_move rfl) rfl rfl rfl ?_
  refine WL_rd (Rd_move rfl) rfl rfl rfl ?_
  refine WL_rd (Rd_move rfl) rfl rfl rfl ?_
  refine WL_ac (Ac_call cf67 rfl (hs := Ct.un0 (Xs := [arr (some ob) n 1 3 (eInt .i64) ((ordL (ringD x) n).map fun i : Nat => (i : Int)), arr (some od) n 1 3 (eInt .i64) ((ordL (ringD x) n).map fun i : Nat => (i : Int))]) (sameI_ct (X := sep [arr (some ob) n 1 3 (eInt .i64) ((ordL (ringD x) n).map fun i : Nat => (i : Int)), arr (some od) n 1 3 (eInt .i64) ((ordL (ringD x) n).map fun i : Nat => (i : Int))]) (l := ((ordL (ringD x) n).map fun i : Nat => (i : Int))) (l' := ((ordL (ringD x) n).map fun i : Nat => (i : Int))) (hS := hvb.pk (by repeat (first | with_reducible exact Has.here | with_reducible refine Has.there ?_))) (hS' := hvd.pk (by repeat (first | with_reducible exact Has.here | with_reducible refine Has.there ?_))) (hl := by first | omega | decide)))) rfl rfl rfl ?_
  rintro _ _ ⟨⟨⟩, rfl, hA⟩
  simp only [List.cons_append, List.nil_append] at hA
  replace hA := hA.symm
  subst hA
  rw [decide_eq_true (rfl : ((ordL (ringD x) n).map fun i : Nat => (i : Int)) = ((ordL (ringD x) n).map fun i : Nat => (i : Int)))]
  refine WL_rd (Rd_pickT rfl rfl) rfl rfl rfl ?_
  refine WL_rd (Rd_move rfl) rfl rfl rfl ?_
  refine WL_rd (Rd_move rfl) rfl rfl rfl ?_
  refine WL_rd (Rd_move rfl) rfl rfl rfl ?_
  refine WL_ac (Ac_call cf67 rfl (hs := Ct.un0 (Xs := [arr (some oc) n 1 3 (eInt .i64) ((ordL (ringD y) n).map fun i : Nat => (i : Int)), arr (some oe) n 1 3 (eInt .i64) ((ordL (ringD y) n).map fun i : Nat => (i : Int))]) (sameI_ct (X := sep [arr (some oc) n 1 3 (eInt .i64) ((ordL (ringD y) n).map fun i : Nat => (i : Int)), arr (some oe) n 1 3 (eInt .i64) ((ordL (ringD y) n).map fun i : Nat => (i : Int))]) (l := ((ordL (ringD y) n).map fun i : Nat => (i : Int))) (l' := ((ordL (ringD y) n).map fun i : Nat => (i : Int))) (hS := hvc.pk (by repeat (first | with_reducible exact Has.here | with_reducible refine Has.there ?_))) (hS' := hve.pk (by repeat (first | with_reducible exact Has.here | with_reducible refine Has.there ?_))) (hl := by first | omega | decide)))) rfl rfl rfl ?_
  rintro _ _ ⟨⟨⟩, rfl, hA⟩
  simp only [List.cons_append, List.nil_append] at hA
  replace hA := hA.symm
  subst hA
  rw [decide_eq_true (rfl : ((ordL (ringD y) n).map fun i : Nat => (i : Int)) = ((ordL (ringD y) n).map fun i : Nat => (i : Int)))]
  refine WL_rd (Rd_pickT rfl rfl) rfl rfl rfl ?_
  refine WL_rd (Rd_move rfl) rfl rfl rfl ?_
  refine WL_rd (Rd_move rfl) rfl rfl rfl ?_
  refine WL_rd (Rd_move rfl) rfl rfl rfl ?_
  refine WL_rd (Rd_move rfl) rfl rfl rfl ?_
  refine WL_ac (Ac_bsL (f := ePI) (zs := [.slice none 0 0]) (bs := [.slice none 0 0, .slice none 0 0, .slice none 0 0]) [(⟨(some oa), n, ((ordL (ringD x) n).map fun i : Nat => (i : Int))⟩ : PI), ⟨(some ob), n, ((ordL (ringD x) n).map fun i : Nat => (i : Int))⟩, ⟨(some oc), n, ((ordL (ringD y) n).map fun i : Nat => (i : Int))⟩] encPI ud109 zr101 sz101 rfl (by rw [Array.toList_map, Array.toList_range]; rfl) (by rfl) (by rfl) (by rfl) (by rfl)) rfl rfl rfl ?_
  rintro _ _ ⟨b104, rfl, rfl⟩
  rw [show arr (some oa) n 1 3 (eInt .i64) ((ordL (ringD x) n).map fun i : Nat => (i : Int)) = FP 3 ⟨(some oa), n, ((ordL (ringD x) n).map fun i : Nat => (i : Int))⟩ from rfl]
  rw [show arr (some ob) n 1 3 (eInt .i64) ((ordL (ringD x) n).map fun i : Nat => (i : Int)) = FP 3 ⟨(some ob), n, ((ordL (ringD x) n).map fun i : Nat => (i : Int))⟩ from rfl]
  rw [show arr (some oc) n 1 3 (eInt .i64) ((ordL (ringD y) n).map fun i : Nat => (i : Int)) = FP 3 ⟨(some oc), n, ((ordL (ringD y) n).map fun i : Nat => (i : Int))⟩ from rfl]
  refine WL_imp (fun w h => sat_star3 (F := FP 3) (x := ⟨(some oa), n, ((ordL (ringD x) n).map fun i : Nat => (i : Int))⟩) (y := ⟨(some ob), n, ((ordL (ringD x) n).map fun i : Nat => (i : Int))⟩) (z := ⟨(some oc), n, ((ordL (ringD y) n).map fun i : Nat => (i : Int))⟩) (by repeat (first | with_reducible exact Ext.here | with_reducible apply Ext.there)) (by repeat (first | with_reducible exact Ext.here | with_reducible apply Ext.there)) (by repeat (first | with_reducible exact Ext.here | with_reducible apply Ext.there)) h) ?_
  have hAP : Sv [arr (some b104) 3 1 101 ePI [(⟨(some oa), n, ((ordL (ringD x) n).map fun i : Nat => (i : Int))⟩ : PI), ⟨(some ob), n, ((ordL (ringD x) n).map fun i : Nat => (i : Int))⟩, ⟨(some oc), n, ((ordL (ringD y) n).map fun i : Nat => (i : Int))⟩]] (sl (some b104) [(⟨(some oa), n, ((ordL (ringD x) n).map fun i : Nat => (i : Int))⟩ : PI), ⟨(some ob), n, ((ordL (ringD x) n).map fun i : Nat => (i : Int))⟩, ⟨(some oc), n, ((ordL (ringD y) n).map fun i : Nat => (i : Int))⟩].length 3) 1 ePI [(⟨(some oa), n, ((ordL (ringD x) n).map fun i : Nat => (i : Int))⟩ : PI), ⟨(some ob), n, ((ordL (ringD x) n).map fun i : Nat => (i : Int))⟩, ⟨(some oc), n, ((ordL (ringD y) n).map fun i : Nat => (i : Int))⟩] (some ⟨b104, 0, none⟩) 3 := Sv_own' (a := some b104) (cap := 3) (T := 101) encPI (l := [(⟨(some oa), n, ((ordL (ringD x) n).map fun i : Nat => (i : Int))⟩ : PI), ⟨(some ob), n, ((ordL (ringD x) n).map fun i : Nat => (i : Int))⟩, ⟨(some oc), n, ((ordL (ringD y) n).map fun i : Nat => (i : Int))⟩]) (by simp) (Nat.le_refl 3)
  refine WL_ac (Ac_call cf69 rfl (hs := apartI_ct (X := arr (some b104) 3 1 101 ePI [(⟨(some oa), n, ((ordL (ringD x) n).map fun i : Nat => (i : Int))⟩ : PI), ⟨(some ob), n, ((ordL (ringD x) n).map fun i : Nat => (i : Int))⟩, ⟨(some oc), n, ((ordL (ringD y) n).map fun i : Nat => (i : Int))⟩]) (ps := [(⟨(some oa), n, ((ordL (ringD x) n).map fun i : Nat => (i : Int))⟩ : PI), ⟨(some ob), n, ((ordL (ringD x) n).map fun i : Nat => (i : Int))⟩, ⟨(some oc), n, ((ordL (ringD y) n).map fun i : Nat => (i : Int))⟩]) (hS := hAP) (hn := by show 3 ≤ 1000000; decide) (hb := by intro p hp; simp only [List.mem_cons, List.not_mem_nil, or_false] at hp; rcases hp with rfl | rfl | rfl <;> first | omega | decide | (dsimp only; omega)))) rfl rfl rfl ?_
  rintro _ _ ⟨⟨⟩, rfl, hA⟩
  simp only [List.cons_append, List.nil_append] at hA
  replace hA := hA.symm
  subst hA
  refine WL_rd (Rd_pickT rfl rfl) rfl rfl rfl ?_
  refine WL_rd (Rd_assign rfl) rfl rfl rfl ?_
  refine WL_end hK9 ?_
  refine WC_ret ?_
  exact hret.go () (Rs1 rfl rfl)

theorem OrderOkB_ct {x y : List B8} {n : Nat} {s : Int} (hx : x.length = 16 := by assumption) (hy : y.length = 16 := by assumption) (h1 : 1 ≤ n := by omega) (h2 : n ≤ 32 := by omega) (hs : s < 0 ∨ (n : Int) ≤ s) : Ct Try.prog 20 [aU .u8 x, aU .u8 y, .int .i64 ((n : Nat) : Int), .int .i64 s] [] (fun _ : Unit => .bool true) (fun _ => []) := by
  refine Ct_body (n := 107) Try.func20 rfl rfl rfl fun F w0 Q hret hnorm hp => ?_
  change WC _ _ _ _ _ _ _ (F)
  refine WC_sr fun K1 hK1 => ?_
  refine WL_ac (Ac_boxW (k := .u8) rfl) rfl rfl rfl ?_
  rintro _ _ ⟨b4, rfl, rfl⟩
  refine WL_ac (Ac_boxW (k := .u8) rfl) rfl rfl rfl ?_
  rintro _ _ ⟨b5, rfl, rfl⟩
  refine WL_rd (Rd_assign rfl) rfl rfl rfl ?_
  refine WL_end hK1 ?_
  refine WC_sr fun K2 hK2 => ?_
  refine WL_rd (Rd_loadW rfl tk120) rfl rfl rfl ?_
  refine WL_rd (Rd_move rfl) rfl rfl rfl ?_
  refine WL_ac (Ac_call cf71 rfl (hs := order_ct (x := x) (n := n))) rfl rfl rfl ?_
  rintro _ _ ⟨oa, rfl, hA⟩
  simp only [List.cons_append, List.nil_append] at hA
  replace hA := hA.symm
  subst hA
  refine WL_rd (Rd_move rfl) rfl rfl rfl ?_
  refine WL_rd (Rd_ext0 rfl) rfl rfl rfl ?_
  refine WL_rd (Rd_ext1 rfl) rfl rfl rfl ?_
  refine WL_rd (Rd_assign rfl) rfl rfl rfl ?_
  refine WL_rd (Rd_assign rfl) rfl rfl rfl ?_
  refine WL_end hK2 ?_
  refine WC_sr fun K3 hK3 => ?_
  refine WL_rd (Rd_loadW rfl tk120) rfl rfl rfl ?_
  refine WL_rd (Rd_move rfl) rfl rfl rfl ?_
  refine WL_ac (Ac_call cf71 rfl (hs := order_ct (x := x) (n := n))) rfl rfl rfl ?_
  rintro _ _ ⟨ob, rfl, hA⟩
  simp only [List.cons_append, List.nil_append] at hA
  replace hA := hA.symm
  subst hA
  refine WL_rd (Rd_move rfl) rfl rfl rfl ?_
  refine WL_rd (Rd_ext0 rfl) rfl rfl rfl ?_
  refine WL_rd (Rd_ext1 rfl) rfl rfl rfl ?_
  refine WL_rd (Rd_assign rfl) rfl rfl rfl ?_
  refine WL_rd (Rd_assign rfl) rfl rfl rfl ?_
  refine WL_end hK3 ?_
  refine WC_sr fun K4 hK4 => ?_
  refine WL_rd (Rd_loadW rfl tk120) rfl rfl rfl ?_
  refine WL_rd (Rd_move rfl) rfl rfl rfl ?_
  refine WL_ac (Ac_call cf71 rfl (hs := order_ct (x := y) (n := n))) rfl rfl rfl ?_
  rintro _ _ ⟨oc, rfl, hA⟩
  simp only [List.cons_append, List.nil_append] at hA
  replace hA := hA.symm
  subst hA
  refine WL_rd (Rd_move rfl) rfl rfl rfl ?_
  refine WL_rd (Rd_ext0 rfl) rfl rfl rfl ?_
  refine WL_rd (Rd_ext1 rfl) rfl rfl rfl ?_
  refine WL_rd (Rd_assign rfl) rfl rfl rfl ?_
  refine WL_rd (Rd_assign rfl) rfl rfl rfl ?_
  refine WL_end hK4 ?_
  refine WC_sr fun K5 hK5 => ?_
  refine WL_rd (Rd_loadW rfl tk120) rfl rfl rfl ?_
  refine WL_rd (Rd_move rfl) rfl rfl rfl ?_
  refine WL_ac (Ac_call cf72 rfl (hs := rOrder_ct (x := x) (n := n))) rfl rfl rfl ?_
  rintro _ _ ⟨od, rfl, hA⟩
  simp only [List.cons_append, List.nil_append] at hA
  replace hA := hA.symm
  subst hA
  refine WL_rd (Rd_move rfl) rfl rfl rfl ?_
  refine WL_rd (Rd_ext0 rfl) rfl rfl rfl ?_
  refine WL_rd (Rd_ext1 rfl) rfl rfl rfl ?_
  refine WL_rd (Rd_assign rfl) rfl rfl rfl ?_
  refine WL_rd (Rd_assign rfl) rfl rfl rfl ?_
  refine WL_end hK5 ?_
  refine WC_sr fun K6 hK6 => ?_
  refine WL_rd (Rd_loadW rfl tk120) rfl rfl rfl ?_
  refine WL_rd (Rd_move rfl) rfl rfl rfl ?_
  refine WL_ac (Ac_call cf72 rfl (hs := rOrder_ct (x := y) (n := n))) rfl rfl rfl ?_
  rintro _ _ ⟨oe, rfl, hA⟩
  simp only [List.cons_append, List.nil_append] at hA
  replace hA := hA.symm
  subst hA
  refine WL_rd (Rd_move rfl) rfl rfl rfl ?_
  refine WL_rd (Rd_ext0 rfl) rfl rfl rfl ?_
  refine WL_rd (Rd_ext1 rfl) rfl rfl rfl ?_
  refine WL_rd (Rd_assign rfl) rfl rfl rfl ?_
  refine WL_rd (Rd_assign rfl) rfl rfl rfl ?_
  refine WL_end hK6 ?_
  refine WC_sr fun K7 hK7 => ?_
  refine WL_rd (Rd_loadW rfl tk120) rfl rfl rfl ?_
  refine WL_rd (Rd_move rfl) rfl rfl rfl ?_
  refine WL_rd (Rd_move rfl) rfl rfl rfl ?_
  refine WL_ac (Ac_call cf73 rfl (hs := rankB_ct (x := x) (n := n) (s := s) (hs := hs))) rfl rfl rfl ?_
  rintro _ _ ⟨⟨⟩, rfl, hA⟩
  simp only [List.cons_append, List.nil_append] at hA
  replace hA := hA.symm
  subst hA
  refine WL_rd (Rd_move rfl) rfl rfl rfl ?_
  refine WL_rd (Rd_ext0 rfl) rfl rfl rfl ?_
  refine WL_rd (Rd_ext1 rfl) rfl rfl rfl ?_
  refine WL_rd (Rd_assign rfl) rfl rfl rfl ?_
  refine WL_rd (Rd_assign rfl) rfl rfl rfl ?_
  refine WL_end hK7 ?_
  refine WC_sr fun K8 hK8 => ?_
  refine WL_rd (Rd_loadW rfl tk120) rfl rfl rfl ?_
  refine WL_rd (Rd_move rfl) rfl rfl rfl ?_
  refine WL_rd (Rd_move rfl) rfl rfl rfl ?_
  refine WL_ac (Ac_call cf74 rfl (hs := rRankB_ct (x := x) (n := n) (s := s) (hs := hs))) rfl rfl rfl ?_
  rintro _ _ ⟨⟨⟩, rfl, hA⟩
  simp only [List.cons_append, List.nil_append] at hA
  replace hA := hA.symm
  subst hA
  refine WL_rd (Rd_move rfl) rfl rfl rfl ?_
  refine WL_rd (Rd_ext0 rfl) rfl rfl rfl ?_
  refine WL_rd (Rd_ext1 rfl) rfl rfl rfl ?_
  refine WL_rd (Rd_assign rfl) rfl rfl rfl ?_
  refine WL_rd (Rd_assign rfl) rfl rfl rfl ?_
  refine WL_end hK8 ?_
  refine WC_sr fun K9 hK9 => ?_
  refine WL_imp (fun w h => sat_at (arr_map (f := eInt .i64) (g := fun i : Nat => (i : Int)) (fun _ => rfl)) (X := arr (some oa) n 1 3 eN (ordL (ringD x) n)) (by repeat (first | with_reducible exact Ext.here | with_reducible apply Ext.there)) h) ?_
  refine WL_imp (fun w h => sat_at (arr_map (f := eInt .i64) (g := fun i : Nat => (i : Int)) (fun _ => rfl)) (X := arr (some ob) n 1 3 eN (ordL (ringD x) n)) (by repeat (first | with_reducible exact Ext.here | with_reducible apply Ext.there)) h) ?_
  refine WL_imp (fun w h => sat_at (arr_map (f := eInt .i64) (g := fun i : Nat => (i : Int)) (fun _ => rfl)) (X := arr (some oc) n 1 3 eN (ordL (ringD y) n)) (by repeat (first | with_reducible exact Ext.here | with_reducible apply Ext.there)) h) ?_
  refine WL_imp (fun w h => sat_at (arr_map (f := eInt .i64) (g := fun i : Nat => (i : Int)) (fun _ => rfl)) (X := arr (some od) n 1 3 eN (ordL (ringD x) n)) (by repeat (first | with_reducible exact Ext.here | with_reducible apply Ext.there)) h) ?_
  refine WL_imp (fun w h => sat_at (arr_map (f := eInt .i64) (g := fun i : Nat => (i : Int)) (fun _ => rfl)) (X := arr (some oe) n 1 3 eN (ordL (ringD y) n)) (by repeat (first | with_reducible exact Ext.here | with_reducible apply Ext.there)) h) ?_
  have hlx : ((ordL (ringD x) n).map fun i : Nat => (i : Int)).length = n := by rw [List.length_map, ordL_len]
  have hly : ((ordL (ringD y) n).map fun i : Nat => (i : Int)).length = n := by rw [List.length_map, ordL_len]
  rw [show sl (some oa) n n = sl (some oa) ((ordL (ringD x) n).map fun i : Nat => (i : Int)).length n from by rw [hlx]]
  rw [show sl (some ob) n n = sl (some ob) ((ordL (ringD x) n).map fun i : Nat => (i : Int)).length n from by rw [hlx]]
  rw [show sl (some oc) n n = sl (some oc) ((ordL (ringD y) n).map fun i : Nat => (i : Int)).length n from by rw [hly]]
  rw [show sl (some od) n n = sl (some od) ((ordL (ringD x) n).map fun i : Nat => (i : Int)).length n from by rw [hlx]]
  rw [show sl (some oe) n n = sl (some oe) ((ordL (ringD y) n).map fun i : Nat => (i : Int)).length n from by rw [hly]]
  have hva : Sv [arr (some oa) n 1 3 (eInt .i64) ((ordL (ringD x) n).map fun i : Nat => (i : Int))] (sl (some oa) ((ordL (ringD x) n).map fun i : Nat => (i : Int)).length n) 1 (eInt .i64) ((ordL (ringD x) n).map fun i : Nat => (i : Int)) ((some oa).map fun g => ⟨g, 0, none⟩) n := Sv_own' encZ (by intro h; first | rfl | cases h) (by first | exact Nat.le_refl _ | omega)
  have hvb : Sv [arr (some ob) n 1 3 (eInt .i64) ((ordL (ringD x) n).map fun i : Nat => (i : Int))] (sl (some ob) ((ordL (ringD x) n).map fun i : Nat => (i : Int)).length n) 1 (eInt .i64) ((ordL (ringD x) n).map fun i : Nat => (i : Int)) ((some ob).map fun g => ⟨g, 0, none⟩) n := Sv_own' encZ (by intro h; first | rfl | cases h) (by first | exact Nat.le_refl _ | omega)
  have hvc : Sv [arr (some oc) n 1 3 (eInt .i64) ((ordL (ringD y) n).map fun i : Nat => (i : Int))] (sl (some oc) ((ordL (ringD y) n).map fun i : Nat => (i : Int)).length n) 1 (eInt .i64) ((ordL (ringD y) n).map fun i : Nat => (i : Int)) ((some oc).map fun g => ⟨g, 0, none⟩) n := Sv_own' encZ (by intro h; first | rfl | cases h) (by first | exact Nat.le_refl _ | omega)
  have hvd : Sv [arr (some od) n 1 3 (eInt .i64) ((ordL (ringD x) n).map fun i : Nat => (i : Int))] (sl (some od) ((ordL (ringD x) n).map fun i : Nat => (i : Int)).length n) 1 (eInt .i64) ((ordL (ringD x) n).map fun i : Nat => (i : Int)) ((some od).map fun g => ⟨g, 0, none⟩) n := Sv_own' encZ (by intro h; first | rfl | cases h) (by first | exact Nat.le_refl _ | omega)
  have hve : Sv [arr (some oe) n 1 3 (eInt .i64) ((ordL (ringD y) n).map fun i : Nat => (i : Int))] (sl (some oe) ((ordL (ringD y) n).map fun i : Nat => (i : Int)).length n) 1 (eInt .i64) ((ordL (ringD y) n).map fun i : Nat => (i : Int)) ((some oe).map fun g => ⟨g, 0, none⟩) n := Sv_own' encZ (by intro h; first | rfl | cases h) (by first | exact Nat.le_refl _ | omega)
  refine WL_rd (Rd_move rfl) rfl rfl rfl ?_
  refine WL_rd (Rd_move rfl) rfl rfl rfl ?_
  refine WL_rd (Rd_eqlN (i := 0) (j := 0) rfl rfl) rfl rfl rfl ?_
  refine WL_rd (Rd_move rfl) rfl rfl rfl ?_
  refine WL_rd (Rd_move rfl) rfl rfl rfl ?_
  refine WL_rd (Rd_move rfl) rfl rfl rfl ?_
  refine WL_rd (Rd_eqlN (i := 0) (j := 0) rfl rfl) rfl rfl rfl ?_
  refine WL_rd (Rd_pickT rfl rfl) rfl rfl rfl ?_
  refine WL_rd (Rd_move rfl) rfl rfl rfl ?_
  refine WL_rd (Rd_move rfl) rfl rfl rfl ?_
  refine WL_rd (Rd_move rfl) rfl rfl rfl ?_
  refine WL_rd (Rd_eqlN (i := 2) (j := 2) rfl rfl) rfl rfl rfl ?_
  refine WL_rd (Rd_pickT rfl rfl) rfl rfl rfl ?_
  refine WL_rd (Rd_move rfl) rfl rfl rfl ?_
  refine WL_rd (Rd_move rfl) rfl rfl rfl ?_
  refine WL_rd (Rd_move rfl) rfl rfl rfl ?_
  refine WL_rd (Rd_eqlN (i := 0) (j := 0) rfl rfl) rfl rfl rfl ?_
  refine WL_rd (Rd_pickT rfl rfl) rfl rfl rfl ?_
  refine WL_rd (Rd_move rfl) rfl rfl rfl ?_
  refine WL_rd (Rd_move rfl) rfl rfl rfl ?_
  refine WL_rd (Rd_move rfl) rfl rfl rfl ?_
  refine WL_ac (Ac_call cf67 rfl (hs := Ct.un0 (Xs := [arr (some oa) n 1 3 (eInt .i64) ((ordL (ringD x) n).map fun i : Nat => (i : Int)), arr (some od) n 1 3 (eInt .i64) ((ordL (ringD x) n).map fun i : Nat => (i : Int))]) (sameI_ct (X := sep [arr (some oa) n 1 3 (eInt .i64) ((ordL (ringD x) n).map fun i : Nat => (i : Int)), arr (some od) n 1 3 (eInt .i64) ((ordL (ringD x) n).map fun i : Nat => (i : Int))]) (l := ((ordL (ringD x) n).map fun i : Nat => (i : Int))) (l' := ((ordL (ringD x) n).map fun i : Nat => (i : Int))) (hS := hva.pk (by repeat (first | with_reducible exact Has.here | with_reducible refine Has.there ?_))) (hS' := hvd.pk (by repeat (first | with_reducible exact Has.here | with_reducible refine Has.there ?_))) (hl := by first | omega | decide)))) rfl rfl rfl ?_
  rintro _ _ ⟨⟨⟩, rfl, hA⟩
  simp only [List.cons_append, List.nil_append] at hA
  replace hA := hA.symm
  subst hA
  rw [decide_eq_true (rfl : ((ordL (ringD x) n).map fun i : Nat => (i : Int)) = ((ordL (ringD x) n).map fun i : Nat => (i : Int)))]
  refine WL_rd (Rd_pickT rfl rfl) rfl rfl rfl ?_
  refine WL_rd (Rd_move rfl) rfl rfl rfl ?_
  refine WL_rd (Rd_move rfl) rfl rfl rfl ?_
  refine WL_rd (Rd_move rfl) rfl rfl rfl ?_
  refine WL_ac (Ac_call cf67 rfl (hs := Ct.un0 (Xs := [arr (some ob) n 1 3 (eInt .i64) ((ordL (ringD x) n).map fun i : Nat => (i : Int)), arr (some od) n 1 3 (eInt .i64) ((ordL (ringD x) n).map fun i : Nat => (i : Int))]) (sameI_ct (X := sep [arr (some ob) n 1 3 (eInt .i64) ((ordL (ringD x) n).map fun i : Nat => (i : Int)), arr (some od) n 1 3 (eInt .i64) ((ordL (ringD x) n).map fun i : Nat => (i : Int))]) (l := ((ordL (ringD x) n).map fun i : Nat => (i : Int))) (l' := ((ordL (ringD x) n).map fun i : Nat => (i : Int))) (hS := hvb.pk (by repeat (first | with_reducible exact Has.here | with_reducible refine Has.there ?_))) (hS' := hvd.pk (by repeat (first | with_reducible exact Has.here | with_reducible refine Has.there ?_))) (hl := by first | omega | decide)))) rfl rfl rfl ?_
  rintro _ _ ⟨⟨⟩, rfl, hA⟩
  simp only [List.cons_append, List.nil_append] at hA
  replace hA := hA.symm
  subst hA
  rw [decide_eq_true (rfl : ((ordL (ringD x) n).map fun i : Nat => (i : Int)) = ((ordL (ringD x) n).map fun i : Nat => (i : Int)))]
  refine WL_rd (Rd_pickT rfl rfl) rfl rfl rfl ?_
  refine WL_rd (Rd_move rfl) rfl rfl rfl ?_
  refine WL_rd (Rd_move rfl) rfl rfl rfl ?_
  refine WL_rd (Rd_move rfl) rfl rfl rfl ?_
  refine WL_ac (Ac_call cf67 rfl (hs := Ct.un0 (Xs := [arr (some oc) n 1 3 (eInt .i64) ((ordL (ringD y) n).map fun i : Nat => (i : Int)), arr (some oe) n 1 3 (eInt .i64) ((ordL (ringD y) n).map fun i : Nat => (i : Int))]) (sameI_ct (X := sep [arr (some oc) n 1 3 (eInt .i64) ((ordL (ringD y) n).map fun i : Nat => (i : Int)), arr (some oe) n 1 3 (eInt .i64) ((ordL (ringD y) n).map fun i : Nat => (i : Int))]) (l := ((ordL (ringD y) n).map fun i : Nat => (i : Int))) (l' := ((ordL (ringD y) n).map fun i : Nat => (i : Int))) (hS := hvc.pk (by repeat (first | with_reducible exact Has.here | with_reducible refine Has.there ?_))) (hS' := hve.pk (by repeat (first | with_reducible exact Has.here | with_reducible refine Has.there ?_))) (hl := by first | omega | decide)))) rfl rfl rfl ?_
  rintro _ _ ⟨⟨⟩, rfl, hA⟩
  simp only [List.cons_append, List.nil_append] at hA
  replace hA := hA.symm
  subst hA
  rw [decide_eq_true (rfl : ((ordL (ringD y) n).map fun i : Nat => (i : Int)) = ((ordL (ringD y) n).map fun i : Nat => (i : Int)))]
  refine WL_rd (Rd_pickT rfl rfl) rfl rfl rfl ?_
  refine WL_rd (Rd_move rfl) rfl rfl rfl ?_
  refine WL_rd (Rd_move rfl) rfl rfl rfl ?_
  refine WL_rd (Rd_move rfl) rfl rfl rfl ?_
  refine WL_rd (Rd_move rfl) rfl rfl rfl ?_
  refine WL_ac (Ac_bsL (f := ePI) (zs := [.slice none 0 0]) (bs := [.slice none 0 0, .slice none 0 0, .slice none 0 0]) [(⟨(some oa), n, ((ordL (ringD x) n).map fun i : Nat => (i : Int))⟩ : PI), ⟨(some ob), n, ((ordL (ringD x) n).map fun i : Nat => (i : Int))⟩, ⟨(some oc), n, ((ordL (ringD y) n).map fun i : Nat => (i : Int))⟩] encPI ud109 zr101 sz101 rfl (by rw [Array.toList_map, Array.toList_range]; rfl) (by rfl) (by rfl) (by rfl) (by rfl)) rfl rfl rfl ?_
  rintro _ _ ⟨b104, rfl, rfl⟩
  rw [show arr (some oa) n 1 3 (eInt .i64) ((ordL (ringD x) n).map fun i : Nat => (i : Int)) = FP 3 ⟨(some oa), n, ((ordL (ringD x) n).map fun i : Nat => (i : Int))⟩ from rfl]
  rw [show arr (some ob) n 1 3 (eInt .i64) ((ordL (ringD x) n).map fun i : Nat => (i : Int)) = FP 3 ⟨(some ob), n, ((ordL (ringD x) n).map fun i : Nat => (i : Int))⟩ from rfl]
  rw [show arr (some oc) n 1 3 (eInt .i64) ((ordL (ringD y) n).map fun i : Nat => (i : Int)) = FP 3 ⟨(some oc), n, ((ordL (ringD y) n).map fun i : Nat => (i : Int))⟩ from rfl]
  refine WL_imp (fun w h => sat_star3 (F := FP 3) (x := ⟨(some oa), n, ((ordL (ringD x) n).map fun i : Nat => (i : Int))⟩) (y := ⟨(some ob), n, ((ordL (ringD x) n).map fun i : Nat => (i : Int))⟩) (z := ⟨(some oc), n, ((ordL (ringD y) n).map fun i : Nat => (i : Int))⟩) (by repeat (first | with_reducible exact Ext.here | with_reducible apply Ext.there)) (by repeat (first | with_reducible exact Ext.here | with_reducible apply Ext.there)) (by repeat (first | with_reducible exact Ext.here | with_reducible apply Ext.there)) h) ?_
  have hAP : Sv [arr (some b104) 3 1 101 ePI [(⟨(some oa), n, ((ordL (ringD x) n).map fun i : Nat => (i : Int))⟩ : PI), ⟨(some ob), n, ((ordL (ringD x) n).map fun i : Nat => (i : Int))⟩, ⟨(some oc), n, ((ordL (ringD y) n).map fun i : Nat => (i : Int))⟩]] (sl (some b104) [(⟨(some oa), n, ((ordL (ringD x) n).map fun i : Nat => (i : Int))⟩ : PI), ⟨(some ob), n, ((ordL (ringD x) n).map fun i : Nat => (i : Int))⟩, ⟨(some oc), n, ((ordL (ringD y) n).map fun i : Nat => (i : Int))⟩].length 3) 1 ePI [(⟨(some oa), n, ((ordL (ringD x) n).map fun i : Nat => (i : Int))⟩ : PI), ⟨(some ob), n, ((ordL (ringD x) n).map fun i : Nat => (i : Int))⟩, ⟨(some oc), n, ((ordL (ringD y) n).map fun i : Nat => (i : Int))⟩] (some ⟨b104, 0, none⟩) 3 := Sv_own' (a := some b104) (cap := 3) (T := 101) encPI (l := [(⟨(some oa), n, ((ordL (ringD x) n).map fun i : Nat => (i : Int))⟩ : PI), ⟨(some ob), n, ((ordL (ringD x) n).map fun i : Nat => (i : Int))⟩, ⟨(some oc), n, ((ordL (ringD y) n).map fun i : Nat => (i : Int))⟩]) (by simp) (Nat.le_refl 3)
  refine WL_ac (Ac_call cf69 rfl (hs := apartI_ct (X := arr (some b104) 3 1 101 ePI [(⟨(some oa), n, ((ordL (ringD x) n).map fun i : Nat => (i : Int))⟩ : PI), ⟨(some ob), n, ((ordL (ringD x) n).map fun i : Nat => (i : Int))⟩, ⟨(some oc), n, ((ordL (ringD y) n).map fun i : Nat => (i : Int))⟩]) (ps := [(⟨(some oa), n, ((ordL (ringD x) n).map fun i : Nat => (i : Int))⟩ : PI), ⟨(some ob), n, ((ordL (ringD x) n).map fun i : Nat => (i : Int))⟩, ⟨(some oc), n, ((ordL (ringD y) n).map fun i : Nat => (i : Int))⟩]) (hS := hAP) (hn := by show 3 ≤ 1000000; decide) (hb := by intro p hp; simp only [List.mem_cons, List.not_mem_nil, or_false] at hp; rcases hp with rfl | rfl | rfl <;> first | omega | decide | (dsimp only; omega)))) rfl rfl rfl ?_
  rintro _ _ ⟨⟨⟩, rfl, hA⟩
  simp only [List.cons_append, List.nil_append] at hA
  replace hA := hA.symm
  subst hA
  refine WL_rd (Rd_pickT rfl rfl) rfl rfl rfl ?_
  refine WL_rd (Rd_assign rfl) rfl rfl rfl ?_
  refine WL_end hK9 ?_
  refine WC_ret ?_
  exact hret.go () (Rs1 rfl rfl)

theorem OrderBad_ct {x y : List B8} {n s : Int} (hx : x.length = 16 := by assumption) (hy : y.length = 16 := by assumption) (hb : n < 1 ∨ 32 < n) : Ct Try.prog 20 [aU .u8 x, aU .u8 y, .int .i64 n, .int .i64 s] [] (fun _ : Unit => .bool true) (fun _ => []) := by
  refine Ct_body (n := 107) Try.func20 rfl rfl rfl fun F w0 Q hret hnorm hp => ?_
  change WC _ _ _ _ _ _ _ (F)
  refine WC_imp (fun w h => sat_nil (e := 1) (T := 3) (f := eInt .i64) h) ?_
  refine WC_imp (fun w h => sat_nil (e := 1) (T := 3) (f := eInt .i64) h) ?_
  refine WC_imp (fun w h => sat_nil (e := 1) (T := 3) (f := eInt .i64) h) ?_
  refine WC_imp (fun w h => sat_nil (e := 1) (T := 3) (f := eInt .i64) h) ?_
  refine WC_imp (fun w h => sat_nil (e := 1) (T := 3) (f := eInt .i64) h) ?_
  refine WC_sr fun K1 hK1 => ?_
  refine WL_ac (Ac_boxW (k := .u8) rfl) rfl rfl rfl ?_
  rintro _ _ ⟨b4, rfl, rfl⟩
  refine WL_ac (Ac_boxW (k := .u8) rfl) rfl rfl rfl ?_
  rintro _ _ ⟨b5, rfl, rfl⟩
  refine WL_rd (Rd_assign rfl) rfl rfl rfl ?_
  refine WL_end hK1 ?_
  refine WC_sr fun K2 hK2 => ?_
  refine WL_rd (Rd_loadW rfl tk120) rfl rfl rfl ?_
  refine WL_rd (Rd_move rfl) rfl rfl rfl ?_
  refine WL_ac (Ac_call cf71 rfl (hs := orderN_ct (x := x) (n := n) (hb := hb))) rfl rfl rfl ?_
  rintro _ _ ⟨⟨⟩, rfl, hA⟩
  simp only [List.cons_append, List.nil_append] at hA
  replace hA := hA.symm
  subst hA
  refine WL_rd (Rd_move rfl) rfl rfl rfl ?_
  refine WL_rd (Rd_ext0 rfl) rfl rfl rfl ?_
  refine WL_rd (Rd_ext1 rfl) rfl rfl rfl ?_
  refine WL_rd (Rd_assign rfl) rfl rfl rfl ?_
  refine WL_rd (Rd_assign rfl) rfl rfl rfl ?_
  refine WL_end hK2 ?_
  refine WC_sr fun K3 hK3 => ?_
  refine WL_rd (Rd_loadW rfl tk120) rfl rfl rfl ?_
  refine WL_rd (Rd_move rfl) rfl rfl rfl ?_
  refine WL_ac (Ac_call cf71 rfl (hs := orderN_ct (x := x) (n := n) (hb := hb))) rfl rfl rfl ?_
  rintro _ _ ⟨⟨⟩, rfl, hA⟩
  simp only [List.cons_append, List.nil_append] at hA
  replace hA := hA.symm
  subst hA
  refine WL_rd (Rd_move rfl) rfl rfl rfl ?_
  refine WL_rd (Rd_ext0 rfl) rfl rfl rfl ?_
  refine WL_rd (Rd_ext1 rfl) rfl rfl rfl ?_
  refine WL_rd (Rd_assign rfl) rfl rfl rfl ?_
  refine WL_rd (Rd_assign rfl) rfl rfl rfl ?_
  refine WL_end hK3 ?_
  refine WC_sr fun K4 hK4 => ?_
  refine WL_rd (Rd_loadW rfl tk120) rfl rfl rfl ?_
  refine WL_rd (Rd_move rfl) rfl rfl rfl ?_
  refine WL_ac (Ac_call cf71 rfl (hs := orderN_ct (x := y) (n := n) (hb := hb))) rfl rfl rfl ?_
  rintro _ _ ⟨⟨⟩, rfl, hA⟩
  simp only [List.cons_append, List.nil_append] at hA
  replace hA := hA.symm
  subst hA
  refine WL_rd (Rd_move rfl) rfl rfl rfl ?_
  refine WL_rd (Rd_ext0 rfl) rfl rfl rfl ?_
  refine WL_rd (Rd_ext1 rfl) rfl rfl rfl ?_
  refine WL_rd (Rd_assign rfl) rfl rfl rfl ?_
  refine WL_rd (Rd_assign rfl) rfl rfl rfl ?_
  refine WL_end hK4 ?_
  refine WC_sr fun K5 hK5 => ?_
  refine WL_rd (Rd_loadW rfl tk120) rfl rfl rfl ?_
  refine WL_rd (Rd_move rfl) rfl rfl rfl ?_
  refine WL_ac (Ac_call cf72 rfl (hs := rOrderN_ct (x := x) (n := n) (hb := hb))) rfl rfl rfl ?_
  rintro _ _ ⟨⟨⟩, rfl, hA⟩
  simp only [List.cons_append, List.nil_append] at hA
  replace hA := hA.symm
  subst hA
  refine WL_rd (Rd_move rfl) rfl rfl rfl ?_
  refine WL_rd (Rd_ext0 rfl) rfl rfl rfl ?_
  refine WL_rd (Rd_ext1 rfl) rfl rfl rfl ?_
  refine WL_rd (Rd_assign rfl) rfl rfl rfl ?_
  refine WL_rd (Rd_assign rfl) rfl rfl rfl ?_
  refine WL_end hK5 ?_
  refine WC_sr fun K6 hK6 => ?_
  refine WL_rd (Rd_loadW rfl tk120) rfl rfl rfl ?_
  refine WL_rd (Rd_move rfl) rfl rfl rfl ?_
  refine WL_ac (Ac_call cf72 rfl (hs := rOrderN_ct (x := y) (n := n) (hb := hb))) rfl rfl rfl ?_
  rintro _ _ ⟨⟨⟩, rfl, hA⟩
  simp only [List.cons_append, List.nil_append] at hA
  replace hA := hA.symm
  subst hA
  refine WL_rd (Rd_move rfl) rfl rfl rfl ?_
  refine WL_rd (Rd_ext0 rfl) rfl rfl rfl ?_
  refine WL_rd (Rd_ext1 rfl) rfl rfl rfl ?_
  refine WL_rd (Rd_assign rfl) rfl rfl rfl ?_
  refine WL_rd (Rd_assign rfl) rfl rfl rfl ?_
  refine WL_end hK6 ?_
  refine WC_sr fun K7 hK7 => ?_
  refine WL_rd (Rd_loadW rfl tk120) rfl rfl rfl ?_
  refine WL_rd (Rd_move rfl) rfl rfl rfl ?_
  refine WL_rd (Rd_move rfl) rfl rfl rfl ?_
  refine WL_ac (Ac_call cf73 rfl (hs := rankA_ct (x := x) (n := n) (s := s) (hb := hb))) rfl rfl rfl ?_
  rintro _ _ ⟨⟨⟩, rfl, hA⟩
  simp only [List.cons_append, List.nil_append] at hA
  replace hA := hA.symm
  subst hA
  refine WL_rd (Rd_move rfl) rfl rfl rfl ?_
  refine WL_rd (Rd_ext0 rfl) rfl rfl rfl ?_
  refine WL_rd (Rd_ext1 rfl) rfl rfl rfl ?_
  refine WL_rd (Rd_assign rfl) rfl rfl rfl ?_
  refine WL_rd (Rd_assign rfl) rfl rfl rfl ?_
  refine WL_end hK7 ?_
  refine WC_sr fun K8 hK8 => ?_
  refine WL_rd (Rd_loadW rfl tk120) rfl rfl rfl ?_
  refine WL_rd (Rd_move rfl) rfl rfl rfl ?_
  refine WL_rd (Rd_move rfl) rfl rfl rfl ?_
  refine WL_ac (Ac_call cf74 rfl (hs := rRankA_ct (x := x) (n := n) (s := s) (hb := hb))) rfl rfl rfl ?_
  rintro _ _ ⟨⟨⟩, rfl, hA⟩
  simp only [List.cons_append, List.nil_append] at hA
  replace hA := hA.symm
  subst hA
  refine WL_rd (Rd_move rfl) rfl rfl rfl ?_
  refine WL_rd (Rd_ext0 rfl) rfl rfl rfl ?_
  refine WL_rd (Rd_ext1 rfl) rfl rfl rfl ?_
  refine WL_rd (Rd_assign rfl) rfl rfl rfl ?_
  refine WL_rd (Rd_assign rfl) rfl rfl rfl ?_
  refine WL_end hK8 ?_
  refine WC_sr fun K9 hK9 => ?_
  have hva : Sv [arr none 0 1 3 (eInt .i64) ([] : List Int)] (sl none ([] : List Int).length 0) 1 (eInt .i64) ([] : List Int) (none.map fun g => ⟨g, 0, none⟩) 0 := Sv_own' encZ (by intro h; first | rfl | cases h) (by first | exact Nat.le_refl _ | omega)
  have hvb : Sv [arr none 0 1 3 (eInt .i64) ([] : List Int)] (sl none ([] : List Int).length 0) 1 (eInt .i64) ([] : List Int) (none.map fun g => ⟨g, 0, none⟩) 0 := Sv_own' encZ (by intro h; first | rfl | cases h) (by first | exact Nat.le_refl _ | omega)
  have hvc : Sv [arr none 0 1 3 (eInt .i64) ([] : List Int)] (sl none ([] : List Int).length 0) 1 (eInt .i64) ([] : List Int) (none.map fun g => ⟨g, 0, none⟩) 0 := Sv_own' encZ (by intro h; first | rfl | cases h) (by first | exact Nat.le_refl _ | omega)
  have hvd : Sv [arr none 0 1 3 (eInt .i64) ([] : List Int)] (sl none ([] : List Int).length 0) 1 (eInt .i64) ([] : List Int) (none.map fun g => ⟨g, 0, none⟩) 0 := Sv_own' encZ (by intro h; first | rfl | cases h) (by first | exact Nat.le_refl _ | omega)
  have hve : Sv [arr none 0 1 3 (eInt .i64) ([] : List Int)] (sl none ([] : List Int).length 0) 1 (eInt .i64) ([] : List Int) (none.map fun g => ⟨g, 0, none⟩) 0 := Sv_own' encZ (by intro h; first | rfl | cases h) (by first | exact Nat.le_refl _ | omega)
  refine WL_rd (Rd_move rfl) rfl rfl rfl ?_
  refine WL_rd (Rd_move rfl) rfl rfl rfl ?_
  refine WL_rd (Rd_eqlN (i := 2) (j := 2) rfl rfl) rfl rfl rfl ?_
  refine WL_rd (Rd_move rfl) rfl rfl rfl ?_
  refine WL_rd (Rd_move rfl) rfl rfl rfl ?_
  refine WL_rd (Rd_move rfl) rfl rfl rfl ?_
  refine WL_rd (Rd_eqlN (i := 2) (j := 2) rfl rfl) rfl rfl rfl ?_
  refine WL_rd (Rd_pickT rfl rfl) rfl rfl rfl ?_
  refine WL_rd (Rd_move rfl) rfl rfl rfl ?_
  refine WL_rd (Rd_move rfl) rfl rfl rfl ?_
  refine WL_rd (Rd_move rfl) rfl rfl rfl ?_
  refine WL_rd (Rd_eqlN (i := 2) (j := 2) rfl rfl) rfl rfl rfl ?_
  refine WL_rd (Rd_pickT rfl rfl) rfl rfl rfl ?_
  refine WL_rd (Rd_move rfl) rfl rfl rfl ?_
  refine WL_rd (Rd_move rfl) rfl rfl rfl ?_
  refine WL_rd (Rd_move rfl) rfl rfl rfl ?_
  refine WL_rd (Rd_eqlN (i := 0) (j := 0) rfl rfl) rfl rfl rfl ?_
  refine WL_rd (Rd_pickT rfl rfl) rfl rfl rfl ?_
  refine WL_rd (Rd_move rfl) rfl rfl rfl ?_
  refine WL_rd (Rd_move rfl) rfl rfl rfl ?_
  refine WL_rd (Rd_move rfl) rfl rfl rfl ?_
  refine WL_ac (Ac_call cf67 rfl (hs := Ct.un0 (Xs := [arr none 0 1 3 (eInt .i64) ([] : List Int), arr none 0 1 3 (eInt .i64) ([] : List Int)]) (sameI_ct (X := sep [arr none 0 1 3 (eInt .i64) ([] : List Int), arr none 0 1 3 (eInt .i64) ([] : List Int)]) (l := ([] : List Int)) (l' := ([] : List Int)) (hS := hva.pk (by repeat (first | with_reducible exact Has.here | with_reducible refine Has.there ?_))) (hS' := hvd.pk (by repeat (first | with_reducible exact Has.here | with_reducible refine Has.there ?_))) (hl := by first | omega | decide)))) rfl rfl rfl ?_
  rintro _ _ ⟨⟨⟩, rfl, hA⟩
  simp only [List.cons_append, List.nil_append] at hA
  replace hA := hA.symm
  subst hA
  rw [decide_eq_true (rfl : ([] : List Int) = ([] : List Int))]
  refine WL_rd (Rd_pickT rfl rfl) rfl rfl rfl ?_
  refine WL_rd (Rd_move rfl) rfl rfl rfl ?_
  refine WL_rd (Rd_move rfl) rfl rfl rfl ?_
  refine WL_rd (Rd_move rfl) rfl rfl rfl ?_
  refine WL_ac (Ac_call cf67 rfl (hs := Ct.un0 (Xs := [arr none 0 1 3 (eInt .i64) ([] : List Int), arr none 0 1 3 (eInt .i64) ([] : List Int)]) (sameI_ct (X := sep [arr none 0 1 3 (eInt .i64) ([] : List Int), arr none 0 1 3 (eInt .i64) ([] : List Int)]) (l := ([] : List Int)) (l' := ([] : List Int)) (hS := hvb.pk (by repeat (first | with_reducible exact Has.here | with_reducible refine Has.there ?_))) (hS' := hvd.pk (by repeat (first | with_reducible exact Has.here | with_reducible refine Has.there ?_))) (hl := by first | omega | decide)))) rfl rfl rfl ?_
  rintro _ _ ⟨⟨⟩, rfl, hA⟩
  simp only [List.cons_append, List.nil_append] at hA
  replace hA := hA.symm
  subst hA
  rw [decide_eq_true (rfl : ([] : List Int) = ([] : List Int))]
  refine WL_rd (Rd_pickT rfl rfl) rfl rfl rfl ?_
  refine WL_rd (Rd_move rfl) rfl rfl rfl ?_
  refine WL_rd (Rd_move rfl) rfl rfl rfl ?_
  refine WL_rd (Rd_move rfl) rfl rfl rfl ?_
  refine WL_ac (Ac_call cf67 rfl (hs := Ct.un0 (Xs := [arr none 0 1 3 (eInt .i64) ([] : List Int), arr none 0 1 3 (eInt .i64) ([] : List Int)]) (sameI_ct (X := sep [arr none 0 1 3 (eInt .i64) ([] : List Int), arr none 0 1 3 (eInt .i64) ([] : List Int)]) (l := ([] : List Int)) (l' := ([] : List Int)) (hS := hvc.pk (by repeat (first | with_reducible exact Has.here | with_reducible refine Has.there ?_))) (hS' := hve.pk (by repeat (first | with_reducible exact Has.here | with_reducible refine Has.there ?_))) (hl := by first | omega | decide)))) rfl rfl rfl ?_
  rintro _ _ ⟨⟨⟩, rfl, hA⟩
  simp only [List.cons_append, List.nil_append] at hA
  replace hA := hA.symm
  subst hA
  rw [decide_eq_true (rfl : ([] : List Int) = ([] : List Int))]
  refine WL_rd (Rd_pickT rfl rfl) rfl rfl rfl ?_
  refine WL_rd (Rd_move rfl) rfl rfl rfl ?_
  refine WL_rd (Rd_move rfl) rfl rfl rfl ?_
  refine WL_rd (Rd_move rfl) rfl rfl rfl ?_
  refine WL_rd (Rd_move rfl) rfl rfl rfl ?_
  refine WL_ac (Ac_bsL (f := ePI) (zs := [.slice none 0 0]) (bs := [.slice none 0 0, .slice none 0 0, .slice none 0 0]) [(⟨none, 0, ([] : List Int)⟩ : PI), ⟨none, 0, ([] : List Int)⟩, ⟨none, 0, ([] : List Int)⟩] encPI ud109 zr101 sz101 rfl (by rw [Array.toList_map, Array.toList_range]; rfl) (by rfl) (by rfl) (by rfl) (by rfl)) rfl rfl rfl ?_
  rintro _ _ ⟨b104, rfl, rfl⟩
  rw [show arr none 0 1 3 (eInt .i64) ([] : List Int) = FP 3 ⟨none, 0, ([] : List Int)⟩ from rfl]
  refine WL_imp (fun w h => sat_star3 (F := FP 3) (x := ⟨none, 0, ([] : List Int)⟩) (y := ⟨none, 0, ([] : List Int)⟩) (z := ⟨none, 0, ([] : List Int)⟩) (by repeat (first | with_reducible exact Ext.here | with_reducible apply Ext.there)) (by repeat (first | with_reducible exact Ext.here | with_reducible apply Ext.there)) (by repeat (first | with_reducible exact Ext.here | with_reducible apply Ext.there)) h) ?_
  have hAP : Sv [arr (some b104) 3 1 101 ePI [(⟨none, 0, ([] : List Int)⟩ : PI), ⟨none, 0, ([] : List Int)⟩, ⟨none, 0, ([] : List Int)⟩]] (sl (some b104) [(⟨none, 0, ([] : List Int)⟩ : PI), ⟨none, 0, ([] : List Int)⟩, ⟨none, 0, ([] : List Int)⟩].length 3) 1 ePI [(⟨none, 0, ([] : List Int)⟩ : PI), ⟨none, 0, ([] : List Int)⟩, ⟨none, 0, ([] : List Int)⟩] (some ⟨b104, 0, none⟩) 3 := Sv_own' (a := some b104) (cap := 3) (T := 101) encPI (l := [(⟨none, 0, ([] : List Int)⟩ : PI), ⟨none, 0, ([] : List Int)⟩, ⟨none, 0, ([] : List Int)⟩]) (by simp) (Nat.le_refl 3)
  refine WL_ac (Ac_call cf69 rfl (hs := apartI_ct (X := arr (some b104) 3 1 101 ePI [(⟨none, 0, ([] : List Int)⟩ : PI), ⟨none, 0, ([] : List Int)⟩, ⟨none, 0, ([] : List Int)⟩]) (ps := [(⟨none, 0, ([] : List Int)⟩ : PI), ⟨none, 0, ([] : List Int)⟩, ⟨none, 0, ([] : List Int)⟩]) (hS := hAP) (hn := by show 3 ≤ 1000000; decide) (hb := by intro p hp; simp only [List.mem_cons, List.not_mem_nil, or_false] at hp; rcases hp with rfl | rfl | rfl <;> first | omega | decide | (dsimp only; omega)))) rfl rfl rfl ?_
  rintro _ _ ⟨⟨⟩, rfl, hA⟩
  simp only [List.cons_append, List.nil_append] at hA
  replace hA := hA.symm
  subst hA
  refine WL_rd (Rd_pickT rfl rfl) rfl rfl rfl ?_
  refine WL_rd (Rd_assign rfl) rfl rfl rfl ?_
  refine WL_end hK9 ?_
  refine WC_ret ?_
  exact hret.go () (Rs1 rfl rfl)

theorem OrderAll_ct {x y : List B8} {n s : Int} (hx : x.length = 16) (hy : y.length = 16) : Ct Try.prog 20 [aU .u8 x, aU .u8 y, .int .i64 n, .int .i64 s] [] (fun _ : Unit => .bool true) (fun _ => []) := by
  by_cases h : 1 ≤ n ∧ n ≤ 32
  · obtain ⟨m, rfl⟩ := Int.eq_ofNat_of_zero_le (show 0 ≤ n by omega)
    by_cases hs : 0 ≤ s ∧ s < m
    · obtain ⟨t, rfl⟩ := Int.eq_ofNat_of_zero_le (show 0 ≤ s by omega)
      exact OrderOk_ct (h1 := by omega) (h2 := by omega) (hs := by omega)
    · exact OrderOkB_ct (h1 := by omega) (h2 := by omega) (hs := by omega)
  · exact OrderBad_ct (hb := by omega)
end Go.Proofs.Ythkchjcodibaeaa
