/-
  Contracts of functions that the claim reaches, or the logic and the plain laws that they rest on, or the row over them. (Conditions: none beyond the statement.)
-/
import Derived.Test.YthkchjcodibaeaaZqTcF
import Derived.Test.YthkchjcodibaeaaLibR
set_option linter.all false
namespace Go.Proofs.Ythkchjcodibaeaa
open Go.RowKit Go.SL Go.ShM
set_option maxHeartbeats 1000000
set_option maxRecDepth 20000
set_option linter.all false
theorem cf115 : cfn Try.prog 115 = true := by kernel_rfl
theorem cf116 : cfn Try.prog 116 = true := by kernel_rfl
theorem cf118 : cfn Try.prog 118 = true := by kernel_rfl
theorem cf119 : cfn Try.prog 119 = true := by kernel_rfl
theorem cf120 : cfn Try.prog 120 = true := by kernel_rfl
theorem cf121 : cfn Try.prog 121 = true := by kernel_rfl
theorem cf123 : cfn Try.prog 123 = true := by kernel_rfl
theorem cf124 : cfn Try.prog 124 = true := by kernel_rfl
theorem fo111_0 : fo Try.prog 111 0 = some (0, 108) := by kernel_rfl
theorem fo111_1 : fo Try.prog 111 1 = some (1, 108) := by kernel_rfl
theorem fo111_2 : fo Try.prog 111 2 = some (2, 109) := by kernel_rfl
theorem fo111_3 : fo Try.prog 111 3 = some (3, 109) := by kernel_rfl
theorem fo115_0 : fo Try.prog 115 0 = some (0, 3) := by kernel_rfl
theorem fo115_4 : fo Try.prog 115 4 = some (4, 76) := by kernel_rfl
theorem fo115_5 : fo Try.prog 115 5 = some (5, 76) := by kernel_rfl
theorem sz108 : sz Try.prog 108 = some 1 := by kernel_rfl
theorem sz109 : sz Try.prog 109 = some 1 := by kernel_rfl
theorem tk108 : tk Try.prog 108 = some none := by kernel_rfl
theorem tk109 : tk Try.prog 109 = some none := by kernel_rfl
theorem tk115 : tk Try.prog 115 = some (some 6) := by kernel_rfl
theorem ask_ct {W : World} {kb n : Nat} {s : BKs} {q : TQ} (hB : BK s n := by assumption) (hq : OKt W 1048576 q := by assumption) (hnn : n ≤ 10000000 := by omega) : Ct Try.prog 66 [.pointer (some ⟨kb, 0, none⟩), .agg (eTQ q).toArray] [cl kb 111 [sl s.pa s.ps.length s.pc, sl s.wa s.ws.length s.wc, sl s.ia s.is.length s.ic, sl s.ma s.ms.length s.mc], star (FPD 42) s.ps, arr s.pa s.pc 1 76 ePD s.ps, star (FPD 42) s.ws, arr s.wa s.wc 1 76 ePD s.ws, star (FP 3) s.is, arr s.ia s.ic 1 101 ePI s.is, star (FP 3) s.ms, arr s.ma s.mc 1 101 ePI s.ms, old W] (fun g : {g : BKs // BK g (n + 1)} => .bool true) (fun g => [cl kb 111 [sl g.val.pa g.val.ps.length g.val.pc, sl g.val.wa g.val.ws.length g.val.wc, sl g.val.ia g.val.is.length g.val.ic, sl g.val.ma g.val.ms.length g.val.mc], star (FPD 42) g.val.ps, arr g.val.pa g.val.pc 1 76 ePD g.val.ps, star (FPD 42) g.val.ws, arr g.val.wa g.val.wc 1 76 ePD g.val.ws, star (FP 3) g.val.is, arr g.val.ia g.val.ic 1 101 ePI g.val.is, star (FP 3) g.val.ms, arr g.val.ma g.val.mc 1 101 ePI g.val.ms, old W]) := by
  refine Ct_body (n := 315) Try.func66 rfl rfl rfl fun F w0 Q hret hnorm hp => ?_
  change WC _ _ _ _ _ _ _ (_ :: _ :: _ :: _ :: _ :: _ :: _ :: _ :: _ :: _ :: F)
  obtain ⟨⟨hqA, hqAn⟩, hqB, hqBn⟩ := hq
  have hwD := hB.lenD
  have hwI := hB.lenI
  have hAl := lentD_len q.A.l
  have hBl := lentD_len q.B.l
  have hbl := bld_le q.A.l
  have hlvl := lv_le q.n.toNat q.A.l
  have hrm := Dg_len (rootM q.A.l)
  have hcm := Dg_len (clD q.n q.leaf (q.B.l.getD 0 zD) q.A.l)
  have hdb := Dg_len (q.B.l.getD 0 zD)
  have hz32 : (List.replicate 32 0#8).length = 32 := rfl
  have hzl : (zL (chL (ndM q.n q.leaf))).length ≤ 1024 := by rw [zL_len]; exact Nat.le_trans (chL_lenle _) (nd_le _ _)
  have hlD := hB.lD
  have hlI := hB.lI
  refine WC_sr fun K1 hK1 => ?_
  refine WL_ac (Ac_box (xs := eTQ q) rfl rfl) rfl rfl rfl ?_
  rintro _ _ ⟨b3, rfl, rfl⟩
  refine WL_rd (Rd_assign rfl) rfl rfl rfl ?_
  refine WL_end hK1 ?_
  refine WC_sr fun K2 hK2 => ?_
  refine WL_rd (Rd_fieldAddr rfl fo115_4) rfl rfl rfl ?_
  refine WL_rd (Rd_load rfl tk76 (v := q.A.v)) rfl rfl rfl ?_
  refine WL_ac (Ac_call cf114 rfl (hs := lentD_ct (X := old W) (l := q.A.l) (hS := hqA))) rfl rfl rfl ?_
  rintro _ _ ⟨⟨a42, cap42⟩, rfl, hA⟩
  simp only [List.cons_append, List.nil_append] at hA
  replace hA := hA.symm
  subst hA
  refine WL_fact (fun w h => arr_facts (a := a42) (cap := cap42) (e := 32) (T := 42) (f := fD) (l := (lentD q.A.l)) (by repeat (first | with_reducible exact Has.here | with_reducible refine Has.there ?_)) h) (fun hA1f => ?_)
  have hA1c := hA1f.2
  have hA1 : Sv [arr a42 cap42 32 42 fD (lentD q.A.l)] (sl a42 (lentD q.A.l).length cap42) 32 fD (lentD q.A.l) (a42.map fun g => ⟨g, 0, none⟩) cap42 := Sv_own' encD hA1f.1 hA1f.2
  have hA1s : Sv [arr a42 cap42 32 42 fD (lentD q.A.l)] (sl a42 q.A.l.length cap42) 32 fD q.A.l (a42.map fun g => ⟨g, 0, none⟩) cap42 := Sv_pre encD (List.prefix_append _ _) hA1f.1 hA1f.2
  refine WL_rd (Rd_assign rfl) rfl rfl rfl ?_
  refine WL_end hK2 ?_
  refine WC_sr fun K3 hK3 => ?_
  refine WL_rd (Rd_fieldAddr rfl fo115_5) rfl rfl rfl ?_
  refine WL_rd (Rd_load rfl tk76 (v := q.B.v)) rfl rfl rfl ?_
  refine WL_ac (Ac_call cf114 rfl (hs := lentD_ct (X := old W) (l := q.B.l) (hS := hqB))) rfl rfl rfl ?_
  rintro _ _ ⟨⟨a45, cap45⟩, rfl, hA⟩
  simp only [List.cons_append, List.nil_append] at hA
  replace hA := hA.symm
  subst hA
  refine WL_fact (fun w h => arr_facts (a := a45) (cap := cap45) (e := 32) (T := 42) (f := fD) (l := (lentD q.B.l)) (by repeat (first | with_reducible exact Has.here | with_reducible refine Has.there ?_)) h) (fun hB1f => ?_)
  have hB1c := hB1f.2
  have hB1 : Sv [arr a45 cap45 32 42 fD (lentD q.B.l)] (sl a45 (lentD q.B.l).length cap45) 32 fD (lentD q.B.l) (a45.map fun g => ⟨g, 0, none⟩) cap45 := Sv_own' encD hB1f.1 hB1f.2
  have hB1s : Sv [arr a45 cap45 32 42 fD (lentD q.B.l)] (sl a45 q.B.l.length cap45) 32 fD q.B.l (a45.map fun g => ⟨g, 0, none⟩) cap45 := Sv_pre encD (List.prefix_append _ _) hB1f.1 hB1f.2
  refine WL_rd (Rd_assign rfl) rfl rfl rfl ?_
  refine WL_end hK3 ?_
  refine WC_sr fun K4 hK4 => ?_
  refine WL_rd (Rd_move rfl) rfl rfl rfl ?_
  refine WL_rd (Rd_fieldAddr rfl fo115_4) rfl rfl rfl ?_
  refine WL_rd (Rd_load rfl tk76 (v := q.A.v)) rfl rfl rfl ?_
  refine WL_rd (Rd_len_sv rfl rfl ud76 (hA := hqA)) rfl rfl rfl ?_
  refine WL_rd (Rd_slice_hi q.A.l.length rfl rfl ud76 sz42 (hi := by omega)) rfl rfl rfl ?_
  refine WL_rd (Rd_assign rfl) rfl rfl rfl ?_
  refine WL_end hK4 ?_
  refine WC_sr fun K5 hK5 => ?_
  refine WL_rd (Rd_assign rfl) rfl rfl rfl ?_
  refine WL_end hK5 ?_
  refine WC_seq fun K6 hK6 => ?_
  refine WC_sr fun K7 hK7 => ?_
  refine WL_rd (Rd_fieldAddr rfl fo115_0) rfl rfl rfl ?_
  refine WL_rd (Rd_load rfl tk3 (v := .int .i64 q.call)) rfl rfl rfl ?_
  refine WL_end hK7 ?_
  refine WC_block ?_
  refine WC_sr fun K8 hK8 => ?_
  refine WL_rd (Rd_eql rfl rfl) rfl rfl rfl ?_
  refine WL_rd (Rd_assign rfl) rfl rfl rfl ?_
  refine WL_end hK8 ?_
  refine WC_cond rfl (fun hc0 => ?_) (fun hc0 => ?_)
  · try simp only [decide_eq_true_eq, decide_eq_false_iff_not, Bool.not_eq_true', Bool.not_eq_false', Bool.not_eq_true, Bool.not_eq_false, Int.not_lt, Int.not_le, Nat.not_lt, Nat.not_le, Decidable.not_not, ne_eq] at hc0
    refine WC_sr fun K9 hK9 => ?_
    refine WL_rd (Rd_move rfl) rfl rfl rfl ?_
    refine WL_ac (Ac_call cf54 rfl (hs := build_ct (X := arr a42 cap42 32 42 fD (lentD q.A.l)) (ls := q.A.l) (hS := hA1s))) rfl rfl rfl ?_
    rintro _ _ ⟨⟨a85, cap85⟩, rfl, hA⟩
    simp only [List.cons_append, List.nil_append] at hA
    replace hA := hA.symm
    subst hA
    refine WL_fact (fun w h => arr_facts (a := a85) (cap := cap85) (e := 32) (T := 42) (f := fD) (l := (bldM q.A.l)) (by repeat (first | with_reducible exact Has.here | with_reducible refine Has.there ?_)) h) (fun h85 => ?_)
    refine WL_rd (Rd_move rfl) rfl rfl rfl ?_
    refine WL_rd (Rd_ext0 rfl) rfl rfl rfl ?_
    refine WL_rd (Rd_ext1 rfl) rfl rfl rfl ?_
    refine WL_rd (Rd_assign rfl) rfl rfl rfl ?_
    refine WL_rd (Rd_assign rfl) rfl rfl rfl ?_
    refine WL_end hK9 ?_
    refine WC_sr fun K10 hK10 => ?_
    refine WL_rd (Rd_move rfl) rfl rfl rfl ?_
    refine WL_ac (Ac_call cf63 rfl (hs := root_ct_ (X := arr a42 cap42 32 42 fD (lentD q.A.l)) (ls := q.A.l) (hS := hA1s))) rfl rfl rfl ?_
    rintro _ _ ⟨⟨⟩, rfl, hA⟩
    simp only [List.cons_append, List.nil_append] at hA
    replace hA := hA.symm
    subst hA
    refine WL_rd (Rd_move rfl) rfl rfl rfl ?_
    refine WL_rd (Rd_ext0 rfl) rfl rfl rfl ?_
    refine WL_rd (Rd_ext1 rfl) rfl rfl rfl ?_
    refine WL_ac (Ac_allocW (k := .u8) (w := 8) (m := 32) zr42) rfl rfl rfl ?_
    rintro _ _ ⟨b11, rfl, rfl⟩
    refine WL_ac0 (Ac_storeW rfl rfl sz42) rfl rfl ?_
    rintro _ _ rfl
    refine WL_rd (Rd_assign rfl) rfl rfl rfl ?_
    refine WL_end hK10 ?_
    refine WC_sr fun K11 hK11 => ?_
    refine WL_rd (Rd_fieldAddr rfl fo115_4) rfl rfl rfl ?_
    refine WL_rd (Rd_load rfl tk76 (v := q.A.v)) rfl rfl rfl ?_
    refine WL_ac (Ac_call cf115 rfl (hs := rBuild_ct (X := old W) (ls := q.A.l) (hS := hqA))) rfl rfl rfl ?_
    rintro _ _ ⟨⟨a96, cap96⟩, rfl, hA⟩
    simp only [List.cons_append, List.nil_append] at hA
    replace hA := hA.symm
    subst hA
    refine WL_fact (fun w h => arr_facts (a := a96) (cap := cap96) (e := 32) (T := 42) (f := fD) (l := (bldM q.A.l)) (by repeat (first | with_reducible exact Has.here | with_reducible refine Has.there ?_)) h) (fun h96 => ?_)
    refine WL_rd (Rd_move rfl) rfl rfl rfl ?_
    refine WL_rd (Rd_ext0 rfl) rfl rfl rfl ?_
    refine WL_rd (Rd_ext1 rfl) rfl rfl rfl ?_
    refine WL_rd (Rd_assign rfl) rfl rfl rfl ?_
    refine WL_rd (Rd_assign rfl) rfl rfl rfl ?_
    refine WL_end hK11 ?_
    refine WC_sr fun K12 hK12 => ?_
    refine WL_rd (Rd_fieldAddr rfl fo115_4) rfl rfl rfl ?_
    refine WL_rd (Rd_load rfl tk76 (v := q.A.v)) rfl rfl rfl ?_
    refine WL_ac (Ac_call cf116 rfl (hs := rRoot_ct (X := old W) (ls := q.A.l) (hS := hqA))) rfl rfl rfl ?_
    rintro _ _ ⟨⟨⟩, rfl, hA⟩
    simp only [List.cons_append, List.nil_append] at hA
    replace hA := hA.symm
    subst hA
    refine WL_rd (Rd_move rfl) rfl rfl rfl ?_
    refine WL_rd (Rd_ext0 rfl) rfl rfl rfl ?_
    refine WL_rd (Rd_ext1 rfl) rfl rfl rfl ?_
    refine WL_ac (Ac_allocW (k := .u8) (w := 8) (m := 32) zr42) rfl rfl rfl ?_
    rintro _ _ ⟨b15, rfl, rfl⟩
    refine WL_ac0 (Ac_storeW rfl rfl sz42) rfl rfl ?_
    rintro _ _ rfl
    refine WL_rd (Rd_assign rfl) rfl rfl rfl ?_
    refine WL_end hK12 ?_
    refine WC_sr fun K13 hK13 => ?_
    refine WL_rd (Rd_move rfl) rfl rfl rfl ?_
    refine WL_rd (Rd_move rfl) rfl rfl rfl ?_
    refine WL_rd (Rd_nilCheck rfl) rfl rfl rfl ?_
    refine WL_rd (Rd_fieldAddr rfl fo111_0) rfl rfl rfl ?_
    refine WL_rd (Rd_load rfl tk108 (v := sl s.pa s.ps.length s.pc)) rfl rfl rfl ?_
    refine WL_rd (Rd_move rfl) rfl rfl rfl ?_
    refine WL_ac (Ac_bs1 (xs := [sl a85 (bldM q.A.l).length cap85]) rfl ud108 zr76 sz76) rfl rfl rfl ?_
    rintro _ _ ⟨b111, rfl, rfl⟩
    refine WL_ac (Ac_append1 (f := ePD) encPD (⟨a85, cap85, (bldM q.A.l)⟩ : PD) rfl rfl ud108 ud108 el76) rfl rfl rfl ?_
    rintro _ _ ⟨a112, cap112, rfl, rfl⟩
    rw [show s.ps.length + 1 = (s.ps ++ [(⟨a85, cap85, (bldM q.A.l)⟩ : PD)]).length from by simp]
    rw [show arr a85 cap85 32 42 fD (bldM q.A.l) = (FPD 42) (⟨a85, cap85, (bldM q.A.l)⟩ : PD) from rfl]
    refine WL_snoc (FPD 42) s.ps (⟨a85, cap85, (bldM q.A.l)⟩ : PD) ?_
    refine WL_rd (Rd_nilCheck rfl) rfl rfl rfl ?_
    refine WL_rd (Rd_fieldAddr rfl fo111_0) rfl rfl rfl ?_
    refine WL_ac0 (Ac_store1 rfl rfl sz108) rfl rfl ?_
    rintro _ _ rfl
    refine WL_end hK13 ?_
    refine WC_sr fun K14 hK14 => ?_
    refine WL_rd (Rd_move rfl) rfl rfl rfl ?_
    refine WL_rd (Rd_move rfl) rfl rfl rfl ?_
    refine WL_rd (Rd_nilCheck rfl) rfl rfl rfl ?_
    refine WL_rd (Rd_fieldAddr rfl fo111_1) rfl rfl rfl ?_
    refine WL_rd (Rd_load rfl tk108 (v := sl s.wa s.ws.length s.wc)) rfl rfl rfl ?_
    refine WL_rd (Rd_move rfl) rfl rfl rfl ?_
    refine WL_ac (Ac_bs1 (xs := [sl a96 (bldM q.A.l).length cap96]) rfl ud108 zr76 sz76) rfl rfl rfl ?_
    rintro _ _ ⟨b121, rfl, rfl⟩
    refine WL_ac (Ac_append1 (f := ePD) encPD (⟨a96, cap96, (bldM q.A.l)⟩ : PD) rfl rfl ud108 ud108 el76) rfl rfl rfl ?_
    rintro _ _ ⟨a122, cap122, rfl, rfl⟩
    rw [show s.ws.length + 1 = (s.ws ++ [(⟨a96, cap96, (bldM q.A.l)⟩ : PD)]).length from by simp]
    rw [show arr a96 cap96 32 42 fD (bldM q.A.l) = (FPD 42) (⟨a96, cap96, (bldM q.A.l)⟩ : PD) from rfl]
    refine WL_snoc (FPD 42) s.ws (⟨a96, cap96, (bldM q.A.l)⟩ : PD) ?_
    refine WL_rd (Rd_nilCheck rfl) rfl rfl rfl ?_
    refine WL_rd (Rd_fieldAddr rfl fo111_1) rfl rfl rfl ?_
    refine WL_ac0 (Ac_store1 rfl rfl sz108) rfl rfl ?_
    rintro _ _ rfl
    refine WL_end hK14 ?_
    refine WC_region ?_
    refine WL_rd (Rd_move rfl) rfl rfl rfl ?_
    refine WL_rd (Rd_move rfl) rfl rfl rfl ?_
    refine WL_rd (Rd_isT (Rd_eqlN rfl rfl)) rfl rfl rfl ?_
    refine WL_rd (Rd_move rfl) rfl rfl rfl ?_
    refine WL_rd (Rd_move rfl) rfl rfl rfl ?_
    refine WL_rd (Rd_move rfl) rfl rfl rfl ?_
    refine WL_rd (Rd_isT (Rd_eqlN rfl rfl)) rfl rfl rfl ?_
    refine WL_rd (Rd_pickT rfl rfl) rfl rfl rfl ?_
    refine WL_rd (Rd_move rfl) rfl rfl rfl ?_
    refine WL_rd (Rd_loadW rfl tk42) rfl rfl rfl ?_
    refine WL_rd (Rd_loadW rfl tk42) rfl rfl rfl ?_
    refine WL_rd (Rd_isT (Rd_eqW rfl rfl ais42) (by simp)) rfl rfl rfl ?_
    refine WL_rd (Rd_pickT rfl rfl) rfl rfl rfl ?_
    refine WL_rd (Rd_assign rfl) rfl rfl rfl ?_
    refine WL_nil ?_
    refine Ps_next hK6 ?_
    refine WC_sr fun K15 hK15 => ?_
    refine WL_rd (Rd_move rfl) rfl rfl rfl ?_
    refine WL_rd (Rd_fieldAddr rfl fo115_4) rfl rfl rfl ?_
    refine WL_rd (Rd_load rfl tk76 (v := q.A.v)) rfl rfl rfl ?_
    refine WL_ac (Ac_call cf123 rfl (hs := Ct.un0 (Xs := [arr a42 cap42 32 42 fD (lentD q.A.l), old W]) (keptD_ct (X := sep [arr a42 cap42 32 42 fD (lentD q.A.l), old W]) (l := (lentD q.A.l)) (l' := q.A.l) (hS := hA1.pk (by repeat (first | with_reducible exact Has.here | with_reducible refine Has.there ?_))) (hS' := hqA.pk (by repeat (first | with_reducible exact Has.here | with_reducible refine Has.there ?_)))))) rfl rfl rfl ?_
    rintro _ _ ⟨⟨⟩, rfl, hA⟩
    simp only [List.cons_append, List.nil_append] at hA
    replace hA := hA.symm
    subst hA
    rw [decide_eq_true (rfl : (lentD q.A.l) = (lentD q.A.l))]
    refine WL_rd (Rd_move rfl) rfl rfl rfl ?_
    refine WL_rd (Rd_move rfl) rfl rfl rfl ?_
    refine WL_rd (Rd_fieldAddr rfl fo115_5) rfl rfl rfl ?_
    refine WL_rd (Rd_load rfl tk76 (v := q.B.v)) rfl rfl rfl ?_
    refine WL_ac (Ac_call cf123 rfl (hs := Ct.un0 (Xs := [arr a45 cap45 32 42 fD (lentD q.B.l), old W]) (keptD_ct (X := sep [arr a45 cap45 32 42 fD (lentD q.B.l), old W]) (l := (lentD q.B.l)) (l' := q.B.l) (hS := hB1.pk (by repeat (first | with_reducible exact Has.here | with_reducible refine Has.there ?_))) (hS' := hqB.pk (by repeat (first | with_reducible exact Has.here | with_reducible refine Has.there ?_)))))) rfl rfl rfl ?_
    rintro _ _ ⟨⟨⟩, rfl, hA⟩
    simp only [List.cons_append, List.nil_append] at hA
    replace hA := hA.symm
    subst hA
    rw [decide_eq_true (rfl : (lentD q.B.l) = (lentD q.B.l))]
    refine WL_rd (Rd_pickT rfl rfl) rfl rfl rfl ?_
    refine WL_rd (Rd_assign rfl) rfl rfl rfl ?_
    refine WL_end hK15 ?_
    refine WC_sr fun K16 hK16 => ?_
    refine WL_rd (Rd_move rfl) rfl rfl rfl ?_
    refine WL_ac (Ac_call cf124 rfl (hs := overD_ct (l := (lentD q.A.l)) (a := a42) (cap := cap42))) rfl rfl rfl ?_
    rintro _ _ ⟨⟨⟩, rfl, hA⟩
    simp only [List.cons_append, List.nil_append] at hA
    replace hA := hA.symm
    subst hA
    refine WL_end hK16 ?_
    refine WC_sr fun K17 hK17 => ?_
    refine WL_rd (Rd_move rfl) rfl rfl rfl ?_
    refine WL_ac (Ac_call cf124 rfl (hs := overD_ct (l := (lentD q.B.l)) (a := a45) (cap := cap45))) rfl rfl rfl ?_
    rintro _ _ ⟨⟨⟩, rfl, hA⟩
    simp only [List.cons_append, List.nil_append] at hA
    replace hA := hA.symm
    subst hA
    refine WL_end hK17 ?_
    refine WC_sr fun K18 hK18 => ?_
    refine WL_rd (Rd_move rfl) rfl rfl rfl ?_
    refine WL_rd (Rd_move rfl) rfl rfl rfl ?_
    refine WL_rd (Rd_move rfl) rfl rfl rfl ?_
    refine WL_rd (Rd_pickT rfl rfl) rfl rfl rfl ?_
    refine WL_rd (Rd_assign rfl) rfl rfl rfl ?_
    refine WL_end hK18 ?_
    refine WC_ret ?_
    exact hret.goE ⟨(⟨s.ps ++ [(⟨a85, cap85, (bldM q.A.l)⟩ : PD)], a112, cap112, s.ws ++ [(⟨a96, cap96, (bldM q.A.l)⟩ : PD)], a122, cap122, s.is, s.ia, s.ic, s.ms, s.ma, s.mc⟩ : BKs), hB.putD rfl h85.1 h85.2 (by (try dsimp only); omega) h96.1 h96.2⟩ (Rs1 rfl rfl) rfl
  · try simp only [decide_eq_true_eq, decide_eq_false_iff_not, Bool.not_eq_true', Bool.not_eq_false', Bool.not_eq_true, Bool.not_eq_false, Int.not_lt, Int.not_le, Nat.not_lt, Nat.not_le, Decidable.not_not, ne_eq] at hc0
    refine WC_sr fun K19 hK19 => ?_
    refine WL_rd (Rd_eql rfl rfl) rfl rfl rfl ?_
    refine WL_rd (Rd_assign rfl) rfl rfl rfl ?_
    refine WL_end hK19 ?_
    refine WC_cond rfl (fun hc1 => ?_) (fun hc1 => ?_)
    · try simp only [decide_eq_true_eq, decide_eq_false_iff_not, Bool.not_eq_true', Bool.not_eq_false', Bool.not_eq_true, Bool.not_eq_false, Int.not_lt, Int.not_le, Nat.not_lt, Nat.not_le, Decidable.not_not, ne_eq] at hc1
      refine WC_sr fun K20 hK20 => ?_
      refine WL_rd (Rd_fieldAddr rfl fo115_1) rfl rfl rfl ?_
      refine WL_rd (Rd_load rfl tk3 (v := .int .i64 q.n)) rfl rfl rfl ?_
      refine WL_rd (Rd_fieldAddr rfl fo115_2) rfl rfl rfl ?_
      refine WL_rd (Rd_load rfl tk3 (v := .int .i64 q.leaf)) rfl rfl rfl ?_
      refine WL_ac (Ac_call cf64 rfl (hs := chain_ct (n := q.n) (l := q.leaf))) rfl rfl rfl ?_
      rintro _ _ ⟨⟨a145, cap145⟩, rfl, hA⟩
      simp only [List.cons_append, List.nil_append] at hA
      replace hA := hA.symm
      subst hA
      refine WL_imp (fun w h => sat_at (X := arr a145 cap145 1 3 eN (chL (ndM q.n q.leaf))) (Y := arr a145 cap145 1 3 (eInt .i64) (zL (chL (ndM q.n q.leaf)))) (fun h => arr_zL h) (by repeat (first | with_reducible exact Ext.here | with_reducible apply Ext.there)) h) ?_
      rw [show (chL (ndM q.n q.leaf)).length = (zL (chL (ndM q.n q.leaf))).length from (zL_len _).symm]
      refine WL_fact (fun w h => arr_facts (a := a145) (cap := cap145) (e := 1) (T := 3) (f := eInt .i64) (l := (zL (chL (ndM q.n q.leaf)))) (by repeat (first | with_reducible exact Has.here | with_reducible refine Has.there ?_)) h) (fun h145 => ?_)
      refine WL_rd (Rd_move rfl) rfl rfl rfl ?_
      refine WL_rd (Rd_ext0 rfl) rfl rfl rfl ?_
      refine WL_rd (Rd_ext1 rfl) rfl rfl rfl ?_
      refine WL_rd (Rd_assign rfl) rfl rfl rfl ?_
      refine WL_rd (Rd_assign rfl) rfl rfl rfl ?_
      refine WL_end hK20 ?_
      refine WC_sr fun K21 hK21 => ?_
      refine WL_rd (Rd_fieldAddr rfl fo115_1) rfl rfl rfl ?_
      refine WL_rd (Rd_load rfl tk3 (v := .int .i64 q.n)) rfl rfl rfl ?_
      refine WL_rd (Rd_fieldAddr rfl fo115_2) rfl rfl rfl ?_
      refine WL_rd (Rd_load rfl tk3 (v := .int .i64 q.leaf)) rfl rfl rfl ?_
      refine WL_ac (Ac_call cf117 rfl (hs := rChain_ct (n := q.n) (l := q.leaf))) rfl rfl rfl ?_
      rintro _ _ ⟨⟨a153, cap153⟩, rfl, hA⟩
      simp only [List.cons_append, List.nil_append] at hA
      replace hA := hA.symm
      subst hA
      refine WL_imp (fun w h => sat_at (X := arr a153 cap153 1 3 eN (chL (ndM q.n q.leaf))) (Y := arr a153 cap153 1 3 (eInt .i64) (zL (chL (ndM q.n q.leaf)))) (fun h => arr_zL h) (by repeat (first | with_reducible exact Ext.here | with_reducible apply Ext.there)) h) ?_
      rw [show (chL (ndM q.n q.leaf)).length = (zL (chL (ndM q.n q.leaf))).length from (zL_len _).symm]
      refine WL_fact (fun w h => arr_facts (a := a153) (cap := cap153) (e := 1) (T := 3) (f := eInt .i64) (l := (zL (chL (ndM q.n q.leaf)))) (by repeat (first | with_reducible exact Has.here | with_reducible refine Has.there ?_)) h) (fun h153 => ?_)
      refine WL_rd (Rd_move rfl) rfl rfl rfl ?_
      refine WL_rd (Rd_ext0 rfl) rfl rfl rfl ?_
      refine WL_rd (Rd_ext1 rfl) rfl rfl rfl ?_
      refine WL_rd (Rd_assign rfl) rfl rfl rfl ?_
      refine WL_rd (Rd_assign rfl) rfl rfl rfl ?_
      refine WL_end hK21 ?_
      refine WC_sr fun K22 hK22 => ?_
      refine WL_rd (Rd_move rfl) rfl rfl rfl ?_
      refine WL_rd (Rd_move rfl) rfl rfl rfl ?_
      refine WL_rd (Rd_nilCheck rfl) rfl rfl rfl ?_
      refine WL_rd (Rd_fieldAddr rfl fo111_2) rfl rfl rfl ?_
      refine WL_rd (Rd_load rfl tk109 (v := sl s.ia s.is.length s.ic)) rfl rfl rfl ?_
      refine WL_rd (Rd_move rfl) rfl rfl rfl ?_
      refine WL_ac (Ac_bs1 (xs := [sl a145 (zL (chL (ndM q.n q.leaf))).length cap145]) rfl ud109 zr101 sz101) rfl rfl rfl ?_
      rintro _ _ ⟨b162, rfl, rfl⟩
      refine WL_ac (Ac_append1 (f := ePI) encPI (⟨a145, cap145, (zL (chL (ndM q.n q.leaf)))⟩ : PI) rfl rfl ud109 ud109 el101) rfl rfl rfl ?_
      rintro _ _ ⟨a163, cap163, rfl, rfl⟩
      rw [show s.is.length + 1 = (s.is ++ [(⟨a145, cap145, (zL (chL (ndM q.n q.leaf)))⟩ : PI)]).length from by simp]
      rw [show arr a145 cap145 1 3 (eInt .i64) (zL (chL (ndM q.n q.leaf))) = (FP 3) (⟨a145, cap145, (zL (chL (ndM q.n q.leaf)))⟩ : PI) from rfl]
      refine WL_snoc (FP 3) s.is (⟨a145, cap145, (zL (chL (ndM q.n q.leaf)))⟩ : PI) ?_
      refine WL_rd (Rd_nilCheck rfl) rfl rfl rfl ?_
      refine WL_rd (Rd_fieldAddr rfl fo111_2) rfl rfl rfl ?_
      refine WL_ac0 (Ac_store1 rfl rfl sz109) rfl rfl ?_
      rintro _ _ rfl
      refine WL_end hK22 ?_
      refine WC_sr fun K23 hK23 => ?_
      refine WL_rd (Rd_move rfl) rfl rfl rfl ?_
      refine WL_rd (Rd_move rfl) rfl rfl rfl ?_
      refine WL_rd (Rd_nilCheck rfl) rfl rfl rfl ?_
      refine WL_rd (Rd_fieldAddr rfl fo111_3) rfl rfl rfl ?_
      refine WL_rd (Rd_load rfl tk109 (v := sl s.ma s.ms.length s.mc)) rfl rfl rfl ?_
      refine WL_rd (Rd_move rfl) rfl rfl rfl ?_
      refine WL_ac (Ac_bs1 (xs := [sl a153 (zL (chL (ndM q.n q.leaf))).length cap153]) rfl ud109 zr101 sz101) rfl rfl rfl ?_
      rintro _ _ ⟨b172, rfl, rfl⟩
      refine WL_ac (Ac_append1 (f := ePI) encPI (⟨a153, cap153, (zL (chL (ndM q.n q.leaf)))⟩ : PI) rfl rfl ud109 ud109 el101) rfl rfl rfl ?_
      rintro _ _ ⟨a173, cap173, rfl, rfl⟩
      rw [show s.ms.length + 1 = (s.ms ++ [(⟨a153, cap153, (zL (chL (ndM q.n q.leaf)))⟩ : PI)]).length from by simp]
      rw [show arr a153 cap153 1 3 (eInt .i64) (zL (chL (ndM q.n q.leaf))) = (FP 3) (⟨a153, cap153, (zL (chL (ndM q.n q.leaf)))⟩ : PI) from rfl]
      refine WL_snoc (FP 3) s.ms (⟨a153, cap153, (zL (chL (ndM q.n q.leaf)))⟩ : PI) ?_
      refine WL_rd (Rd_nilCheck rfl) rfl rfl rfl ?_
      refine WL_rd (Rd_fieldAddr rfl fo111_3) rfl rfl rfl ?_
      refine WL_ac0 (Ac_store1 rfl rfl sz109) rfl rfl ?_
      rintro _ _ rfl
      refine WL_end hK23 ?_
      refine WC_region ?_
      refine WL_rd (Rd_move rfl) rfl rfl rfl ?_
      refine WL_rd (Rd_move rfl) rfl rfl rfl ?_
      refine WL_rd (Rd_isT (Rd_eqlN rfl rfl)) rfl rfl rfl ?_
      refine WL_rd (Rd_assign rfl) rfl rfl rfl ?_
      refine WL_nil ?_
      refine Ps_next hK6 ?_
      refine WC_sr fun K24 hK24 => ?_
      refine WL_rd (Rd_move rfl) rfl rfl rfl ?_
      refine WL_rd (Rd_fieldAddr rfl fo115_4) rfl rfl rfl ?_
      refine WL_rd (Rd_load rfl tk76 (v := q.A.v)) rfl rfl rfl ?_
      refine WL_ac (Ac_call cf123 rfl (hs := Ct.un0 (Xs := [arr a42 cap42 32 42 fD (lentD q.A.l), old W]) (keptD_ct (X := sep [arr a42 cap42 32 42 fD (lentD q.A.l), old W]) (l := (lentD q.A.l)) (l' := q.A.l) (hS := hA1.pk (by repeat (first | with_reducible exact Has.here | with_reducible refine Has.there ?_))) (hS' := hqA.pk (by repeat (first | with_reducible exact Has.here | with_reducible refine Has.there ?_)))))) rfl rfl rfl ?_
      rintro _ _ ⟨⟨⟩, rfl, hA⟩
      simp only [List.cons_append, List.nil_append] at hA
      replace hA := hA.symm
      subst hA
      rw [decide_eq_true (rfl : (lentD q.A.l) = (lentD q.A.l))]
      refine WL_rd (Rd_move rfl) rfl rfl rfl ?_
      refine WL_rd (Rd_move rfl) rfl rfl rfl ?_
      refine WL_rd (Rd_fieldAddr rfl fo115_5) rfl rfl rfl ?_
      refine WL_rd (Rd_load rfl tk76 (v := q.B.v)) rfl rfl rfl ?_
      refine WL_ac (Ac_call cf123 rfl (hs := Ct.un0 (Xs := [arr a45 cap45 32 42 fD (lentD q.B.l), old W]) (keptD_ct (X := sep [arr a45 cap45 32 42 fD (lentD q.B.l), old W]) (l := (lentD q.B.l)) (l' := q.B.l) (hS := hB1.pk (by repeat (first | with_reducible exact Has.here | with_reducible refine Has.there ?_))) (hS' := hqB.pk (by repeat (first | with_reducible exact Has.here | with_reducible refine Has.there ?_)))))) rfl rfl rfl ?_
      rintro _ _ ⟨⟨⟩, rfl, hA⟩
      simp only [List.cons_append, List.nil_append] at hA
      replace hA := hA.symm
      subst hA
      rw [decide_eq_true (rfl : (lentD q.B.l) = (lentD q.B.l))]
      refine WL_rd (Rd_pickT rfl rfl) rfl rfl rfl ?_
      refine WL_rd (Rd_assign rfl) rfl rfl rfl ?_
      refine WL_end hK24 ?_
      refine WC_sr fun K25 hK25 => ?_
      refine WL_rd (Rd_move rfl) rfl rfl rfl ?_
      refine WL_ac (Ac_call cf124 rfl (hs := overD_ct (l := (lentD q.A.l)) (a := a42) (cap := cap42))) rfl rfl rfl ?_
      rintro _ _ ⟨⟨⟩, rfl, hA⟩
      simp only [List.cons_append, List.nil_append] at hA
      replace hA := hA.symm
      subst hA
      refine WL_end hK25 ?_
      refine WC_sr fun K26 hK26 => ?_
      refine WL_rd (Rd_move rfl) rfl rfl rfl ?_
      refine WL_ac (Ac_call cf124 rfl (hs := overD_ct (l := (lentD q.B.l)) (a := a45) (cap := cap45))) rfl rfl rfl ?_
      rintro _ _ ⟨⟨⟩, rfl, hA⟩
      simp only [List.cons_append, List.nil_append] at hA
      replace hA := hA.symm
      subst hA
      refine WL_end hK26 ?_
      refine WC_sr fun K27 hK27 => ?_
      refine WL_rd (Rd_move rfl) rfl rfl rfl ?_
      refine WL_rd (Rd_move rfl) rfl rfl rfl ?_
      refine WL_rd (Rd_move rfl) rfl rfl rfl ?_
      refine WL_rd (Rd_pickT rfl rfl) rfl rfl rfl ?_
      refine WL_rd (Rd_assign rfl) rfl rfl rfl ?_
      refine WL_end hK27 ?_
      refine WC_ret ?_
      exact hret.goE ⟨(⟨s.ps, s.pa, s.pc, s.ws, s.wa, s.wc, s.is ++ [(⟨a145, cap145, (zL (chL (ndM q.n q.leaf)))⟩ : PI)], a163, cap163, s.ms ++ [(⟨a153, cap153, (zL (chL (ndM q.n q.leaf)))⟩ : PI)], a173, cap173⟩ : BKs), hB.putI rfl h145.1 h145.2 (by (try dsimp only); omega) h153.1 h153.2⟩ (Rs1 rfl rfl) rfl
    · try simp only [decide_eq_true_eq, decide_eq_false_iff_not, Bool.not_eq_true', Bool.not_eq_false', Bool.not_eq_true, Bool.not_eq_false, Int.not_lt, Int.not_le, Nat.not_lt, Nat.not_le, Decidable.not_not, ne_eq] at hc1
      refine WC_sr fun K28 hK28 => ?_
      refine WL_rd (Rd_eql rfl rfl) rfl rfl rfl ?_
      refine WL_rd (Rd_assign rfl) rfl rfl rfl ?_
      refine WL_end hK28 ?_
      refine WC_cond rfl (fun hc2 => ?_) (fun hc2 => ?_)
      · try simp only [decide_eq_true_eq, decide_eq_false_iff_not, Bool.not_eq_true', Bool.not_eq_false', Bool.not_eq_true, Bool.not_eq_false, Int.not_lt, Int.not_le, Nat.not_lt, Nat.not_le, Decidable.not_not, ne_eq] at hc2
        refine WC_sr fun K29 hK29 => ?_
        refine WL_ac (Ac_allocW (k := .u8) (w := 8) (m := 32) zr42) rfl rfl rfl ?_
        rintro _ _ ⟨b21, rfl, rfl⟩
        refine WL_end hK29 ?_
        refine WC_seq fun K30 hK30 => ?_
        refine WC_sr fun K31 hK31 => ?_
        refine WL_rd (Rd_fieldAddr rfl fo115_5) rfl rfl rfl ?_
        refine WL_rd (Rd_load rfl tk76 (v := q.B.v)) rfl rfl rfl ?_
        refine WL_rd (Rd_len_sv rfl rfl ud76 (hA := hqB)) rfl rfl rfl ?_
        refine WL_rd (Rd_gtrN (j := 0) rfl rfl) rfl rfl rfl ?_
        refine WL_end hK31 ?_
        refine WC_cond rfl (fun hc3 => ?_) (fun hc3 => ?_)
        · try simp only [decide_eq_true_eq, decide_eq_false_iff_not, Bool.not_eq_true', Bool.not_eq_false', Bool.not_eq_true, Bool.not_eq_false, Int.not_lt, Int.not_le, Nat.not_lt, Nat.not_le, Decidable.not_not, ne_eq] at hc3
          refine WC_region ?_
          refine WL_rd (Rd_fieldAddr rfl fo115_5) rfl rfl rfl ?_
          refine WL_rd (Rd_load rfl tk76 (v := q.B.v)) rfl rfl rfl ?_
          refine WL_rd (Rd_index_sv 0 rfl rfl ud76 sz42 (hA := hqB) (hi := by omega)) rfl rfl rfl ?_
          refine WL_rd (Rd_aU (k := .u8) (l := ((q.B.l).getD (0) zD).1) (Rd_loadg_sv (i := 0) rfl tk42 (hA := hqB) (hl := at_of (by omega))) rfl) rfl rfl rfl ?_
          refine WL_ac0 (Ac_storeW rfl rfl sz42) rfl rfl ?_
          rintro _ _ rfl
          refine WL_nil ?_
          refine Ps_next hK30 ?_
          refine WC_sr fun K32 hK32 => ?_
          refine WL_rd (Rd_fieldAddr rfl fo115_1) rfl rfl rfl ?_
          refine WL_rd (Rd_load rfl tk3 (v := .int .i64 q.n)) rfl rfl rfl ?_
          refine WL_rd (Rd_fieldAddr rfl fo115_2) rfl rfl rfl ?_
          refine WL_rd (Rd_load rfl tk3 (v := .int .i64 q.leaf)) rfl rfl rfl ?_
          refine WL_rd (Rd_loadW rfl tk42) rfl rfl rfl ?_
          refine WL_rd (Rd_move rfl) rfl rfl rfl ?_
          refine WL_ac (Ac_call cf59 rfl (hs := climb_ct (X := arr a42 cap42 32 42 fD (lentD q.A.l)) (cs := q.A.l) (n := q.n) (l := q.leaf) (d := (q.B.l.getD 0 zD)) (hS := hA1s))) rfl rfl rfl ?_
          rintro _ _ ⟨⟨⟩, rfl, hA⟩
          simp only [List.cons_append, List.nil_append] at hA
          replace hA := hA.symm
          subst hA
          refine WL_rd (Rd_move rfl) rfl rfl rfl ?_
          refine WL_rd (Rd_ext0 rfl) rfl rfl rfl ?_
          refine WL_rd (Rd_ext1 rfl) rfl rfl rfl ?_
          refine WL_ac (Ac_allocW (k := .u8) (w := 8) (m := 32) zr42) rfl rfl rfl ?_
          rintro _ _ ⟨b22, rfl, rfl⟩
          refine WL_ac0 (Ac_storeW rfl rfl sz42) rfl rfl ?_
          rintro _ _ rfl
          refine WL_rd (Rd_assign rfl) rfl rfl rfl ?_
          refine WL_end hK32 ?_
          refine WC_sr fun K33 hK33 => ?_
          refine WL_rd (Rd_fieldAddr rfl fo115_1) rfl rfl rfl ?_
          refine WL_rd (Rd_load rfl tk3 (v := .int .i64 q.n)) rfl rfl rfl ?_
          refine WL_rd (Rd_fieldAddr rfl fo115_2) rfl rfl rfl ?_
          refine WL_rd (Rd_load rfl tk3 (v := .int .i64 q.leaf)) rfl rfl rfl ?_
          refine WL_rd (Rd_loadW rfl tk42) rfl rfl rfl ?_
          refine WL_rd (Rd_fieldAddr rfl fo115_4) rfl rfl rfl ?_
          refine WL_rd (Rd_load rfl tk76 (v := q.A.v)) rfl rfl rfl ?_
          refine WL_ac (Ac_call cf118 rfl (hs := rClimb_ct (X := old W) (cs := q.A.l) (n := q.n) (l := q.leaf) (d := (q.B.l.getD 0 zD)) (hS := hqA))) rfl rfl rfl ?_
          rintro _ _ ⟨⟨⟩, rfl, hA⟩
          simp only [List.cons_append, List.nil_append] at hA
          replace hA := hA.symm
          subst hA
          refine WL_rd (Rd_move rfl) rfl rfl rfl ?_
          refine WL_rd (Rd_ext0 rfl) rfl rfl rfl ?_
          refine WL_rd (Rd_ext1 rfl) rfl rfl rfl ?_
          refine WL_ac (Ac_allocW (k := .u8) (w := 8) (m := 32) zr42) rfl rfl rfl ?_
          rintro _ _ ⟨b24, rfl, rfl⟩
          refine WL_ac0 (Ac_storeW rfl rfl sz42) rfl rfl ?_
          rintro _ _ rfl
          refine WL_rd (Rd_assign rfl) rfl rfl rfl ?_
          refine WL_end hK33 ?_
          refine WC_region ?_
          refine WL_rd (Rd_loadW rfl tk42) rfl rfl rfl ?_
          refine WL_rd (Rd_loadW rfl tk42) rfl rfl rfl ?_
          refine WL_rd (Rd_isT (Rd_eqW rfl rfl ais42) (by simp)) rfl rfl rfl ?_
          refine WL_rd (Rd_move rfl) rfl rfl rfl ?_
          refine WL_rd (Rd_move rfl) rfl rfl rfl ?_
          refine WL_rd (Rd_move rfl) rfl rfl rfl ?_
          refine WL_rd (Rd_isT (Rd_eqlN rfl rfl)) rfl rfl rfl ?_
          refine WL_rd (Rd_pickT rfl rfl) rfl rfl rfl ?_
          refine WL_rd (Rd_assign rfl) rfl rfl rfl ?_
          refine WL_nil ?_
          refine Ps_next hK6 ?_
          refine WC_sr fun K34 hK34 => ?_
          refine WL_rd (Rd_move rfl) rfl rfl rfl ?_
          refine WL_rd (Rd_fieldAddr rfl fo115_4) rfl rfl rfl ?_
          refine WL_rd (Rd_load rfl tk76 (v := q.A.v)) rfl rfl rfl ?_
          refine WL_ac (Ac_call cf123 rfl (hs := Ct.un0 (Xs := [arr a42 cap42 32 42 fD (lentD q.A.l), old W]) (keptD_ct (X := sep [arr a42 cap42 32 42 fD (lentD q.A.l), old W]) (l := (lentD q.A.l)) (l' := q.A.l) (hS := hA1.pk (by repeat (first | with_reducible exact Has.here | with_reducible refine Has.there ?_))) (hS' := hqA.pk (by repeat (first | with_reducible exact Has.here | with_reducible refine Has.there ?_)))))) rfl rfl rfl ?_
          rintro _ _ ⟨⟨⟩, rfl, hA⟩
          simp only [List.cons_append, List.nil_append] at hA
          replace hA := hA.symm
          subst hA
          rw [decide_eq_true (rfl : (lentD q.A.l) = (lentD q.A.l))]
          refine WL_rd (Rd_move rfl) rfl rfl rfl ?_
          refine WL_rd (Rd_move rfl) rfl rfl rfl ?_
          refine WL_rd (Rd_fieldAddr rfl fo115_5) rfl rfl rfl ?_
          refine WL_rd (Rd_load rfl tk76 (v := q.B.v)) rfl rfl rfl ?_
          refine WL_ac (Ac_call cf123 rfl (hs := Ct.un0 (Xs := [arr a45 cap45 32 42 fD (lentD q.B.l), old W]) (keptD_ct (X := sep [arr a45 cap45 32 42 fD (lentD q.B.l), old W]) (l := (lentD q.B.l)) (l' := q.B.l) (hS := hB1.pk (by repeat (first | with_reducible exact Has.here | with_reducible refine Has.there ?_))) (hS' := hqB.pk (by repeat (first | with_reducible exact Has.here | with_reducible refine Has.there ?_)))))) rfl rfl rfl ?_
          rintro _ _ ⟨⟨⟩, rfl, hA⟩
          simp only [List.cons_append, List.nil_append] at hA
          replace hA := hA.symm
          subst hA
          rw [decide_eq_true (rfl : (lentD q.B.l) = (lentD q.B.l))]
          refine WL_rd (Rd_pickT rfl rfl) rfl rfl rfl ?_
          refine WL_rd (Rd_assign rfl) rfl rfl rfl ?_
          refine WL_end hK34 ?_
          refine WC_sr fun K35 hK35 => ?_
          refine WL_rd (Rd_move rfl) rfl rfl rfl ?_
          refine WL_ac (Ac_call cf124 rfl (hs := overD_ct (l := (lentD q.A.l)) (a := a42) (cap := cap42))) rfl rfl rfl ?_
          rintro _ _ ⟨⟨⟩, rfl, hA⟩
          simp only [List.cons_append, List.nil_append] at hA
          replace hA := hA.symm
          subst hA
          refine WL_end hK35 ?_
          refine WC_sr fun K36 hK36 => ?_
          refine WL_rd (Rd_move rfl) rfl rfl rfl ?_
          refine WL_ac (Ac_call cf124 rfl (hs := overD_ct (l := (lentD q.B.l)) (a := a45) (cap := cap45))) rfl rfl rfl ?_
          rintro _ _ ⟨⟨⟩, rfl, hA⟩
          simp only [List.cons_append, List.nil_append] at hA
          replace hA := hA.symm
          subst hA
          refine WL_end hK36 ?_
          refine WC_sr fun K37 hK37 => ?_
          refine WL_rd (Rd_move rfl) rfl rfl rfl ?_
          refine WL_rd (Rd_move rfl) rfl rfl rfl ?_
          refine WL_rd (Rd_move rfl) rfl rfl rfl ?_
          refine WL_rd (Rd_pickT rfl rfl) rfl rfl rfl ?_
          refine WL_rd (Rd_assign rfl) rfl rfl rfl ?_
          refine WL_end hK37 ?_
          refine WC_ret ?_
          exact hret.goE ⟨s, hB.up (by omega)⟩ (Rs1 rfl rfl) rfl
        · try simp only [decide_eq_true_eq, decide_eq_false_iff_not, Bool.not_eq_true', Bool.not_eq_false', Bool.not_eq_true, Bool.not_eq_false, Int.not_lt, Int.not_le, Nat.not_lt, Nat.not_le, Decidable.not_not, ne_eq] at hc3
          rw [show List.replicate 32 0#8 = (q.B.l.getD 0 zD).1 from by rw [show q.B.l = [] from List.eq_nil_of_length_eq_zero (by omega)]; rfl]
          refine WC_skip ?_
          refine Ps_next hK30 ?_
          refine WC_sr fun K38 hK38 => ?_
          refine WL_rd (Rd_fieldAddr rfl fo115_1) rfl rfl rfl ?_
          refine WL_rd (Rd_load rfl tk3 (v := .int .i64 q.n)) rfl rfl rfl ?_
          refine WL_rd (Rd_fieldAddr rfl fo115_2) rfl rfl rfl ?_
          refine WL_rd (Rd_load rfl tk3 (v := .int .i64 q.leaf)) rfl rfl rfl ?_
          refine WL_rd (Rd_loadW rfl tk42) rfl rfl rfl ?_
          refine WL_rd (Rd_move rfl) rfl rfl rfl ?_
          refine WL_ac (Ac_call cf59 rfl (hs := climb_ct (X := arr a42 cap42 32 42 fD (lentD q.A.l)) (cs := q.A.l) (n := q.n) (l := q.leaf) (d := (q.B.l.getD 0 zD)) (hS := hA1s))) rfl rfl rfl ?_
          rintro _ _ ⟨⟨⟩, rfl, hA⟩
          simp only [List.cons_append, List.nil_append] at hA
          replace hA := hA.symm
          subst hA
          refine WL_rd (Rd_move rfl) rfl rfl rfl ?_
          refine WL_rd (Rd_ext0 rfl) rfl rfl rfl ?_
          refine WL_rd (Rd_ext1 rfl) rfl rfl rfl ?_
          refine WL_ac (Ac_allocW (k := .u8) (w := 8) (m := 32) zr42) rfl rfl rfl ?_
          rintro _ _ ⟨b22, rfl, rfl⟩
          refine WL_ac0 (Ac_storeW rfl rfl sz42) rfl rfl ?_
          rintro _ _ rfl
          refine WL_rd (Rd_assign rfl) rfl rfl rfl ?_
          refine WL_end hK38 ?_
          refine WC_sr fun K39 hK39 => ?_
          refine WL_rd (Rd_fieldAddr rfl fo115_1) rfl rfl rfl ?_
          refine WL_rd (Rd_load rfl tk3 (v := .int .i64 q.n)) rfl rfl rfl ?_
          refine WL_rd (Rd_fieldAddr rfl fo115_2) rfl rfl rfl ?_
          refine WL_rd (Rd_load rfl tk3 (v := .int .i64 q.leaf)) rfl rfl rfl ?_
          refine WL_rd (Rd_loadW rfl tk42) rfl rfl rfl ?_
          refine WL_rd (Rd_fieldAddr rfl fo115_4) rfl rfl rfl ?_
          refine WL_rd (Rd_load rfl tk76 (v := q.A.v)) rfl rfl rfl ?_
          refine WL_ac (Ac_call cf118 rfl (hs := rClimb_ct (X := old W) (cs := q.A.l) (n := q.n) (l := q.leaf) (d := (q.B.l.getD 0 zD)) (hS := hqA))) rfl rfl rfl ?_
          rintro _ _ ⟨⟨⟩, rfl, hA⟩
          simp only [List.cons_append, List.nil_append] at hA
          replace hA := hA.symm
          subst hA
          refine WL_rd (Rd_move rfl) rfl rfl rfl ?_
          refine WL_rd (Rd_ext0 rfl) rfl rfl rfl ?_
          refine WL_rd (Rd_ext1 rfl) rfl rfl rfl ?_
          refine WL_ac (Ac_allocW (k := .u8) (w := 8) (m := 32) zr42) rfl rfl rfl ?_
          rintro _ _ ⟨b24, rfl, rfl⟩
          refine WL_ac0 (Ac_storeW rfl rfl sz42) rfl rfl ?_
          rintro _ _ rfl
          refine WL_rd (Rd_assign rfl) rfl rfl rfl ?_
          refine WL_end hK39 ?_
          refine WC_region ?_
          refine WL_rd (Rd_loadW rfl tk42) rfl rfl rfl ?_
          refine WL_rd (Rd_loadW rfl tk42) rfl rfl rfl ?_
          refine WL_rd (Rd_isT (Rd_eqW rfl rfl ais42) (by simp)) rfl rfl rfl ?_
          refine WL_rd (Rd_move rfl) rfl rfl rfl ?_
          refine WL_rd (Rd_move rfl) rfl rfl rfl ?_
          refine WL_rd (Rd_move rfl) rfl rfl rfl ?_
          refine WL_rd (Rd_isT (Rd_eqlN rfl rfl)) rfl rfl rfl ?_
          refine WL_rd (Rd_pickT rfl rfl) rfl rfl rfl ?_
          refine WL_rd (Rd_assign rfl) rfl rfl rfl ?_
          refine WL_nil ?_
          refine Ps_next hK6 ?_
          refine WC_sr fun K40 hK40 => ?_
          refine WL_rd (Rd_move rfl) rfl rfl rfl ?_
          refine WL_rd (Rd_fieldAddr rfl fo115_4) rfl rfl rfl ?_
          refine WL_rd (Rd_load rfl tk76 (v := q.A.v)) rfl rfl rfl ?_
          refine WL_ac (Ac_call cf123 rfl (hs := Ct.un0 (Xs := [arr a42 cap42 32 42 fD (lentD q.A.l), old W]) (keptD_ct (X := sep [arr a42 cap42 32 42 fD (lentD q.A.l), old W]) (l := (lentD q.A.l)) (l' := q.A.l) (hS := hA1.pk (by repeat (first | with_reducible exact Has.here | with_reducible refine Has.there ?_))) (hS' := hqA.pk (by repeat (first | with_reducible exact Has.here | with_reducible refine Has.there ?_)))))) rfl rfl rfl ?_
          rintro _ _ ⟨⟨⟩, rfl, hA⟩
          simp only [List.cons_append, List.nil_append] at hA
          replace hA := hA.symm
          subst hA
          rw [decide_eq_true (rfl : (lentD q.A.l) = (lentD q.A.l))]
          refine WL_rd (Rd_move rfl) rfl rfl rfl ?_
          refine WL_rd (Rd_move rfl) rfl rfl rfl ?_
          refine WL_rd (Rd_fieldAddr rfl fo115_5) rfl rfl rfl ?_
          refine WL_rd (Rd_load rfl tk76 (v := q.B.v)) rfl rfl rfl ?_
          refine WL_ac (Ac_call cf123 rfl (hs := Ct.un0 (Xs := [arr a45 cap45 32 42 fD (lentD q.B.l), old W]) (keptD_ct (X := sep [arr a45 cap45 32 42 fD (lentD q.B.l), old W]) (l := (lentD q.B.l)) (l' := q.B.l) (hS := hB1.pk (by repeat (first | with_reducible exact Has.here | with_reducible refine Has.there ?_))) (hS' := hqB.pk (by repeat (first | with_reducible exact Has.here | with_reducible refine Has.there ?_)))))) rfl rfl rfl ?_
          rintro _ _ ⟨⟨⟩, rfl, hA⟩
          simp only [List.cons_append, List.nil_append] at hA
          replace hA := hA.symm
          subst hA
          rw [decide_eq_true (rfl : (lentD q.B.l) = (lentD q.B.l))]
          refine WL_rd (Rd_pickT rfl rfl) rfl rfl rfl ?_
          refine WL_rd (Rd_assign rfl) rfl rfl rfl ?_
          refine WL_end hK40 ?_
          refine WC_sr fun K41 hK41 => ?_
          refine WL_rd (Rd_move rfl) rfl rfl rfl ?_
          refine WL_ac (Ac_call cf124 rfl (hs := overD_ct (l := (lentD q.A.l)) (a := a42) (cap := cap42))) rfl rfl rfl ?_
          rintro _ _ ⟨⟨⟩, rfl, hA⟩
          simp only [List.cons_append, List.nil_append] at hA
          replace hA := hA.symm
          subst hA
          refine WL_end hK41 ?_
          refine WC_sr fun K42 hK42 => ?_
          refine WL_rd (Rd_move rfl) rfl rfl rfl ?_
          refine WL_ac (Ac_call cf124 rfl (hs := overD_ct (l := (lentD q.B.l)) (a := a45) (cap := cap45))) rfl rfl rfl ?_
          rintro _ _ ⟨⟨⟩, rfl, hA⟩
          simp only [List.cons_append, List.nil_append] at hA
          replace hA := hA.symm
          subst hA
          refine WL_end hK42 ?_
          refine WC_sr fun K43 hK43 => ?_
          refine WL_rd (Rd_move rfl) rfl rfl rfl ?_
          refine WL_rd (Rd_move rfl) rfl rfl rfl ?_
          refine WL_rd (Rd_move rfl) rfl rfl rfl ?_
          refine WL_rd (Rd_pickT rfl rfl) rfl rfl rfl ?_
          refine WL_rd (Rd_assign rfl) rfl rfl rfl ?_
          refine WL_end hK43 ?_
          refine WC_ret ?_
          exact hret.goE ⟨s, hB.up (by omega)⟩ (Rs1 rfl rfl) rfl
      · try simp only [decide_eq_true_eq, decide_eq_false_iff_not, Bool.not_eq_true', Bool.not_eq_false', Bool.not_eq_true, Bool.not_eq_false, Int.not_lt, Int.not_le, Nat.not_lt, Nat.not_le, Decidable.not_not, ne_eq] at hc2
        refine WC_sr fun K44 hK44 => ?_
        refine WL_rd (Rd_eql rfl rfl) rfl rfl rfl ?_
        refine WL_rd (Rd_assign rfl) rfl rfl rfl ?_
        refine WL_end hK44 ?_
        refine WC_cond rfl (fun hc4 => ?_) (fun hc4 => ?_)
        · try simp only [decide_eq_true_eq, decide_eq_false_iff_not, Bool.not_eq_true', Bool.not_eq_false', Bool.not_eq_true, Bool.not_eq_false, Int.not_lt, Int.not_le, Nat.not_lt, Nat.not_le, Decidable.not_not, ne_eq] at hc4
          refine WC_sr fun K45 hK45 => ?_
          refine WL_rd (Rd_fieldAddr rfl fo115_1) rfl rfl rfl ?_
          refine WL_rd (Rd_load rfl tk3 (v := .int .i64 q.n)) rfl rfl rfl ?_
          refine WL_rd (Rd_move rfl) rfl rfl rfl ?_
          refine WL_ac (Ac_call cf65 rfl (hs := leavesI_ct (n := q.n) (X := arr a42 cap42 32 42 fD (lentD q.A.l)) (ls := q.A.l) (hS := hA1s))) rfl rfl rfl ?_
          rintro _ _ ⟨⟨a224, cap224⟩, rfl, hA⟩
          simp only [List.cons_append, List.nil_append] at hA
          replace hA := hA.symm
          subst hA
          refine WL_fact (fun w h => arr_facts (a := a224) (cap := cap224) (e := 32) (T := 42) (f := fD) (l := (lvL q.n.toNat q.A.l)) (by repeat (first | with_reducible exact Has.here | with_reducible refine Has.there ?_)) h) (fun h224 => ?_)
          refine WL_rd (Rd_move rfl) rfl rfl rfl ?_
          refine WL_rd (Rd_ext0 rfl) rfl rfl rfl ?_
          refine WL_rd (Rd_ext1 rfl) rfl rfl rfl ?_
          refine WL_rd (Rd_ext2 rfl) rfl rfl rfl ?_
          refine WL_rd (Rd_assign rfl) rfl rfl rfl ?_
          refine WL_rd (Rd_assign rfl) rfl rfl rfl ?_
          refine WL_rd (Rd_assign rfl) rfl rfl rfl ?_
          refine WL_end hK45 ?_
          refine WC_sr fun K46 hK46 => ?_
          refine WL_rd (Rd_fieldAddr rfl fo115_1) rfl rfl rfl ?_
          refine WL_rd (Rd_load rfl tk3 (v := .int .i64 q.n)) rfl rfl rfl ?_
          refine WL_rd (Rd_fieldAddr rfl fo115_4) rfl rfl rfl ?_
          refine WL_rd (Rd_load rfl tk76 (v := q.A.v)) rfl rfl rfl ?_
          refine WL_ac (Ac_call cf119 rfl (hs := rLeaves_ct (n := q.n) (X := old W) (ls := q.A.l) (hS := hqA))) rfl rfl rfl ?_
          rintro _ _ ⟨⟨a233, cap233⟩, rfl, hA⟩
          simp only [List.cons_append, List.nil_append] at hA
          replace hA := hA.symm
          subst hA
          refine WL_fact (fun w h => arr_facts (a := a233) (cap := cap233) (e := 32) (T := 42) (f := fD) (l := (lvL q.n.toNat q.A.l)) (by repeat (first | with_reducible exact Has.here | with_reducible refine Has.there ?_)) h) (fun h233 => ?_)
          refine WL_rd (Rd_move rfl) rfl rfl rfl ?_
          refine WL_rd (Rd_ext0 rfl) rfl rfl rfl ?_
          refine WL_rd (Rd_ext1 rfl) rfl rfl rfl ?_
          refine WL_rd (Rd_ext2 rfl) rfl rfl rfl ?_
          refine WL_rd (Rd_assign rfl) rfl rfl rfl ?_
          refine WL_rd (Rd_assign rfl) rfl rfl rfl ?_
          refine WL_rd (Rd_assign rfl) rfl rfl rfl ?_
          refine WL_end hK46 ?_
          refine WC_sr fun K47 hK47 => ?_
          refine WL_rd (Rd_move rfl) rfl rfl rfl ?_
          refine WL_rd (Rd_move rfl) rfl rfl rfl ?_
          refine WL_rd (Rd_nilCheck rfl) rfl rfl rfl ?_
          refine WL_rd (Rd_fieldAddr rfl fo111_0) rfl rfl rfl ?_
          refine WL_rd (Rd_load rfl tk108 (v := sl s.pa s.ps.length s.pc)) rfl rfl rfl ?_
          refine WL_rd (Rd_move rfl) rfl rfl rfl ?_
          refine WL_ac (Ac_bs1 (xs := [sl a224 (lvL q.n.toNat q.A.l).length cap224]) rfl ud108 zr76 sz76) rfl rfl rfl ?_
          rintro _ _ ⟨b243, rfl, rfl⟩
          refine WL_ac (Ac_append1 (f := ePD) encPD (⟨a224, cap224, (lvL q.n.toNat q.A.l)⟩ : PD) rfl rfl ud108 ud108 el76) rfl rfl rfl ?_
          rintro _ _ ⟨a244, cap244, rfl, rfl⟩
          rw [show s.ps.length + 1 = (s.ps ++ [(⟨a224, cap224, (lvL q.n.toNat q.A.l)⟩ : PD)]).length from by simp]
          rw [show arr a224 cap224 32 42 fD (lvL q.n.toNat q.A.l) = (FPD 42) (⟨a224, cap224, (lvL q.n.toNat q.A.l)⟩ : PD) from rfl]
          refine WL_snoc (FPD 42) s.ps (⟨a224, cap224, (lvL q.n.toNat q.A.l)⟩ : PD) ?_
          refine WL_rd (Rd_nilCheck rfl) rfl rfl rfl ?_
          refine WL_rd (Rd_fieldAddr rfl fo111_0) rfl rfl rfl ?_
          refine WL_ac0 (Ac_store1 rfl rfl sz108) rfl rfl ?_
          rintro _ _ rfl
          refine WL_end hK47 ?_
          refine WC_sr fun K48 hK48 => ?_
          refine WL_rd (Rd_move rfl) rfl rfl rfl ?_
          refine WL_rd (Rd_move rfl) rfl rfl rfl ?_
          refine WL_rd (Rd_nilCheck rfl) rfl rfl rfl ?_
          refine WL_rd (Rd_fieldAddr rfl fo111_1) rfl rfl rfl ?_
          refine WL_rd (Rd_load rfl tk108 (v := sl s.wa s.ws.length s.wc)) rfl rfl rfl ?_
          refine WL_rd (Rd_move rfl) rfl rfl rfl ?_
          refine WL_ac (Ac_bs1 (xs := [sl a233 (lvL q.n.toNat q.A.l).length cap233]) rfl ud108 zr76 sz76) rfl rfl rfl ?_
          rintro _ _ ⟨b253, rfl, rfl⟩
          refine WL_ac (Ac_append1 (f := ePD) encPD (⟨a233, cap233, (lvL q.n.toNat q.A.l)⟩ : PD) rfl rfl ud108 ud108 el76) rfl rfl rfl ?_
          rintro _ _ ⟨a254, cap254, rfl, rfl⟩
          rw [show s.ws.length + 1 = (s.ws ++ [(⟨a233, cap233, (lvL q.n.toNat q.A.l)⟩ : PD)]).length from by simp]
          rw [show arr a233 cap233 32 42 fD (lvL q.n.toNat q.A.l) = (FPD 42) (⟨a233, cap233, (lvL q.n.toNat q.A.l)⟩ : PD) from rfl]
          refine WL_snoc (FPD 42) s.ws (⟨a233, cap233, (lvL q.n.toNat q.A.l)⟩ : PD) ?_
          refine WL_rd (Rd_nilCheck rfl) rfl rfl rfl ?_
          refine WL_rd (Rd_fieldAddr rfl fo111_1) rfl rfl rfl ?_
          refine WL_ac0 (Ac_store1 rfl rfl sz108) rfl rfl ?_
          rintro _ _ rfl
          refine WL_end hK48 ?_
          refine WC_region ?_
          refine WL_rd (Rd_move rfl) rfl rfl rfl ?_
          refine WL_rd (Rd_move rfl) rfl rfl rfl ?_
          refine WL_rd (Rd_isT (Rd_eqlN rfl rfl)) rfl rfl rfl ?_
          refine WL_rd (Rd_move rfl) rfl rfl rfl ?_
          refine WL_rd (Rd_move rfl) rfl rfl rfl ?_
          refine WL_rd (Rd_move rfl) rfl rfl rfl ?_
          refine WL_rd (Rd_isT (Rd_eqlN rfl rfl)) rfl rfl rfl ?_
          refine WL_rd (Rd_pickT rfl rfl) rfl rfl rfl ?_
          refine WL_rd (Rd_assign rfl) rfl rfl rfl ?_
          refine WL_nil ?_
          refine Ps_next hK6 ?_
          refine WC_sr fun K49 hK49 => ?_
          refine WL_rd (Rd_move rfl) rfl rfl rfl ?_
          refine WL_rd (Rd_fieldAddr rfl fo115_4) rfl rfl rfl ?_
          refine WL_rd (Rd_load rfl tk76 (v := q.A.v)) rfl rfl rfl ?_
          refine WL_ac (Ac_call cf123 rfl (hs := Ct.un0 (Xs := [arr a42 cap42 32 42 fD (lentD q.A.l), old W]) (keptD_ct (X := sep [arr a42 cap42 32 42 fD (lentD q.A.l), old W]) (l := (lentD q.A.l)) (l' := q.A.l) (hS := hA1.pk (by repeat (first | with_reducible exact Has.here | with_reducible refine Has.there ?_))) (hS' := hqA.pk (by repeat (first | with_reducible exact Has.here | with_reducible refine Has.there ?_)))))) rfl rfl rfl ?_
          rintro _ _ ⟨⟨⟩, rfl, hA⟩
          simp only [List.cons_append, List.nil_append] at hA
          replace hA := hA.symm
          subst hA
          rw [decide_eq_true (rfl : (lentD q.A.l) = (lentD q.A.l))]
          refine WL_rd (Rd_move rfl) rfl rfl rfl ?_
          refine WL_rd (Rd_move rfl) rfl rfl rfl ?_
          refine WL_rd (Rd_fieldAddr rfl fo115_5) rfl rfl rfl ?_
          refine WL_rd (Rd_load rfl tk76 (v := q.B.v)) rfl rfl rfl ?_
          refine WL_ac (Ac_call cf123 rfl (hs := Ct.un0 (Xs := [arr a45 cap45 32 42 fD (lentD q.B.l), old W]) (keptD_ct (X := sep [arr a45 cap45 32 42 fD (lentD q.B.l), old W]) (l := (lentD q.B.l)) (l' := q.B.l) (hS := hB1.pk (by repeat (first | with_reducible exact Has.here | with_reducible refine Has.there ?_))) (hS' := hqB.pk (by repeat (first | with_reducible exact Has.here | with_reducible refine Has.there ?_)))))) rfl rfl rfl ?_
          rintro _ _ ⟨⟨⟩, rfl, hA⟩
          simp only [List.cons_append, List.nil_append] at hA
          replace hA := hA.symm
          subst hA
          rw [decide_eq_true (rfl : (lentD q.B.l) = (lentD q.B.l))]
          refine WL_rd (Rd_pickT rfl rfl) rfl rfl rfl ?_
          refine WL_rd (Rd_assign rfl) rfl rfl rfl ?_
          refine WL_end hK49 ?_
          refine WC_sr fun K50 hK50 => ?_
          refine WL_rd (Rd_move rfl) rfl rfl rfl ?_
          refine WL_ac (Ac_call cf124 rfl (hs := overD_ct (l := (lentD q.A.l)) (a := a42) (cap := cap42))) rfl rfl rfl ?_
          rintro _ _ ⟨⟨⟩, rfl, hA⟩
          simp only [List.cons_append, List.nil_append] at hA
          replace hA := hA.symm
          subst hA
          refine WL_end hK50 ?_
          refine WC_sr fun K51 hK51 => ?_
          refine WL_rd (Rd_move rfl) rfl rfl rfl ?_
          refine WL_ac (Ac_call cf124 rfl (hs := overD_ct (l := (lentD q.B.l)) (a := a45) (cap := cap45))) rfl rfl rfl ?_
          rintro _ _ ⟨⟨⟩, rfl, hA⟩
          simp only [List.cons_append, List.nil_append] at hA
          replace hA := hA.symm
          subst hA
          refine WL_end hK51 ?_
          refine WC_sr fun K52 hK52 => ?_
          refine WL_rd (Rd_move rfl) rfl rfl rfl ?_
          refine WL_rd (Rd_move rfl) rfl rfl rfl ?_
          refine WL_rd (Rd_move rfl) rfl rfl rfl ?_
          refine WL_rd (Rd_pickT rfl rfl) rfl rfl rfl ?_
          refine WL_rd (Rd_assign rfl) rfl rfl rfl ?_
          refine WL_end hK52 ?_
          refine WC_ret ?_
          exact hret.goE ⟨(⟨s.ps ++ [(⟨a224, cap224, (lvL q.n.toNat q.A.l)⟩ : PD)], a244, cap244, s.ws ++ [(⟨a233, cap233, (lvL q.n.toNat q.A.l)⟩ : PD)], a254, cap254, s.is, s.ia, s.ic, s.ms, s.ma, s.mc⟩ : BKs), hB.putD rfl h224.1 h224.2 (by (try dsimp only); omega) h233.1 h233.2⟩ (Rs1 rfl rfl) rfl
        · try simp only [decide_eq_true_eq, decide_eq_false_iff_not, Bool.not_eq_true', Bool.not_eq_false', Bool.not_eq_true, Bool.not_eq_false, Int.not_lt, Int.not_le, Nat.not_lt, Nat.not_le, Decidable.not_not, ne_eq] at hc4
          refine WC_sr fun K53 hK53 => ?_
          refine WL_rd (Rd_eql rfl rfl) rfl rfl rfl ?_
          refine WL_rd (Rd_assign rfl) rfl rfl rfl ?_
          refine WL_end hK53 ?_
          refine WC_cond rfl (fun hc5 => ?_) (fun hc5 => ?_)
          · try simp only [decide_eq_true_eq, decide_eq_false_iff_not, Bool.not_eq_true', Bool.not_eq_false', Bool.not_eq_true, Bool.not_eq_false, Int.not_lt, Int.not_le, Nat.not_lt, Nat.not_le, Decidable.not_not, ne_eq] at hc5
            refine WC_sr fun K54 hK54 => ?_
            refine WL_rd (Rd_move rfl) rfl rfl rfl ?_
            refine WL_rd (Rd_move rfl) rfl rfl rfl ?_
            refine WL_rd (Rd_fieldAddr rfl fo115_5) rfl rfl rfl ?_
            refine WL_rd (Rd_load rfl tk76 (v := q.B.v)) rfl rfl rfl ?_
            refine WL_rd (Rd_len_sv rfl rfl ud76 (hA := hqB)) rfl rfl rfl ?_
            refine WL_rd (Rd_slice_hi q.B.l.length rfl rfl ud76 sz42 (hi := by omega)) rfl rfl rfl ?_
            refine WL_ac (Ac_call cf55 rfl (hs := Ct.un0 (Xs := [arr a42 cap42 32 42 fD (lentD q.A.l), arr a45 cap45 32 42 fD (lentD q.B.l)]) (differ_ct (X := sep [arr a42 cap42 32 42 fD (lentD q.A.l), arr a45 cap45 32 42 fD (lentD q.B.l)]) (a := q.A.l) (b := q.B.l) (hS := hA1s.pk (by repeat (first | with_reducible exact Has.here | with_reducible refine Has.there ?_))) (hS' := hB1s.pk (by repeat (first | with_reducible exact Has.here | with_reducible refine Has.there ?_)))))) rfl rfl rfl ?_
            rintro _ _ ⟨⟨⟩, rfl, hA⟩
            simp only [List.cons_append, List.nil_append] at hA
            replace hA := hA.symm
            subst hA
            refine WL_rd (Rd_move rfl) rfl rfl rfl ?_
            refine WL_rd (Rd_ext0 rfl) rfl rfl rfl ?_
            refine WL_rd (Rd_ext1 rfl) rfl rfl rfl ?_
            refine WL_rd (Rd_assign rfl) rfl rfl rfl ?_
            refine WL_rd (Rd_assign rfl) rfl rfl rfl ?_
            refine WL_end hK54 ?_
            refine WC_sr fun K55 hK55 => ?_
            refine WL_rd (Rd_fieldAddr rfl fo115_4) rfl rfl rfl ?_
            refine WL_rd (Rd_load rfl tk76 (v := q.A.v)) rfl rfl rfl ?_
            refine WL_rd (Rd_fieldAddr rfl fo115_5) rfl rfl rfl ?_
            refine WL_rd (Rd_load rfl tk76 (v := q.B.v)) rfl rfl rfl ?_
            refine WL_ac (Ac_call cf120 rfl (hs := rDiffer_ct (X := old W) (a := q.A.l) (b := q.B.l) (hS := hqA) (hS' := hqB))) rfl rfl rfl ?_
            rintro _ _ ⟨⟨⟩, rfl, hA⟩
            simp only [List.cons_append, List.nil_append] at hA
            replace hA := hA.symm
            subst hA
            refine WL_rd (Rd_move rfl) rfl rfl rfl ?_
            refine WL_rd (Rd_ext0 rfl) rfl rfl rfl ?_
            refine WL_rd (Rd_ext1 rfl) rfl rfl rfl ?_
            refine WL_rd (Rd_assign rfl) rfl rfl rfl ?_
            refine WL_rd (Rd_assign rfl) rfl rfl rfl ?_
            refine WL_end hK55 ?_
            refine WC_region ?_
            refine WL_rd (Rd_move rfl) rfl rfl rfl ?_
            refine WL_rd (Rd_move rfl) rfl rfl rfl ?_
            refine WL_rd (Rd_isT (Rd_eqlN rfl rfl)) rfl rfl rfl ?_
            refine WL_rd (Rd_move rfl) rfl rfl rfl ?_
            refine WL_rd (Rd_move rfl) rfl rfl rfl ?_
            refine WL_rd (Rd_move rfl) rfl rfl rfl ?_
            refine WL_rd (Rd_isT (Rd_beq rfl rfl ud4) (by simp)) rfl rfl rfl ?_
            refine WL_rd (Rd_pickT rfl rfl) rfl rfl rfl ?_
            refine WL_rd (Rd_assign rfl) rfl rfl rfl ?_
            refine WL_nil ?_
            refine Ps_next hK6 ?_
            refine WC_sr fun K56 hK56 => ?_
            refine WL_rd (Rd_move rfl) rfl rfl rfl ?_
            refine WL_rd (Rd_fieldAddr rfl fo115_4) rfl rfl rfl ?_
            refine WL_rd (Rd_load rfl tk76 (v := q.A.v)) rfl rfl rfl ?_
            refine WL_ac (Ac_call cf123 rfl (hs := Ct.un0 (Xs := [arr a42 cap42 32 42 fD (lentD q.A.l), old W]) (keptD_ct (X := sep [arr a42 cap42 32 42 fD (lentD q.A.l), old W]) (l := (lentD q.A.l)) (l' := q.A.l) (hS := hA1.pk (by repeat (first | with_reducible exact Has.here | with_reducible refine Has.there ?_))) (hS' := hqA.pk (by repeat (first | with_reducible exact Has.here | with_reducible refine Has.there ?_)))))) rfl rfl rfl ?_
            rintro _ _ ⟨⟨⟩, rfl, hA⟩
            simp only [List.cons_append, List.nil_append] at hA
            replace hA := hA.symm
            subst hA
            rw [decide_eq_true (rfl : (lentD q.A.l) = (lentD q.A.l))]
            refine WL_rd (Rd_move rfl) rfl rfl rfl ?_
            refine WL_rd (Rd_move rfl) rfl rfl rfl ?_
            refine WL_rd (Rd_fieldAddr rfl fo115_5) rfl rfl rfl ?_
            refine WL_rd (Rd_load rfl tk76 (v := q.B.v)) rfl rfl rfl ?_
            refine WL_ac (Ac_call cf123 rfl (hs := Ct.un0 (Xs := [arr a45 cap45 32 42 fD (lentD q.B.l), old W]) (keptD_ct (X := sep [arr a45 cap45 32 42 fD (lentD q.B.l), old W]) (l := (lentD q.B.l)) (l' := q.B.l) (hS := hB1.pk (by repeat (first | with_reducible exact Has.here | with_reducible refine Has.there ?_))) (hS' := hqB.pk (by repeat (first | with_reducible exact Has.here | with_reducible refine Has.there ?_)))))) rfl rfl rfl ?_
            rintro _ _ ⟨⟨⟩, rfl, hA⟩
            simp only [List.cons_append, List.nil_append] at hA
            replace hA := hA.symm
            subst hA
            rw [decide_eq_true (rfl : (lentD q.B.l) = (lentD q.B.l))]
            refine WL_rd (Rd_pickT rfl rfl) rfl rfl rfl ?_
            refine WL_rd (Rd_assign rfl) rfl rfl rfl ?_
            refine WL_end hK56 ?_
            refine WC_sr fun K57 hK57 => ?_
            refine WL_rd (Rd_move rfl) rfl rfl rfl ?_
            refine WL_ac (Ac_call cf124 rfl (hs := overD_ct (l := (lentD q.A.l)) (a := a42) (cap := cap42))) rfl rfl rfl ?_
            rintro _ _ ⟨⟨⟩, rfl, hA⟩
            simp only [List.cons_append, List.nil_append] at hA
            replace hA := hA.symm
            subst hA
            refine WL_end hK57 ?_
            refine WC_sr fun K58 hK58 => ?_
            refine WL_rd (Rd_move rfl) rfl rfl rfl ?_
            refine WL_ac (Ac_call cf124 rfl (hs := overD_ct (l := (lentD q.B.l)) (a := a45) (cap := cap45))) rfl rfl rfl ?_
            rintro _ _ ⟨⟨⟩, rfl, hA⟩
            simp only [List.cons_append, List.nil_append] at hA
            replace hA := hA.symm
            subst hA
            refine WL_end hK58 ?_
            refine WC_sr fun K59 hK59 => ?_
            refine WL_rd (Rd_move rfl) rfl rfl rfl ?_
            refine WL_rd (Rd_move rfl) rfl rfl rfl ?_
            refine WL_rd (Rd_move rfl) rfl rfl rfl ?_
            refine WL_rd (Rd_pickT rfl rfl) rfl rfl rfl ?_
            refine WL_rd (Rd_assign rfl) rfl rfl rfl ?_
            refine WL_end hK59 ?_
            refine WC_ret ?_
            exact hret.goE ⟨s, hB.up (by omega)⟩ (Rs1 rfl rfl) rfl
          · try simp only [decide_eq_true_eq, decide_eq_false_iff_not, Bool.not_eq_true', Bool.not_eq_false', Bool.not_eq_true, Bool.not_eq_false, Int.not_lt, Int.not_le, Nat.not_lt, Nat.not_le, Decidable.not_not, ne_eq] at hc5
            refine WC_sr fun K60 hK60 => ?_
            refine WL_rd (Rd_eql rfl rfl) rfl rfl rfl ?_
            refine WL_rd (Rd_assign rfl) rfl rfl rfl ?_
            refine WL_end hK60 ?_
            refine WC_cond rfl (fun hc6 => ?_) (fun hc6 => ?_)
            · try simp only [decide_eq_true_eq, decide_eq_false_iff_not, Bool.not_eq_true', Bool.not_eq_false', Bool.not_eq_true, Bool.not_eq_false, Int.not_lt, Int.not_le, Nat.not_lt, Nat.not_le, Decidable.not_not, ne_eq] at hc6
              refine WC_region ?_
              refine WL_rd (Rd_loadg (vs := eTQ q) rfl tk115 (hi := rfl)) rfl rfl rfl ?_
              refine WL_ac (Ac_call cf121 rfl (hs := tgone_ct (q := q))) rfl rfl rfl ?_
              rintro _ _ ⟨⟨⟩, rfl, hA⟩
              simp only [List.cons_append, List.nil_append] at hA
              replace hA := hA.symm
              subst hA
              refine WL_rd (Rd_assign rfl) rfl rfl rfl ?_
              refine WL_nil ?_
              refine Ps_next hK6 ?_
              refine WC_sr fun K61 hK61 => ?_
              refine WL_rd (Rd_move rfl) rfl rfl rfl ?_
              refine WL_rd (Rd_fieldAddr rfl fo115_4) rfl rfl rfl ?_
              refine WL_rd (Rd_load rfl tk76 (v := q.A.v)) rfl rfl rfl ?_
              refine WL_ac (Ac_call cf123 rfl (hs := Ct.un0 (Xs := [arr a42 cap42 32 42 fD (lentD q.A.l), old W]) (keptD_ct (X := sep [arr a42 cap42 32 42 fD (lentD q.A.l), old W]) (l := (lentD q.A.l)) (l' := q.A.l) (hS := hA1.pk (by repeat (first | with_reducible exact Has.here | with_reducible refine Has.there ?_))) (hS' := hqA.pk (by repeat (first | with_reducible exact Has.here | with_reducible refine Has.there ?_)))))) rfl rfl rfl ?_
              rintro _ _ ⟨⟨⟩, rfl, hA⟩
              simp only [List.cons_append, List.nil_append] at hA
              replace hA := hA.symm
              subst hA
              rw [decide_eq_true (rfl : (lentD q.A.l) = (lentD q.A.l))]
              refine WL_rd (Rd_move rfl) rfl rfl rfl ?_
              refine WL_rd (Rd_move rfl) rfl rfl rfl ?_
              refine WL_rd (Rd_fieldAddr rfl fo115_5) rfl rfl rfl ?_
              refine WL_rd (Rd_load rfl tk76 (v := q.B.v)) rfl rfl rfl ?_
              refine WL_ac (Ac_call cf123 rfl (hs := Ct.un0 (Xs := [arr a45 cap45 32 42 fD (lentD q.B.l), old W]) (keptD_ct (X := sep [arr a45 cap45 32 42 fD (lentD q.B.l), old W]) (l := (lentD q.B.l)) (l' := q.B.l) (hS := hB1.pk (by repeat (first | with_reducible exact Has.here | with_reducible refine Has.there ?_))) (hS' := hqB.pk (by repeat (first | with_reducible exact Has.here | with_reducible refine Has.there ?_)))))) rfl rfl rfl ?_
              rintro _ _ ⟨⟨⟩, rfl, hA⟩
              simp only [List.cons_append, List.nil_append] at hA
              replace hA := hA.symm
              subst hA
              rw [decide_eq_true (rfl : (lentD q.B.l) = (lentD q.B.l))]
              refine WL_rd (Rd_pickT rfl rfl) rfl rfl rfl ?_
              refine WL_rd (Rd_assign rfl) rfl rfl rfl ?_
              refine WL_end hK61 ?_
              refine WC_sr fun K62 hK62 => ?_
              refine WL_rd (Rd_move rfl) rfl rfl rfl ?_
              refine WL_ac (Ac_call cf124 rfl (hs := overD_ct (l := (lentD q.A.l)) (a := a42) (cap := cap42))) rfl rfl rfl ?_
              rintro _ _ ⟨⟨⟩, rfl, hA⟩
              simp only [List.cons_append, List.nil_append] at hA
              replace hA := hA.symm
              subst hA
              refine WL_end hK62 ?_
              refine WC_sr fun K63 hK63 => ?_
              refine WL_rd (Rd_move rfl) rfl rfl rfl ?_
              refine WL_ac (Ac_call cf124 rfl (hs := overD_ct (l := (lentD q.B.l)) (a := a45) (cap := cap45))) rfl rfl rfl ?_
              rintro _ _ ⟨⟨⟩, rfl, hA⟩
              simp only [List.cons_append, List.nil_append] at hA
              replace hA := hA.symm
              subst hA
              refine WL_end hK63 ?_
              refine WC_sr fun K64 hK64 => ?_
              refine WL_rd (Rd_move rfl) rfl rfl rfl ?_
              refine WL_rd (Rd_move rfl) rfl rfl rfl ?_
              refine WL_rd (Rd_move rfl) rfl rfl rfl ?_
              refine WL_rd (Rd_pickT rfl rfl) rfl rfl rfl ?_
              refine WL_rd (Rd_assign rfl) rfl rfl rfl ?_
              refine WL_end hK64 ?_
              refine WC_ret ?_
              exact hret.goE ⟨s, hB.up (by omega)⟩ (Rs1 rfl rfl) rfl
            · try simp only [decide_eq_true_eq, decide_eq_false_iff_not, Bool.not_eq_true', Bool.not_eq_false', Bool.not_eq_true, Bool.not_eq_false, Int.not_lt, Int.not_le, Nat.not_lt, Nat.not_le, Decidable.not_not, ne_eq] at hc6
              refine WC_sr fun K65 hK65 => ?_
              refine WL_rd (Rd_fieldAddr rfl fo115_1) rfl rfl rfl ?_
              refine WL_rd (Rd_load rfl tk3 (v := .int .i64 q.n)) rfl rfl rfl ?_
              refine WL_ac (Ac_call cf97 rfl (hs := width_ct (n := q.n))) rfl rfl rfl ?_
              rintro _ _ ⟨⟨⟩, rfl, hA⟩
              simp only [List.cons_append, List.nil_append] at hA
              replace hA := hA.symm
              subst hA
              refine WL_rd (Rd_move rfl) rfl rfl rfl ?_
              refine WL_rd (Rd_ext0 rfl) rfl rfl rfl ?_
              refine WL_rd (Rd_ext1 rfl) rfl rfl rfl ?_
              refine WL_rd (Rd_assign rfl) rfl rfl rfl ?_
              refine WL_rd (Rd_assign rfl) rfl rfl rfl ?_
              refine WL_end hK65 ?_
              refine WC_sr fun K66 hK66 => ?_
              refine WL_rd (Rd_fieldAddr rfl fo115_1) rfl rfl rfl ?_
              refine WL_rd (Rd_load rfl tk3 (v := .int .i64 q.n)) rfl rfl rfl ?_
              refine WL_ac (Ac_call cf122 rfl (hs := widthR_ct (n := q.n))) rfl rfl rfl ?_
              rintro _ _ ⟨⟨⟩, rfl, hA⟩
              simp only [List.cons_append, List.nil_append] at hA
              replace hA := hA.symm
              subst hA
              refine WL_rd (Rd_assign rfl) rfl rfl rfl ?_
              refine WL_end hK66 ?_
              refine WC_region ?_
              refine WL_rd (Rd_move rfl) rfl rfl rfl ?_
              refine WL_rd (Rd_move rfl) rfl rfl rfl ?_
              refine WL_rd (Rd_isT (Rd_eqlN rfl rfl)) rfl rfl rfl ?_
              refine WL_rd (Rd_move rfl) rfl rfl rfl ?_
              refine WL_rd (Rd_move rfl) rfl rfl rfl ?_
              refine WL_rd (Rd_eqlN (j := 0) rfl rfl) rfl rfl rfl ?_
              refine WL_rd (Rd_move rfl) rfl rfl rfl ?_
              refine WL_bool 68 rfl (fun hg67 => ?_) (fun hg67 => ?_)
              · try simp only [decide_eq_true_eq, decide_eq_false_iff_not, Bool.not_eq_true', Bool.not_eq_false', Bool.not_eq_true, Bool.not_eq_false, Int.not_lt, Int.not_le, Nat.not_lt, Nat.not_le, Decidable.not_not, ne_eq] at hg67
                have q0 := hg67
                have qe := wdM_0 q0
                refine WL_rd (Rd_move rfl) rfl rfl rfl ?_
                refine WL_rd (Rd_isT (Rd_eqlN (j := 110) rfl rfl) (decide_eq_true qe)) rfl rfl rfl ?_
                refine WL_rd (Rd_pickT rfl rfl) rfl rfl rfl ?_
                refine WL_rd (Rd_move rfl) rfl rfl rfl ?_
                refine WL_skip rfl rfl rfl ?_
                refine WL_skip rfl rfl rfl ?_
                refine WL_skip rfl rfl rfl ?_
                refine WL_skip rfl rfl rfl ?_
                refine WL_skip rfl rfl rfl ?_
                refine WL_skip rfl rfl rfl ?_
                refine WL_rd (Rd_pickT rfl rfl) rfl rfl rfl ?_
                refine WL_rd (Rd_pickT rfl rfl) rfl rfl rfl ?_
                refine WL_rd (Rd_assign rfl) rfl rfl rfl ?_
                refine WL_nil ?_
                refine Ps_next hK6 ?_
                refine WC_sr fun K68 hK68 => ?_
                refine WL_rd (Rd_move rfl) rfl rfl rfl ?_
                refine WL_rd (Rd_fieldAddr rfl fo115_4) rfl rfl rfl ?_
                refine WL_rd (Rd_load rfl tk76 (v := q.A.v)) rfl rfl rfl ?_
                refine WL_ac (Ac_call cf123 rfl (hs := Ct.un0 (Xs := [arr a42 cap42 32 42 fD (lentD q.A.l), old W]) (keptD_ct (X := sep [arr a42 cap42 32 42 fD (lentD q.A.l), old W]) (l := (lentD q.A.l)) (l' := q.A.l) (hS := hA1.pk (by repeat (first | with_reducible exact Has.here | with_reducible refine Has.there ?_))) (hS' := hqA.pk (by repeat (first | with_reducible exact Has.here | with_reducible refine Has.there ?_)))))) rfl rfl rfl ?_
                rintro _ _ ⟨⟨⟩, rfl, hA⟩
                simp only [List.cons_append, List.nil_append] at hA
                replace hA := hA.symm
                subst hA
                rw [decide_eq_true (rfl : (lentD q.A.l) = (lentD q.A.l))]
                refine WL_rd (Rd_move rfl) rfl rfl rfl ?_
                refine WL_rd (Rd_move rfl) rfl rfl rfl ?_
                refine WL_rd (Rd_fieldAddr rfl fo115_5) rfl rfl rfl ?_
                refine WL_rd (Rd_load rfl tk76 (v := q.B.v)) rfl rfl rfl ?_
                refine WL_ac (Ac_call cf123 rfl (hs := Ct.un0 (Xs := [arr a45 cap45 32 42 fD (lentD q.B.l), old W]) (keptD_ct (X := sep [arr a45 cap45 32 42 fD (lentD q.B.l), old W]) (l := (lentD q.B.l)) (l' := q.B.l) (hS := hB1.pk (by repeat (first | with_reducible exact Has.here | with_reducible refine Has.there ?_))) (hS' := hqB.pk (by repeat (first | with_reducible exact Has.here | with_reducible refine Has.there ?_)))))) rfl rfl rfl ?_
                rintro _ _ ⟨⟨⟩, rfl, hA⟩
                simp only [List.cons_append, List.nil_append] at hA
                replace hA := hA.symm
                subst hA
                rw [decide_eq_true (rfl : (lentD q.B.l) = (lentD q.B.l))]
                refine WL_rd (Rd_pickT rfl rfl) rfl rfl rfl ?_
                refine WL_rd (Rd_assign rfl) rfl rfl rfl ?_
                refine WL_end hK68 ?_
                refine WC_sr fun K69 hK69 => ?_
                refine WL_rd (Rd_move rfl) rfl rfl rfl ?_
                refine WL_ac (Ac_call cf124 rfl (hs := overD_ct (l := (lentD q.A.l)) (a := a42) (cap := cap42))) rfl rfl rfl ?_
                rintro _ _ ⟨⟨⟩, rfl, hA⟩
                simp only [List.cons_append, List.nil_append] at hA
                replace hA := hA.symm
                subst hA
                refine WL_end hK69 ?_
                refine WC_sr fun K70 hK70 => ?_
                refine WL_rd (Rd_move rfl) rfl rfl rfl ?_
                refine WL_ac (Ac_call cf124 rfl (hs := overD_ct (l := (lentD q.B.l)) (a := a45) (cap := cap45))) rfl rfl rfl ?_
                rintro _ _ ⟨⟨⟩, rfl, hA⟩
                simp only [List.cons_append, List.nil_append] at hA
                replace hA := hA.symm
                subst hA
                refine WL_end hK70 ?_
                refine WC_sr fun K71 hK71 => ?_
                refine WL_rd (Rd_move rfl) rfl rfl rfl ?_
                refine WL_rd (Rd_move rfl) rfl rfl rfl ?_
                refine WL_rd (Rd_move rfl) rfl rfl rfl ?_
                refine WL_rd (Rd_pickT rfl rfl) rfl rfl rfl ?_
                refine WL_rd (Rd_assign rfl) rfl rfl rfl ?_
                refine WL_end hK71 ?_
                refine WC_ret ?_
                exact hret.goE ⟨s, hB.up (by omega)⟩ (Rs1 rfl rfl) rfl
              · try simp only [decide_eq_true_eq, decide_eq_false_iff_not, Bool.not_eq_true', Bool.not_eq_false', Bool.not_eq_true, Bool.not_eq_false, Int.not_lt, Int.not_le, Nat.not_lt, Nat.not_le, Decidable.not_not, ne_eq] at hg67
                have q0 := hg67
                have qe := wdM_pos q0
                refine WL_skip rfl rfl rfl ?_
                refine WL_skip rfl rfl rfl ?_
                refine WL_rd (Rd_pickF rfl rfl) rfl rfl rfl ?_
                refine WL_rd (Rd_move rfl) rfl rfl rfl ?_
                refine WL_rd (Rd_move rfl) rfl rfl rfl ?_
                refine WL_rd (Rd_isT (Rd_neqN (j := 0) rfl rfl) (by first | exact decide_eq_true q0 | simp [q0])) rfl rfl rfl ?_
                refine WL_rd (Rd_move rfl) rfl rfl rfl ?_
                refine WL_rd (Rd_move rfl) rfl rfl rfl ?_
                refine WL_rd (Rd_isT (Rd_eqlN (j := 0) rfl rfl) (decide_eq_true qe)) rfl rfl rfl ?_
                refine WL_rd (Rd_pickT rfl rfl) rfl rfl rfl ?_
                refine WL_rd (Rd_pickF rfl rfl) rfl rfl rfl ?_
                refine WL_rd (Rd_pickT rfl rfl) rfl rfl rfl ?_
                refine WL_rd (Rd_assign rfl) rfl rfl rfl ?_
                refine WL_nil ?_
                refine Ps_next hK6 ?_
                refine WC_sr fun K72 hK72 => ?_
                refine WL_rd (Rd_move rfl) rfl rfl rfl ?_
                refine WL_rd (Rd_fieldAddr rfl fo115_4) rfl rfl rfl ?_
                refine WL_rd (Rd_load rfl tk76 (v := q.A.v)) rfl rfl rfl ?_
                refine WL_ac (Ac_call cf123 rfl (hs := Ct.un0 (Xs := [arr a42 cap42 32 42 fD (lentD q.A.l), old W]) (keptD_ct (X := sep [arr a42 cap42 32 42 fD (lentD q.A.l), old W]) (l := (lentD q.A.l)) (l' := q.A.l) (hS := hA1.pk (by repeat (first | with_reducible exact Has.here | with_reducible refine Has.there ?_))) (hS' := hqA.pk (by repeat (first | with_reducible exact Has.here | with_reducible refine Has.there ?_)))))) rfl rfl rfl ?_
                rintro _ _ ⟨⟨⟩, rfl, hA⟩
                simp only [List.cons_append, List.nil_append] at hA
                replace hA := hA.symm
                subst hA
                rw [decide_eq_true (rfl : (lentD q.A.l) = (lentD q.A.l))]
                refine WL_rd (Rd_move rfl) rfl rfl rfl ?_
                refine WL_rd (Rd_move rfl) rfl rfl rfl ?_
                refine WL_rd (Rd_fieldAddr rfl fo115_5) rfl rfl rfl ?_
                refine WL_rd (Rd_load rfl tk76 (v := q.B.v)) rfl rfl rfl ?_
                refine WL_ac (Ac_call cf123 rfl (hs := Ct.un0 (Xs := [arr a45 cap45 32 42 fD (lentD q.B.l), old W]) (keptD_ct (X := sep [arr a45 cap45 32 42 fD (lentD q.B.l), old W]) (l := (lentD q.B.l)) (l' := q.B.l) (hS := hB1.pk (by repeat (first | with_reducible exact Has.here | with_reducible refine Has.there ?_))) (hS' := hqB.pk (by repeat (first | with_reducible exact Has.here | with_reducible refine Has.there ?_)))))) rfl rfl rfl ?_
                rintro _ _ ⟨⟨⟩, rfl, hA⟩
                simp only [List.cons_append, List.nil_append] at hA
                replace hA := hA.symm
                subst hA
                rw [decide_eq_true (rfl : (lentD q.B.l) = (lentD q.B.l))]
                refine WL_rd (Rd_pickT rfl rfl) rfl rfl rfl ?_
                refine WL_rd (Rd_assign rfl) rfl rfl rfl ?_
                refine WL_end hK72 ?_
                refine WC_sr fun K73 hK73 => ?_
                refine WL_rd (Rd_move rfl) rfl rfl rfl ?_
                refine WL_ac (Ac_call cf124 rfl (hs := overD_ct (l := (lentD q.A.l)) (a := a42) (cap := cap42))) rfl rfl rfl ?_
                rintro _ _ ⟨⟨⟩, rfl, hA⟩
                simp only [List.cons_append, List.nil_append] at hA
                replace hA := hA.symm
                subst hA
                refine WL_end hK73 ?_
                refine WC_sr fun K74 hK74 => ?_
                refine WL_rd (Rd_move rfl) rfl rfl rfl ?_
                refine WL_ac (Ac_call cf124 rfl (hs := overD_ct (l := (lentD q.B.l)) (a := a45) (cap := cap45))) rfl rfl rfl ?_
                rintro _ _ ⟨⟨⟩, rfl, hA⟩
                simp only [List.cons_append, List.nil_append] at hA
                replace hA := hA.symm
                subst hA
                refine WL_end hK74 ?_
                refine WC_sr fun K75 hK75 => ?_
                refine WL_rd (Rd_move rfl) rfl rfl rfl ?_
                refine WL_rd (Rd_move rfl) rfl rfl rfl ?_
                refine WL_rd (Rd_move rfl) rfl rfl rfl ?_
                refine WL_rd (Rd_pickT rfl rfl) rfl rfl rfl ?_
                refine WL_rd (Rd_assign rfl) rfl rfl rfl ?_
                refine WL_end hK75 ?_
                refine WC_ret ?_
                exact hret.goE ⟨s, hB.up (by omega)⟩ (Rs1 rfl rfl) rfl
end Go.Proofs.Ythkchjcodibaeaa
