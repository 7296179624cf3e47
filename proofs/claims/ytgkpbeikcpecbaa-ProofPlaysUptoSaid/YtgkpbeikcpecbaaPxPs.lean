/-
  Contracts of functions that the claim reaches, or the logic and the plain laws that they rest on, or the row over them. (Conditions: none beyond the statement.)
-/
import Derived.Test.YtgkpbeikcpecbaaPxDe
import Derived.Test.YtgkpbeikcpecbaaPfZ
import Derived.Test.YtgkpbeikcpecbaaLibR
set_option linter.all false
namespace Go.Proofs.Ytgkpbeikcpecbaa
open Go.RowKit Go.SL Go.ShM
set_option maxHeartbeats 1000000
set_option maxRecDepth 20000
set_option linter.all false
theorem cf150 : cfn Try.prog 150 = true := by kernel_rfl
theorem cf151 : cfn Try.prog 151 = true := by kernel_rfl
theorem cf152 : cfn Try.prog 152 = true := by kernel_rfl
theorem cf153 : cfn Try.prog 153 = true := by kernel_rfl
theorem cf155 : cfn Try.prog 155 = true := by kernel_rfl
theorem cf156 : cfn Try.prog 156 = true := by kernel_rfl
theorem el120 : el Try.prog 120 = some (1, 24) := by kernel_rfl
theorem fo154_0 : fo Try.prog 154 0 = some (0, 151) := by kernel_rfl
theorem fo154_1 : fo Try.prog 154 1 = some (4, 152) := by kernel_rfl
theorem fo154_2 : fo Try.prog 154 2 = some (8, 109) := by kernel_rfl
theorem fo154_3 : fo Try.prog 154 3 = some (9, 145) := by kernel_rfl
theorem fo154_4 : fo Try.prog 154 4 = some (10, 145) := by kernel_rfl
theorem fo156_0 : fo Try.prog 156 0 = some (0, 5) := by kernel_rfl
theorem fo156_1 : fo Try.prog 156 1 = some (1, 5) := by kernel_rfl
theorem fo156_2 : fo Try.prog 156 2 = some (2, 5) := by kernel_rfl
theorem fo156_3 : fo Try.prog 156 3 = some (3, 3) := by kernel_rfl
theorem fo156_4 : fo Try.prog 156 4 = some (4, 120) := by kernel_rfl
theorem sz129 : sz Try.prog 129 = some 1 := by kernel_rfl
theorem sz145 : sz Try.prog 145 = some 1 := by kernel_rfl
theorem tk129 : tk Try.prog 129 = some none := by kernel_rfl
theorem tk145 : tk Try.prog 145 = some none := by kernel_rfl
theorem ud151 : Try.prog.underlying 151 = some (.array 4 121) := by kernel_rfl
theorem ud152 : Try.prog.underlying 152 = some (.array 4 129) := by kernel_rfl
def FPR (r : PR) : Asn := sep [cl r.pb 161 [.int .i64 ((r.n : Nat) : Int), .int .i64 (((wdM r.n) : Nat) : Int), .map (some r.m)], mpI r.m (kv r.K), cl r.qb 136 [.int .i64 ((r.n : Nat) : Int), .int .i64 (((wdM r.n) : Nat) : Int), sl (some r.gi) (2 * (wdM r.n)) r.ci, sl (some r.gd) (2 * (wdM r.n)) r.cd], arr (some r.gi) r.ci 1 4 eBool (isL r.K (wdM r.n)), arr (some r.gd) r.cd 32 42 fD (dgL r.K (wdM r.n))]

theorem sat_gv {A B R : List Asn} {w : World} (h : Gv A B R) (hs : sat w A) : sat w (sep B :: R) := sat_app.2 (sat_perm h hs)

theorem set_self {α : Type} {l : List α} {i : Nat} {x : α} (h : l[i]? = some x) : l.set i x = l := by
  obtain ⟨hi, e⟩ := List.getElem?_eq_some_iff.1 h
  rw [← e, List.set_getElem_self]

theorem step_ct {X : Asn} {kb n : Nat} {rs : List PR} {s : BKp} {x : PS} (hG : GD rs := by assumption) (hB : BP s n := by assumption) (hq : OKnq [X] 1048576 x.q := by assumption) (hnn : n ≤ 10000000 := by omega) : Ct Try.prog 92 [.pointer (some ⟨kb, 0, none⟩), .agg (ePS x).toArray] [cl kb 154 (PLc rs s), star FPR rs, star (FP 3) s.is, arr s.ia s.ic 1 101 ePI s.is, star (FPN 133) s.ls, arr s.la s.lc 1 120 ePN s.ls, star (FPN 133) s.ts, arr s.ta s.tc 1 120 ePN s.ts, X] (fun g : {g : List PR × BKp // GD g.1 ∧ BP g.2 (n + 1)} => .bool true) (fun g => [cl kb 154 (PLc g.val.1 g.val.2), star FPR g.val.1, star (FP 3) g.val.2.is, arr g.val.2.ia g.val.2.ic 1 101 ePI g.val.2.is, star (FPN 133) g.val.2.ls, arr g.val.2.la g.val.2.lc 1 120 ePN g.val.2.ls, star (FPN 133) g.val.2.ts, arr g.val.2.ta g.val.2.tc 1 120 ePN g.val.2.ts, X]) := by
 refine Ct_body (n := 242) Try.func92 rfl rfl rfl fun F w0 Q hret hnorm hp => ?_
 change WC _ _ _ _ _ _ _ (_ :: _ :: _ :: _ :: _ :: _ :: _ :: _ :: _ :: F)
 have h4 := hG.1
 have hi4 : (x.on.toNat % 4) < 4 := Nat.mod_lt _ (by decide)
 have ht4 : (x.to.toNat % 4) < 4 := Nat.mod_lt _ (by decide)
 obtain ⟨r, hri, hrk⟩ := hG.at (i := (x.on.toNat % 4)) hi4
 have h1 := hrk.h1
 have h2 := hrk.h2
 have hsk := hrk.hs
 have hr1 := hrk.hr
 have hwo := wd_ok h1 h2
 have hw1 := hwo.2.2.2.2
 obtain ⟨hqS, hqn⟩ := hq
 have hlI := hB.lI
 have hlL := hB.lL
 have hlT := hB.len
 have hz32 : (List.replicate 32 0#8).length = 32 := rfl
 have hdi := Dg_len ((r.K x.i).getD zD)
 have hdl := Dg_len ((lfK r.n (wdM r.n) r.K x.i).getD zD)
 have hcl : (chN r.n r.K x.i).length ≤ 100000 := chN_short h1 h2
 have hnl : (ndsN r.n r.K x.i).length ≤ 100000 := ndsN_short h1 h2 hr1
 have hzl : (zL (ndsN r.n r.K x.i)).length ≤ 100000 := by rw [zL_len]; exact hnl
 refine WC_open FPR rs (x.on.toNat % 4) (x := r) hri ?_
 rw [show FPR r = sep [cl r.pb 161 [.int .i64 ((r.n : Nat) : Int), .int .i64 (((wdM r.n) : Nat) : Int), .map (some r.m)], mpI r.m (kv r.K), cl r.qb 136 [.int .i64 ((r.n : Nat) : Int), .int .i64 (((wdM r.n) : Nat) : Int), sl (some r.gi) (2 * (wdM r.n)) r.ci, sl (some r.gd) (2 * (wdM r.n)) r.cd], arr (some r.gi) r.ci 1 4 eBool (isL r.K (wdM r.n)), arr (some r.gd) r.cd 32 42 fD (dgL r.K (wdM r.n))] from rfl]
 refine WC_unpk [cl r.pb 161 [.int .i64 ((r.n : Nat) : Int), .int .i64 (((wdM r.n) : Nat) : Int), .map (some r.m)], mpI r.m (kv r.K), cl r.qb 136 [.int .i64 ((r.n : Nat) : Int), .int .i64 (((wdM r.n) : Nat) : Int), sl (some r.gi) (2 * (wdM r.n)) r.ci, sl (some r.gd) (2 * (wdM r.n)) r.cd], arr (some r.gi) r.ci 1 4 eBool (isL r.K (wdM r.n)), arr (some r.gd) r.cd 32 42 fD (dgL r.K (wdM r.n))] ?_
 simp only [List.cons_append, List.nil_append]
 refine WC_sr fun K1 hK1 => ?_
 refine WL_ac (Ac_box (xs := ePS x) rfl rfl) rfl rfl rfl ?_
 rintro _ _ ⟨b3, rfl, rfl⟩
 refine WL_r (Rd_assign rfl) rfl ?_
 refine WL_end hK1 ?_
 refine WC_seq fun K2 hK2 => ?_
 refine WC_drawA mix (fun i => ([2, 2, 2, 2, 2, 2, 2, 2, 2] : List Nat).getD i 0) ?_
 refine WJ_tp 0 rfl (Rd_move rfl) rfl (hp _ _) ?_
 refine WJ_tp 1 rfl (Rd_fieldAddr rfl fo156_0) rfl (hp _ _) ?_
 refine WJ_tk 2 (Rd_load rfl tk5 (v := .int .u8 (x.on.toNat : Int))) hp ?_ rfl (by kernel_rfl) rfl rfl rfl
 refine WJ_tp 3 rfl (Rd_rem' (r := (((x.on.toNat % 4) : Nat) : Int)) rfl rfl (by decide) (by rw [Int.tmod_eq_emod_of_nonneg (by omega)]; rfl)) rfl (hp _ _) ?_
 refine WJ_tp 4 rfl (Rd_nilCheck rfl) rfl (hp _ _) ?_
 refine WJ_tp 5 rfl (Rd_fieldAddr rfl fo154_0) rfl (hp _ _) ?_
 refine WJ_tp 6 rfl (Rd_indexA (x.on.toNat % 4) rfl rfl ud151 sz121 rfl hi4) rfl (hp _ _) ?_
 refine WJ_tk 7 (Rd_load rfl tk121 (v := .pointer (some ⟨r.pb, 0, none⟩)) (hi := by rw [Nat.zero_add, Nat.mul_one]; exact PLc_x hri)) hp ?_ rfl (by kernel_rfl) rfl rfl rfl
 refine WJ_tp 8 rfl (Rd_assign rfl) rfl (hp _ _) ?_
 refine WJ_done (by kernel_rfl) ?_
 refine Ps_next hK2 ?_
 refine WC_seq fun K3 hK3 => ?_
 refine WC_drawA mix (fun i => ([2, 2, 2, 2, 2, 2, 2, 2, 2] : List Nat).getD i 0) ?_
 refine WJ_tp 0 rfl (Rd_move rfl) rfl (hp _ _) ?_
 refine WJ_tp 1 rfl (Rd_fieldAddr rfl fo156_0) rfl (hp _ _) ?_
 refine WJ_tk 2 (Rd_load rfl tk5 (v := .int .u8 (x.on.toNat : Int))) hp ?_ rfl (by kernel_rfl) rfl rfl rfl
 refine WJ_tp 3 rfl (Rd_rem' (r := (((x.on.toNat % 4) : Nat) : Int)) rfl rfl (by decide) (by rw [Int.tmod_eq_emod_of_nonneg (by omega)]; rfl)) rfl (hp _ _) ?_
 refine WJ_tp 4 rfl (Rd_nilCheck rfl) rfl (hp _ _) ?_
 refine WJ_tp 5 rfl (Rd_fieldAddr rfl fo154_1) rfl (hp _ _) ?_
 refine WJ_tp 6 rfl (Rd_indexA (x.on.toNat % 4) rfl rfl ud152 sz129 rfl hi4) rfl (hp _ _) ?_
 refine WJ_tk 7 (Rd_load rfl tk129 (v := .pointer (some ⟨r.qb, 0, none⟩)) (hi := by rw [Nat.mul_one]; exact PLc_y h4 hri)) hp ?_ rfl (by kernel_rfl) rfl rfl rfl
 refine WJ_tp 8 rfl (Rd_assign rfl) rfl (hp _ _) ?_
 refine WJ_done (by kernel_rfl) ?_
 refine Ps_next hK3 ?_
 refine WC_seq fun K4 hK4 => ?_
 refine WC_sr fun K5 hK5 => ?_
 refine WL_r (Rd_fieldAddr rfl fo156_2) rfl ?_
 refine WL_r (Rd_load rfl tk5 (v := .int .u8 (x.dd.toNat : Int))) rfl ?_
 refine WL_r (Rd_rem' (r := (((x.dd.toNat % 8) : Nat) : Int)) rfl rfl (by decide) (by rw [Int.tmod_eq_emod_of_nonneg (by omega)]; rfl)) rfl ?_
 refine WL_end hK5 ?_
 refine WC_block ?_
 refine WC_sr fun K6 hK6 => ?_
 refine WL_r (Rd_eqlN (i := (x.dd.toNat % 8)) (j := 0) rfl rfl) rfl ?_
 refine WL_r (Rd_assign rfl) rfl ?_
 refine WL_end hK6 ?_
 refine WC_cond rfl (fun hc0 => ?_) (fun hc0 => ?_)
 ·try simp only [dz, ne_eq] at hc0
  refine WC_sr fun K7 hK7 => ?_
  refine WL_r (Rd_move rfl) rfl ?_
  refine WL_r (Rd_fieldAddr rfl fo156_4) rfl ?_
  refine WL_r (Rd_load rfl tk120 (v := x.q.v)) rfl ?_
  refine WL_ac (Ac_call cf150 rfl (hs := lput_ct (pb := r.pb) (m := r.m) (n := r.n) (w := (wdM r.n)) (Kn := r.K) (X := X) (v := x.q.v) (l := x.q.l) (hS := hqS) (hs := hsk) (hn1 := h1) (hw1 := hw1))) rfl rfl rfl ?_
  rintro _ _ ⟨⟨⟩, rfl, hA⟩
  simp only [List.cons_append, List.nil_append] at hA
  replace hA := hA.symm
  subst hA
  refine WL_r (Rd_move rfl) rfl ?_
  refine WL_r (Rd_ext0 rfl) rfl ?_
  refine WL_r (Rd_ext1 rfl) rfl ?_
  refine WL_r (Rd_assign rfl) rfl ?_
  refine WL_r (Rd_assign rfl) rfl ?_
  refine WL_end hK7 ?_
  refine WC_sr fun K8 hK8 => ?_
  refine WL_r (Rd_move rfl) rfl ?_
  refine WL_r (Rd_move rfl) rfl ?_
  refine WL_r (Rd_move rfl) rfl ?_
  refine WL_r (Rd_move rfl) rfl ?_
  refine WL_r (Rd_fieldAddr rfl fo156_4) rfl ?_
  refine WL_r (Rd_load rfl tk120 (v := x.q.v)) rfl ?_
  refine WL_ac (Ac_call cf79 rfl (hs := dPut_ct (qb := r.qb) (gi := r.gi) (ci := r.ci) (gd := r.gd) (cd := r.cd) (n := r.n) (w := (wdM r.n)) (Kn := r.K) (X := X) (v := x.q.v) (l := x.q.l) (hS := hqS) (hw1 := hw1))) rfl rfl rfl ?_
  rintro _ _ ⟨⟨gi2, ci2, gd2, cd2⟩, rfl, hA⟩
  simp only [List.cons_append, List.nil_append] at hA
  replace hA := hA.symm
  subst hA
  have hps := put_same x.q.l hsk hw1 hr1
  rw [← hps.1, ← hps.2]
  refine WL_pk0 ?_
  refine WL_pull (arr (some gd2) cd2 32 42 fD (dgL (putK (wdM r.n) r.K x.q.l) (wdM r.n))) ?_
  refine WL_pull (arr (some gi2) ci2 1 4 eBool (isL (putK (wdM r.n) r.K x.q.l) (wdM r.n))) ?_
  refine WL_pull (cl r.qb 136 [.int .i64 ((r.n : Nat) : Int), .int .i64 (((wdM r.n) : Nat) : Int), sl (some gi2) (2 * (wdM r.n)) ci2, sl (some gd2) (2 * (wdM r.n)) cd2]) ?_
  refine WL_pull (mpI r.m (kv (putK (wdM r.n) r.K x.q.l))) ?_
  refine WL_pull (cl r.pb 161 [.int .i64 ((r.n : Nat) : Int), .int .i64 (((wdM r.n) : Nat) : Int), .map (some r.m)]) ?_
  rw [show sep [cl r.pb 161 [.int .i64 ((r.n : Nat) : Int), .int .i64 (((wdM r.n) : Nat) : Int), .map (some r.m)], mpI r.m (kv (putK (wdM r.n) r.K x.q.l)), cl r.qb 136 [.int .i64 ((r.n : Nat) : Int), .int .i64 (((wdM r.n) : Nat) : Int), sl (some gi2) (2 * (wdM r.n)) ci2, sl (some gd2) (2 * (wdM r.n)) cd2], arr (some gi2) ci2 1 4 eBool (isL (putK (wdM r.n) r.K x.q.l) (wdM r.n)), arr (some gd2) cd2 32 42 fD (dgL (putK (wdM r.n) r.K x.q.l) (wdM r.n))] = FPR (⟨r.n, (putK (wdM r.n) r.K x.q.l), r.pb, r.m, r.qb, gi2, ci2, gd2, cd2⟩ : PR) from rfl]
  refine WL_shut FPR rs (x.on.toNat % 4) (⟨r.n, (putK (wdM r.n) r.K x.q.l), r.pb, r.m, r.qb, gi2, ci2, gd2, cd2⟩ : PR) (by rw [h4]; omega) ?_
  rw [← PLc_keep (s := s) (r' := (⟨r.n, (putK (wdM r.n) r.K x.q.l), r.pb, r.m, r.qb, gi2, ci2, gd2, cd2⟩ : PR)) hri rfl rfl]
  refine WL_r (Rd_isT (Rd_eql rfl rfl) (by simp)) rfl ?_
  refine WL_r (Rd_pickT rfl rfl) rfl ?_
  refine WL_r (Rd_assign rfl) rfl ?_
  refine WL_end hK8 ?_
  refine WC_ret ?_
  exact hret.gfE ⟨((rs.set (x.on.toNat % 4) (⟨r.n, (putK (wdM r.n) r.K x.q.l), r.pb, r.m, r.qb, gi2, ci2, gd2, cd2⟩ : PR), s) : List PR × BKp), ⟨hG.set ⟨h1, h2, putK_sup hsk hw1, putK_one hsk hw1 hr1⟩, hB.up (by omega)⟩⟩ (Rs1 rfl rfl) rfl
 ·try simp only [dz, ne_eq] at hc0
  refine WC_sr fun K9 hK9 => ?_
  refine WL_r (Rd_eqlN (i := (x.dd.toNat % 8)) (j := 7) rfl rfl) rfl ?_
  refine WL_r (Rd_assign rfl) rfl ?_
  refine WL_end hK9 ?_
  refine WC_cond rfl (fun hc1 => ?_) (fun hc1 => ?_)
  ·try simp only [dz, ne_eq] at hc1
   refine WC_sr fun K10 hK10 => ?_
   refine WL_r (Rd_move rfl) rfl ?_
   refine WL_r (Rd_move rfl) rfl ?_
   refine WL_r (Rd_fieldAddr rfl fo156_4) rfl ?_
   refine WL_r (Rd_load rfl tk120 (v := x.q.v)) rfl ?_
   refine WL_ac (Ac_call cf151 rfl (hs := twice_ct (pb := r.pb) (m := r.m) (qb := r.qb) (gi := r.gi) (ci := r.ci) (gd := r.gd) (cd := r.cd) (n := r.n) (w := (wdM r.n)) (Kn := r.K) (X := X) (v := x.q.v) (l := x.q.l) (hS := hqS) (hs := hsk) (hr := hr1) (hn1 := h1) (hw1 := hw1))) rfl rfl rfl ?_
   rintro _ _ ⟨⟨gi2, ci2, gd2, cd2⟩, rfl, hA⟩
   simp only [List.cons_append, List.nil_append] at hA
   replace hA := hA.symm
   subst hA
   refine WL_pk0 ?_
   refine WL_pull (arr (some gd2) cd2 32 42 fD (dgL (putK (wdM r.n) (putK (wdM r.n) r.K x.q.l) (bkL x.q.l)) (wdM r.n))) ?_
   refine WL_pull (arr (some gi2) ci2 1 4 eBool (isL (putK (wdM r.n) (putK (wdM r.n) r.K x.q.l) (bkL x.q.l)) (wdM r.n))) ?_
   refine WL_pull (cl r.qb 136 [.int .i64 ((r.n : Nat) : Int), .int .i64 (((wdM r.n) : Nat) : Int), sl (some gi2) (2 * (wdM r.n)) ci2, sl (some gd2) (2 * (wdM r.n)) cd2]) ?_
   refine WL_pull (mpI r.m (kv (putK (wdM r.n) (putK (wdM r.n) r.K x.q.l) (bkL x.q.l)))) ?_
   refine WL_pull (cl r.pb 161 [.int .i64 ((r.n : Nat) : Int), .int .i64 (((wdM r.n) : Nat) : Int), .map (some r.m)]) ?_
   rw [show sep [cl r.pb 161 [.int .i64 ((r.n : Nat) : Int), .int .i64 (((wdM r.n) : Nat) : Int), .map (some r.m)], mpI r.m (kv (putK (wdM r.n) (putK (wdM r.n) r.K x.q.l) (bkL x.q.l))), cl r.qb 136 [.int .i64 ((r.n : Nat) : Int), .int .i64 (((wdM r.n) : Nat) : Int), sl (some gi2) (2 * (wdM r.n)) ci2, sl (some gd2) (2 * (wdM r.n)) cd2], arr (some gi2) ci2 1 4 eBool (isL (putK (wdM r.n) (putK (wdM r.n) r.K x.q.l) (bkL x.q.l)) (wdM r.n)), arr (some gd2) cd2 32 42 fD (dgL (putK (wdM r.n) (putK (wdM r.n) r.K x.q.l) (bkL x.q.l)) (wdM r.n))] = FPR (⟨r.n, (putK (wdM r.n) (putK (wdM r.n) r.K x.q.l) (bkL x.q.l)), r.pb, r.m, r.qb, gi2, ci2, gd2, cd2⟩ : PR) from rfl]
   refine WL_shut FPR rs (x.on.toNat % 4) (⟨r.n, (putK (wdM r.n) (putK (wdM r.n) r.K x.q.l) (bkL x.q.l)), r.pb, r.m, r.qb, gi2, ci2, gd2, cd2⟩ : PR) (by rw [h4]; omega) ?_
   rw [← PLc_keep (s := s) (r' := (⟨r.n, (putK (wdM r.n) (putK (wdM r.n) r.K x.q.l) (bkL x.q.l)), r.pb, r.m, r.qb, gi2, ci2, gd2, cd2⟩ : PR)) hri rfl rfl]
   refine WL_r (Rd_assign rfl) rfl ?_
   refine WL_end hK10 ?_
   refine WC_ret ?_
   exact hret.gfE ⟨((rs.set (x.on.toNat % 4) (⟨r.n, (putK (wdM r.n) (putK (wdM r.n) r.K x.q.l) (bkL x.q.l)), r.pb, r.m, r.qb, gi2, ci2, gd2, cd2⟩ : PR), s) : List PR × BKp), ⟨hG.set ⟨h1, h2, putK_sup (putK_sup hsk hw1) hw1, putK_one (putK_sup hsk hw1) hw1 (putK_one hsk hw1 hr1)⟩, hB.up (by omega)⟩⟩ (Rs1 rfl rfl) rfl
  ·try simp only [dz, ne_eq] at hc1
   refine WC_sr fun K11 hK11 => ?_
   refine WL_r (Rd_eqlN (i := (x.dd.toNat % 8)) (j := 1) rfl rfl) rfl ?_
   refine WL_r (Rd_assign rfl) rfl ?_
   refine WL_end hK11 ?_
   refine WC_cond rfl (fun hc2 => ?_) (fun hc2 => ?_)
   ·try simp only [dz, ne_eq] at hc2
    refine WC_sr fun K12 hK12 => ?_
    refine WL_r (Rd_move rfl) rfl ?_
    refine WL_r (Rd_fieldAddr rfl fo156_3) rfl ?_
    refine WL_r (Rd_load rfl tk3 (v := .int .i64 x.i)) rfl ?_
    refine WL_ac (Ac_call cf83 rfl (hs := pNeeds_ct (pb := r.pb) (m := r.m) (n := r.n) (w := (wdM r.n)) (Kn := r.K) (i0 := x.i) (hw := rfl) (h1 := h1) (h2 := h2))) rfl rfl rfl ?_
    rintro _ _ ⟨⟨a76, cap76⟩, rfl, hA⟩
    simp only [List.cons_append, List.nil_append] at hA
    replace hA := hA.symm
    subst hA
    refine WL_imp (fun w h => sat_at (X := arr a76 cap76 1 3 eN (ndsN r.n r.K x.i)) (Y := arr a76 cap76 1 3 (eInt .i64) (zL (ndsN r.n r.K x.i))) (fun h => arr_zL h) (by repeat (first | with_reducible exact Ext.here | with_reducible apply Ext.there)) h) ?_
    rw [show (ndsN r.n r.K x.i).length = (zL (ndsN r.n r.K x.i)).length from (zL_len _).symm]
    refine WL_r (Rd_move rfl) rfl ?_
    refine WL_r (Rd_ext0 rfl) rfl ?_
    refine WL_r (Rd_ext1 rfl) rfl ?_
    refine WL_r (Rd_assign rfl) rfl ?_
    refine WL_r (Rd_assign rfl) rfl ?_
    refine WL_end hK12 ?_
    refine WC_sr fun K13 hK13 => ?_
    refine WL_r (Rd_move rfl) rfl ?_
    refine WL_r (Rd_fieldAddr rfl fo156_3) rfl ?_
    refine WL_r (Rd_load rfl tk3 (v := .int .i64 x.i)) rfl ?_
    refine WL_ac (Ac_call cf152 rfl (hs := dNeeds_ct (qb := r.qb) (gi := r.gi) (ci := r.ci) (gd := r.gd) (cd := r.cd) (n := r.n) (w := (wdM r.n)) (Kn := r.K) (i0 := x.i) (hw := rfl) (h1 := h1) (h2 := h2) (hr := hr1))) rfl rfl rfl ?_
    rintro _ _ ⟨⟨a83, cap83⟩, rfl, hA⟩
    simp only [List.cons_append, List.nil_append] at hA
    replace hA := hA.symm
    subst hA
    refine WL_imp (fun w h => sat_at (X := arr a83 cap83 1 3 eN (ndsN r.n r.K x.i)) (Y := arr a83 cap83 1 3 (eInt .i64) (zL (ndsN r.n r.K x.i))) (fun h => arr_zL h) (by repeat (first | with_reducible exact Ext.here | with_reducible apply Ext.there)) h) ?_
    rw [show (ndsN r.n r.K x.i).length = (zL (ndsN r.n r.K x.i)).length from (zL_len _).symm]
    refine WL_r (Rd_move rfl) rfl ?_
    refine WL_r (Rd_ext0 rfl) rfl ?_
    refine WL_r (Rd_ext1 rfl) rfl ?_
    refine WL_r (Rd_assign rfl) rfl ?_
    refine WL_r (Rd_assign rfl) rfl ?_
    refine WL_end hK13 ?_
    refine WC_sr fun K14 hK14 => ?_
    refine WL_r (Rd_move rfl) rfl ?_
    refine WL_r (Rd_move rfl) rfl ?_
    refine WL_r (Rd_nilCheck rfl) rfl ?_
    refine WL_r (Rd_fieldAddr rfl fo154_2) rfl ?_
    refine WL_r (Rd_load rfl tk109 (v := sl s.ia s.is.length s.ic) (hi := PLc_t h4 0)) rfl ?_
    refine WL_r (Rd_move rfl) rfl ?_
    refine WL_ac (Ac_bs1 (xs := [sl a76 (zL (ndsN r.n r.K x.i)).length cap76]) rfl ud109 zr101 sz101) rfl rfl rfl ?_
    rintro _ _ ⟨b92, rfl, rfl⟩
    refine WL_ac (Ac_append1 (f := ePI) encPI (⟨a76, cap76, (zL (ndsN r.n r.K x.i))⟩ : PI) rfl rfl ud109 ud109 el101) rfl rfl rfl ?_
    rintro _ _ ⟨a93, cap93, rfl, rfl⟩
    rw [show s.is.length + 1 = (s.is ++ [(⟨a76, cap76, (zL (ndsN r.n r.K x.i))⟩ : PI)]).length from by simp]
    refine WL_r (Rd_nilCheck rfl) rfl ?_
    refine WL_r (Rd_fieldAddr rfl fo154_2) rfl ?_
    refine WL_ac0 (Ac_store1 (ys := PLc rs ⟨s.is ++ [(⟨a76, cap76, (zL (ndsN r.n r.K x.i))⟩ : PI)], a93, cap93, s.ls, s.la, s.lc, s.ts, s.ta, s.tc⟩) rfl rfl sz109 (hl := by rw [PLc_len h4]; rfl) (hr := PLc_ts (s := s) (s' := ⟨s.is ++ [(⟨a76, cap76, (zL (ndsN r.n r.K x.i))⟩ : PI)], a93, cap93, s.ls, s.la, s.lc, s.ts, s.ta, s.tc⟩) h4 0 rfl)) rfl rfl ?_
    rintro _ _ rfl
    refine WL_end hK14 ?_
    refine WC_sr fun K15 hK15 => ?_
    refine WL_r (Rd_move rfl) rfl ?_
    refine WL_r (Rd_move rfl) rfl ?_
    refine WL_r (Rd_isT (Rd_eqlN rfl rfl) (decide_eq_true rfl)) rfl ?_
    refine WL_r (Rd_move rfl) rfl ?_
    refine WL_r (Rd_move rfl) rfl ?_
    refine WL_r (Rd_move rfl) rfl ?_
    refine WL_fact (fun w h => arr_facts (a := a76) (cap := cap76) (e := 1) (T := 3) (f := eInt .i64) (l := (zL (ndsN r.n r.K x.i))) hasA h) (fun hz1f => ?_)
    have hz1 : Sv [arr a76 cap76 1 3 (eInt .i64) (zL (ndsN r.n r.K x.i))] (sl a76 (zL (ndsN r.n r.K x.i)).length cap76) 1 (eInt .i64) (zL (ndsN r.n r.K x.i)) (a76.map fun g => ⟨g, 0, none⟩) cap76 := Sv_own' encZ hz1f.1 hz1f.2
    refine WL_fact (fun w h => arr_facts (a := a83) (cap := cap83) (e := 1) (T := 3) (f := eInt .i64) (l := (zL (ndsN r.n r.K x.i))) hasA h) (fun hz2f => ?_)
    have hz2 : Sv [arr a83 cap83 1 3 (eInt .i64) (zL (ndsN r.n r.K x.i))] (sl a83 (zL (ndsN r.n r.K x.i)).length cap83) 1 (eInt .i64) (zL (ndsN r.n r.K x.i)) (a83.map fun g => ⟨g, 0, none⟩) cap83 := Sv_own' encZ hz2f.1 hz2f.2
    refine WL_ac (Ac_call cf69 rfl (hs := Ct.un0 (Xs := [arr a76 cap76 1 3 (eInt .i64) (zL (ndsN r.n r.K x.i)), arr a83 cap83 1 3 (eInt .i64) (zL (ndsN r.n r.K x.i))]) (sameI_ct (X := sep [arr a76 cap76 1 3 (eInt .i64) (zL (ndsN r.n r.K x.i)), arr a83 cap83 1 3 (eInt .i64) (zL (ndsN r.n r.K x.i))]) (l := (zL (ndsN r.n r.K x.i))) (l' := (zL (ndsN r.n r.K x.i))) (hS := hz1.pk hasA) (hS' := hz2.pk hasA)))) rfl rfl rfl ?_
    rintro _ _ ⟨⟨⟩, rfl, hA⟩
    simp only [List.cons_append, List.nil_append] at hA
    replace hA := hA.symm
    subst hA
    rw [decide_eq_true (rfl : (zL (ndsN r.n r.K x.i)) = (zL (ndsN r.n r.K x.i)))]
    rw [show arr a76 cap76 1 3 (eInt .i64) (zL (ndsN r.n r.K x.i)) = (FP 3) (⟨a76, cap76, (zL (ndsN r.n r.K x.i))⟩ : PI) from rfl]
    refine WL_snoc (FP 3) s.is (⟨a76, cap76, (zL (ndsN r.n r.K x.i))⟩ : PI) ?_
    refine WL_pk0 ?_
    refine WL_pull (arr (some r.gd) r.cd 32 42 fD (dgL r.K (wdM r.n))) ?_
    refine WL_pull (arr (some r.gi) r.ci 1 4 eBool (isL r.K (wdM r.n))) ?_
    refine WL_pull (cl r.qb 136 [.int .i64 ((r.n : Nat) : Int), .int .i64 (((wdM r.n) : Nat) : Int), sl (some r.gi) (2 * (wdM r.n)) r.ci, sl (some r.gd) (2 * (wdM r.n)) r.cd]) ?_
    refine WL_pull (mpI r.m (kv r.K)) ?_
    refine WL_pull (cl r.pb 161 [.int .i64 ((r.n : Nat) : Int), .int .i64 (((wdM r.n) : Nat) : Int), .map (some r.m)]) ?_
    rw [show sep [cl r.pb 161 [.int .i64 ((r.n : Nat) : Int), .int .i64 (((wdM r.n) : Nat) : Int), .map (some r.m)], mpI r.m (kv r.K), cl r.qb 136 [.int .i64 ((r.n : Nat) : Int), .int .i64 (((wdM r.n) : Nat) : Int), sl (some r.gi) (2 * (wdM r.n)) r.ci, sl (some r.gd) (2 * (wdM r.n)) r.cd], arr (some r.gi) r.ci 1 4 eBool (isL r.K (wdM r.n)), arr (some r.gd) r.cd 32 42 fD (dgL r.K (wdM r.n))] = FPR r from rfl]
    refine WL_shut FPR rs (x.on.toNat % 4) r (by rw [h4]; omega) ?_
    rw [set_self hri]
    refine WL_r (Rd_pickT rfl rfl) rfl ?_
    refine WL_r (Rd_assign rfl) rfl ?_
    refine WL_end hK15 ?_
    refine WC_ret ?_
    exact hret.gfE ⟨((rs, ⟨s.is ++ [(⟨a76, cap76, (zL (ndsN r.n r.K x.i))⟩ : PI)], a93, cap93, s.ls, s.la, s.lc, s.ts, s.ta, s.tc⟩) : List PR × BKp), ⟨hG, hB.putI hz1f.1 hz1f.2 (by (try dsimp only); omega)⟩⟩ (Rs1 rfl rfl) rfl
   ·try simp only [dz, ne_eq] at hc2
    refine WC_sr fun K16 hK16 => ?_
    refine WL_r (Rd_eqlN (i := (x.dd.toNat % 8)) (j := 2) rfl rfl) rfl ?_
    refine WL_r (Rd_assign rfl) rfl ?_
    refine WL_end hK16 ?_
    refine WC_cond rfl (fun hc3 => ?_) (fun hc3 => ?_)
    ·try simp only [dz, ne_eq] at hc3
     refine WC_sr fun K17 hK17 => ?_
     refine WL_r (Rd_move rfl) rfl ?_
     refine WL_r (Rd_fieldAddr rfl fo156_3) rfl ?_
     refine WL_r (Rd_load rfl tk3 (v := .int .i64 x.i)) rfl ?_
     refine WL_ac (Ac_call cf88 rfl (hs := pChain_ct (pb := r.pb) (m := r.m) (n := r.n) (w := (wdM r.n)) (Kn := r.K) (i0 := x.i) (hw := rfl) (h1 := h1) (h2 := h2))) rfl rfl rfl ?_
     rintro _ _ ⟨⟨a110, cap110⟩, rfl, hA⟩
     simp only [List.cons_append, List.nil_append] at hA
     replace hA := hA.symm
     subst hA
     refine WL_r (Rd_move rfl) rfl ?_
     refine WL_r (Rd_ext0 rfl) rfl ?_
     refine WL_r (Rd_ext1 rfl) rfl ?_
     refine WL_r (Rd_assign rfl) rfl ?_
     refine WL_r (Rd_assign rfl) rfl ?_
     refine WL_end hK17 ?_
     refine WC_sr fun K18 hK18 => ?_
     refine WL_r (Rd_move rfl) rfl ?_
     refine WL_r (Rd_fieldAddr rfl fo156_3) rfl ?_
     refine WL_r (Rd_load rfl tk3 (v := .int .i64 x.i)) rfl ?_
     refine WL_ac (Ac_call cf153 rfl (hs := dChain_ct (qb := r.qb) (gi := r.gi) (ci := r.ci) (gd := r.gd) (cd := r.cd) (n := r.n) (w := (wdM r.n)) (Kn := r.K) (i0 := x.i) (hw := rfl) (h1 := h1) (h2 := h2))) rfl rfl rfl ?_
     rintro _ _ ⟨⟨a117, cap117⟩, rfl, hA⟩
     simp only [List.cons_append, List.nil_append] at hA
     replace hA := hA.symm
     subst hA
     refine WL_r (Rd_move rfl) rfl ?_
     refine WL_r (Rd_ext0 rfl) rfl ?_
     refine WL_r (Rd_ext1 rfl) rfl ?_
     refine WL_r (Rd_assign rfl) rfl ?_
     refine WL_r (Rd_assign rfl) rfl ?_
     refine WL_end hK18 ?_
     refine WC_sr fun K19 hK19 => ?_
     refine WL_r (Rd_move rfl) rfl ?_
     refine WL_r (Rd_move rfl) rfl ?_
     refine WL_r (Rd_nilCheck rfl) rfl ?_
     refine WL_r (Rd_fieldAddr rfl fo154_3) rfl ?_
     refine WL_r (Rd_load rfl tk145 (v := sl s.la s.ls.length s.lc) (hi := PLc_t h4 1)) rfl ?_
     refine WL_r (Rd_move rfl) rfl ?_
     refine WL_ac (Ac_bs1 (xs := [sl a110 (chN r.n r.K x.i).length cap110]) rfl ud145 zr120 sz120) rfl rfl rfl ?_
     rintro _ _ ⟨b126, rfl, rfl⟩
     refine WL_ac (Ac_append1 (f := ePN) encPN (⟨a110, cap110, (chN r.n r.K x.i)⟩ : PN) rfl rfl ud145 ud145 el120) rfl rfl rfl ?_
     rintro _ _ ⟨a127, cap127, rfl, rfl⟩
     rw [show s.ls.length + 1 = (s.ls ++ [(⟨a110, cap110, (chN r.n r.K x.i)⟩ : PN)]).length from by simp]
     refine WL_r (Rd_nilCheck rfl) rfl ?_
     refine WL_r (Rd_fieldAddr rfl fo154_3) rfl ?_
     refine WL_ac0 (Ac_store1 (ys := PLc rs ⟨s.is, s.ia, s.ic, s.ls ++ [(⟨a110, cap110, (chN r.n r.K x.i)⟩ : PN)], a127, cap127, s.ts, s.ta, s.tc⟩) rfl rfl sz145 (hl := by rw [PLc_len h4]; rfl) (hr := PLc_ts (s := s) (s' := ⟨s.is, s.ia, s.ic, s.ls ++ [(⟨a110, cap110, (chN r.n r.K x.i)⟩ : PN)], a127, cap127, s.ts, s.ta, s.tc⟩) h4 1 rfl)) rfl rfl ?_
     rintro _ _ rfl
     refine WL_end hK19 ?_
     refine WC_sr fun K20 hK20 => ?_
     refine WL_r (Rd_move rfl) rfl ?_
     refine WL_r (Rd_move rfl) rfl ?_
     refine WL_r (Rd_nilCheck rfl) rfl ?_
     refine WL_r (Rd_fieldAddr rfl fo154_4) rfl ?_
     refine WL_r (Rd_load rfl tk145 (v := sl s.ta s.ts.length s.tc) (hi := PLc_t (s := ⟨s.is, s.ia, s.ic, s.ls ++ [(⟨a110, cap110, (chN r.n r.K x.i)⟩ : PN)], a127, cap127, s.ts, s.ta, s.tc⟩) h4 2)) rfl ?_
     refine WL_r (Rd_move rfl) rfl ?_
     refine WL_ac (Ac_bs1 (xs := [sl a117 (chN r.n r.K x.i).length cap117]) rfl ud145 zr120 sz120) rfl rfl rfl ?_
     rintro _ _ ⟨b136, rfl, rfl⟩
     refine WL_ac (Ac_append1 (f := ePN) encPN (⟨a117, cap117, (chN r.n r.K x.i)⟩ : PN) rfl rfl ud145 ud145 el120) rfl rfl rfl ?_
     rintro _ _ ⟨a137, cap137, rfl, rfl⟩
     rw [show s.ts.length + 1 = (s.ts ++ [(⟨a117, cap117, (chN r.n r.K x.i)⟩ : PN)]).length from by simp]
     refine WL_r (Rd_nilCheck rfl) rfl ?_
     refine WL_r (Rd_fieldAddr rfl fo154_4) rfl ?_
     refine WL_ac0 (Ac_store1 (ys := PLc rs ⟨s.is, s.ia, s.ic, s.ls ++ [(⟨a110, cap110, (chN r.n r.K x.i)⟩ : PN)], a127, cap127, s.ts ++ [(⟨a117, cap117, (chN r.n r.K x.i)⟩ : PN)], a137, cap137⟩) rfl rfl sz145 (hl := by rw [PLc_len h4]; rfl) (hr := PLc_ts (s := ⟨s.is, s.ia, s.ic, s.ls ++ [(⟨a110, cap110, (chN r.n r.K x.i)⟩ : PN)], a127, cap127, s.ts, s.ta, s.tc⟩) (s' := ⟨s.is, s.ia, s.ic, s.ls ++ [(⟨a110, cap110, (chN r.n r.K x.i)⟩ : PN)], a127, cap127, s.ts ++ [(⟨a117, cap117, (chN r.n r.K x.i)⟩ : PN)], a137, cap137⟩) h4 2 rfl)) rfl rfl ?_
     rintro _ _ rfl
     refine WL_end hK20 ?_
     refine WC_sr fun K21 hK21 => ?_
     refine WL_r (Rd_move rfl) rfl ?_
     refine WL_r (Rd_move rfl) rfl ?_
     refine WL_r (Rd_isT (Rd_eqlN rfl rfl) (decide_eq_true rfl)) rfl ?_
     refine WL_r (Rd_move rfl) rfl ?_
     refine WL_r (Rd_move rfl) rfl ?_
     refine WL_r (Rd_move rfl) rfl ?_
     refine WL_fact (fun w h => arr_facts (a := a110) (cap := cap110) (e := 33) (T := 133) (f := eND) (l := (chN r.n r.K x.i)) hasA h) (fun hn1'f => ?_)
     have hn1' : Sv [arr a110 cap110 33 133 eND (chN r.n r.K x.i)] (sl a110 (chN r.n r.K x.i).length cap110) 33 eND (chN r.n r.K x.i) (a110.map fun g => ⟨g, 0, none⟩) cap110 := Sv_own' encND hn1'f.1 hn1'f.2
     refine WL_fact (fun w h => arr_facts (a := a117) (cap := cap117) (e := 33) (T := 133) (f := eND) (l := (chN r.n r.K x.i)) hasA h) (fun hn2'f => ?_)
     have hn2' : Sv [arr a117 cap117 33 133 eND (chN r.n r.K x.i)] (sl a117 (chN r.n r.K x.i).length cap117) 33 eND (chN r.n r.K x.i) (a117.map fun g => ⟨g, 0, none⟩) cap117 := Sv_own' encND hn2'f.1 hn2'f.2
     refine WL_ac (Ac_call cf154 rfl (hs := Ct.un0 (Xs := [arr a110 cap110 33 133 eND (chN r.n r.K x.i), arr a117 cap117 33 133 eND (chN r.n r.K x.i)]) (sameN_ct (X := sep [arr a110 cap110 33 133 eND (chN r.n r.K x.i), arr a117 cap117 33 133 eND (chN r.n r.K x.i)]) (la := (chN r.n r.K x.i)) (lb := (chN r.n r.K x.i)) (hS := hn1'.pk hasA) (hS' := hn2'.pk hasA)))) rfl rfl rfl ?_
     rintro _ _ ⟨⟨⟩, rfl, hA⟩
     simp only [List.cons_append, List.nil_append] at hA
     replace hA := hA.symm
     subst hA
     rw [decide_eq_true (rfl : (chN r.n r.K x.i) = (chN r.n r.K x.i))]
     rw [show arr a110 cap110 33 133 eND (chN r.n r.K x.i) = (FPN 133) (⟨a110, cap110, (chN r.n r.K x.i)⟩ : PN) from rfl]
     refine WL_snoc (FPN 133) s.ls (⟨a110, cap110, (chN r.n r.K x.i)⟩ : PN) ?_
     rw [show arr a117 cap117 33 133 eND (chN r.n r.K x.i) = (FPN 133) (⟨a117, cap117, (chN r.n r.K x.i)⟩ : PN) from rfl]
     refine WL_snoc (FPN 133) s.ts (⟨a117, cap117, (chN r.n r.K x.i)⟩ : PN) ?_
     refine WL_pk0 ?_
     refine WL_pull (arr (some r.gd) r.cd 32 42 fD (dgL r.K (wdM r.n))) ?_
     refine WL_pull (arr (some r.gi) r.ci 1 4 eBool (isL r.K (wdM r.n))) ?_
     refine WL_pull (cl r.qb 136 [.int .i64 ((r.n : Nat) : Int), .int .i64 (((wdM r.n) : Nat) : Int), sl (some r.gi) (2 * (wdM r.n)) r.ci, sl (some r.gd) (2 * (wdM r.n)) r.cd]) ?_
     refine WL_pull (mpI r.m (kv r.K)) ?_
     refine WL_pull (cl r.pb 161 [.int .i64 ((r.n : Nat) : Int), .int .i64 (((wdM r.n) : Nat) : Int), .map (some r.m)]) ?_
     rw [show sep [cl r.pb 161 [.int .i64 ((r.n : Nat) : Int), .int .i64 (((wdM r.n) : Nat) : Int), .map (some r.m)], mpI r.m (kv r.K), cl r.qb 136 [.int .i64 ((r.n : Nat) : Int), .int .i64 (((wdM r.n) : Nat) : Int), sl (some r.gi) (2 * (wdM r.n)) r.ci, sl (some r.gd) (2 * (wdM r.n)) r.cd], arr (some r.gi) r.ci 1 4 eBool (isL r.K (wdM r.n)), arr (some r.gd) r.cd 32 42 fD (dgL r.K (wdM r.n))] = FPR r from rfl]
     refine WL_shut FPR rs (x.on.toNat % 4) r (by rw [h4]; omega) ?_
     rw [set_self hri]
     refine WL_r (Rd_pickT rfl rfl) rfl ?_
     refine WL_r (Rd_assign rfl) rfl ?_
     refine WL_end hK21 ?_
     refine WC_ret ?_
     exact hret.gfE ⟨((rs, ⟨s.is, s.ia, s.ic, s.ls ++ [(⟨a110, cap110, (chN r.n r.K x.i)⟩ : PN)], a127, cap127, s.ts ++ [(⟨a117, cap117, (chN r.n r.K x.i)⟩ : PN)], a137, cap137⟩) : List PR × BKp), ⟨hG, hB.putL rfl hn1'f.1 hn1'f.2 hcl hn2'f.1 hn2'f.2⟩⟩ (Rs1 rfl rfl) rfl
    ·try simp only [dz, ne_eq] at hc3
     refine WC_sr fun K22 hK22 => ?_
     refine WL_r (Rd_eqlN (i := (x.dd.toNat % 8)) (j := 3) rfl rfl) rfl ?_
     refine WL_r (Rd_assign rfl) rfl ?_
     refine WL_end hK22 ?_
     refine WC_cond rfl (fun hc4 => ?_) (fun hc4 => ?_)
     ·try simp only [dz, ne_eq] at hc4
      refine WC_sr fun K23 hK23 => ?_
      refine WL_r (Rd_move rfl) rfl ?_
      refine WL_r (Rd_fieldAddr rfl fo156_3) rfl ?_
      refine WL_r (Rd_load rfl tk3 (v := .int .i64 x.i)) rfl ?_
      refine WL_ac (Ac_call cf76 rfl (hs := pKnown_ct (pb := r.pb) (m := r.m) (n := r.n) (w := (wdM r.n)) (Kn := r.K) (i := x.i))) rfl rfl rfl ?_
      rintro _ _ ⟨⟨⟩, rfl, hA⟩
      simp only [List.cons_append, List.nil_append] at hA
      replace hA := hA.symm
      subst hA
      refine WL_r (Rd_move rfl) rfl ?_
      refine WL_r (Rd_ext0 rfl) rfl ?_
      refine WL_r (Rd_ext1 rfl) rfl ?_
      refine WL_ac (Ac_allocW (k := .u8) (w := 8) (m := 32) zr42) rfl rfl rfl ?_
      rintro _ _ ⟨b17, rfl, rfl⟩
      refine WL_ac0 (Ac_storeW rfl rfl sz42) rfl rfl ?_
      rintro _ _ rfl
      refine WL_r (Rd_assign rfl) rfl ?_
      refine WL_end hK23 ?_
      refine WC_sr fun K24 hK24 => ?_
      refine WL_r (Rd_move rfl) rfl ?_
      refine WL_r (Rd_fieldAddr rfl fo156_3) rfl ?_
      refine WL_r (Rd_load rfl tk3 (v := .int .i64 x.i)) rfl ?_
      refine WL_ac (Ac_call cf81 rfl (hs := dKnown_ct (qb := r.qb) (gi := r.gi) (ci := r.ci) (gd := r.gd) (cd := r.cd) (n := r.n) (w := (wdM r.n)) (Kn := r.K) (i := x.i) (hs := hsk))) rfl rfl rfl ?_
      rintro _ _ ⟨⟨⟩, rfl, hA⟩
      simp only [List.cons_append, List.nil_append] at hA
      replace hA := hA.symm
      subst hA
      refine WL_pk0 ?_
      refine WL_pull (arr (some r.gd) r.cd 32 42 fD (dgL r.K (wdM r.n))) ?_
      refine WL_pull (arr (some r.gi) r.ci 1 4 eBool (isL r.K (wdM r.n))) ?_
      refine WL_pull (cl r.qb 136 [.int .i64 ((r.n : Nat) : Int), .int .i64 (((wdM r.n) : Nat) : Int), sl (some r.gi) (2 * (wdM r.n)) r.ci, sl (some r.gd) (2 * (wdM r.n)) r.cd]) ?_
      refine WL_pull (mpI r.m (kv r.K)) ?_
      refine WL_pull (cl r.pb 161 [.int .i64 ((r.n : Nat) : Int), .int .i64 (((wdM r.n) : Nat) : Int), .map (some r.m)]) ?_
      rw [show sep [cl r.pb 161 [.int .i64 ((r.n : Nat) : Int), .int .i64 (((wdM r.n) : Nat) : Int), .map (some r.m)], mpI r.m (kv r.K), cl r.qb 136 [.int .i64 ((r.n : Nat) : Int), .int .i64 (((wdM r.n) : Nat) : Int), sl (some r.gi) (2 * (wdM r.n)) r.ci, sl (some r.gd) (2 * (wdM r.n)) r.cd], arr (some r.gi) r.ci 1 4 eBool (isL r.K (wdM r.n)), arr (some r.gd) r.cd 32 42 fD (dgL r.K (wdM r.n))] = FPR r from rfl]
      refine WL_shut FPR rs (x.on.toNat % 4) r (by rw [h4]; omega) ?_
      rw [set_self hri]
      refine WL_r (Rd_move rfl) rfl ?_
      refine WL_r (Rd_ext0 rfl) rfl ?_
      refine WL_r (Rd_ext1 rfl) rfl ?_
      refine WL_ac (Ac_allocW (k := .u8) (w := 8) (m := 32) zr42) rfl rfl rfl ?_
      rintro _ _ ⟨b19, rfl, rfl⟩
      refine WL_ac0 (Ac_storeW rfl rfl sz42) rfl rfl ?_
      rintro _ _ rfl
      refine WL_r (Rd_assign rfl) rfl ?_
      refine WL_end hK24 ?_
      refine WC_sr fun K25 hK25 => ?_
      refine WL_r (Rd_loadW (l := ((r.K x.i).getD zD).1) rfl tk42) rfl ?_
      refine WL_r (Rd_loadW (l := ((r.K x.i).getD zD).1) rfl tk42) rfl ?_
      refine WL_r (Rd_isT (Rd_eqW rfl rfl ais42) (by simp)) rfl ?_
      refine WL_r (Rd_move rfl) rfl ?_
      refine WL_r (Rd_move rfl) rfl ?_
      refine WL_r (Rd_move rfl) rfl ?_
      refine WL_r (Rd_isT (Rd_beq rfl rfl ud4) (by simp)) rfl ?_
      refine WL_r (Rd_pickT rfl rfl) rfl ?_
      refine WL_r (Rd_assign rfl) rfl ?_
      refine WL_end hK25 ?_
      refine WC_ret ?_
      exact hret.gfE ⟨((rs, s) : List PR × BKp), ⟨hG, hB.up (by omega)⟩⟩ (Rs1 rfl rfl) rfl
     ·try simp only [dz, ne_eq] at hc4
      refine WC_sr fun K26 hK26 => ?_
      refine WL_r (Rd_eqlN (i := (x.dd.toNat % 8)) (j := 4) rfl rfl) rfl ?_
      refine WL_r (Rd_assign rfl) rfl ?_
      refine WL_end hK26 ?_
      refine WC_cond rfl (fun hc5 => ?_) (fun hc5 => ?_)
      ·try simp only [dz, ne_eq] at hc5
       refine WC_sr fun K27 hK27 => ?_
       refine WL_r (Rd_move rfl) rfl ?_
       refine WL_r (Rd_fieldAddr rfl fo156_3) rfl ?_
       refine WL_r (Rd_load rfl tk3 (v := .int .i64 x.i)) rfl ?_
       refine WL_ac (Ac_call cf84 rfl (hs := pLeaf_ct (pb := r.pb) (m := r.m) (n := r.n) (w := (wdM r.n)) (Kn := r.K) (i := x.i))) rfl rfl rfl ?_
       rintro _ _ ⟨⟨⟩, rfl, hA⟩
       simp only [List.cons_append, List.nil_append] at hA
       replace hA := hA.symm
       subst hA
       refine WL_r (Rd_move rfl) rfl ?_
       refine WL_r (Rd_ext0 rfl) rfl ?_
       refine WL_r (Rd_ext1 rfl) rfl ?_
       refine WL_ac (Ac_allocW (k := .u8) (w := 8) (m := 32) zr42) rfl rfl rfl ?_
       rintro _ _ ⟨b21, rfl, rfl⟩
       refine WL_ac0 (Ac_storeW rfl rfl sz42) rfl rfl ?_
       rintro _ _ rfl
       refine WL_r (Rd_assign rfl) rfl ?_
       refine WL_end hK27 ?_
       refine WC_sr fun K28 hK28 => ?_
       refine WL_r (Rd_move rfl) rfl ?_
       refine WL_r (Rd_fieldAddr rfl fo156_3) rfl ?_
       refine WL_r (Rd_load rfl tk3 (v := .int .i64 x.i)) rfl ?_
       refine WL_ac (Ac_call cf155 rfl (hs := dLeaf_ct (qb := r.qb) (gi := r.gi) (ci := r.ci) (gd := r.gd) (cd := r.cd) (n := r.n) (w := (wdM r.n)) (Kn := r.K) (i := x.i) (hs := hsk))) rfl rfl rfl ?_
       rintro _ _ ⟨⟨⟩, rfl, hA⟩
       simp only [List.cons_append, List.nil_append] at hA
       replace hA := hA.symm
       subst hA
       refine WL_pk0 ?_
       refine WL_pull (arr (some r.gd) r.cd 32 42 fD (dgL r.K (wdM r.n))) ?_
       refine WL_pull (arr (some r.gi) r.ci 1 4 eBool (isL r.K (wdM r.n))) ?_
       refine WL_pull (cl r.qb 136 [.int .i64 ((r.n : Nat) : Int), .int .i64 (((wdM r.n) : Nat) : Int), sl (some r.gi) (2 * (wdM r.n)) r.ci, sl (some r.gd) (2 * (wdM r.n)) r.cd]) ?_
       refine WL_pull (mpI r.m (kv r.K)) ?_
       refine WL_pull (cl r.pb 161 [.int .i64 ((r.n : Nat) : Int), .int .i64 (((wdM r.n) : Nat) : Int), .map (some r.m)]) ?_
       rw [show sep [cl r.pb 161 [.int .i64 ((r.n : Nat) : Int), .int .i64 (((wdM r.n) : Nat) : Int), .map (some r.m)], mpI r.m (kv r.K), cl r.qb 136 [.int .i64 ((r.n : Nat) : Int), .int .i64 (((wdM r.n) : Nat) : Int), sl (some r.gi) (2 * (wdM r.n)) r.ci, sl (some r.gd) (2 * (wdM r.n)) r.cd], arr (some r.gi) r.ci 1 4 eBool (isL r.K (wdM r.n)), arr (some r.gd) r.cd 32 42 fD (dgL r.K (wdM r.n))] = FPR r from rfl]
       refine WL_shut FPR rs (x.on.toNat % 4) r (by rw [h4]; omega) ?_
       rw [set_self hri]
       refine WL_r (Rd_move rfl) rfl ?_
       refine WL_r (Rd_ext0 rfl) rfl ?_
       refine WL_r (Rd_ext1 rfl) rfl ?_
       refine WL_ac (Ac_allocW (k := .u8) (w := 8) (m := 32) zr42) rfl rfl rfl ?_
       rintro _ _ ⟨b23, rfl, rfl⟩
       refine WL_ac0 (Ac_storeW rfl rfl sz42) rfl rfl ?_
       rintro _ _ rfl
       refine WL_r (Rd_assign rfl) rfl ?_
       refine WL_end hK28 ?_
       refine WC_sr fun K29 hK29 => ?_
       refine WL_r (Rd_loadW (l := ((lfK r.n (wdM r.n) r.K x.i).getD zD).1) rfl tk42) rfl ?_
       refine WL_r (Rd_loadW (l := ((lfK r.n (wdM r.n) r.K x.i).getD zD).1) rfl tk42) rfl ?_
       refine WL_r (Rd_isT (Rd_eqW rfl rfl ais42) (by simp)) rfl ?_
       refine WL_r (Rd_move rfl) rfl ?_
       refine WL_r (Rd_move rfl) rfl ?_
       refine WL_r (Rd_move rfl) rfl ?_
       refine WL_r (Rd_isT (Rd_beq rfl rfl ud4) (by simp)) rfl ?_
       refine WL_r (Rd_pickT rfl rfl) rfl ?_
       refine WL_r (Rd_assign rfl) rfl ?_
       refine WL_end hK29 ?_
       refine WC_ret ?_
       exact hret.gfE ⟨((rs, s) : List PR × BKp), ⟨hG, hB.up (by omega)⟩⟩ (Rs1 rfl rfl) rfl
      ·try simp only [dz, ne_eq] at hc5
       refine WC_sr fun K30 hK30 => ?_
       refine WL_r (Rd_eqlN (i := (x.dd.toNat % 8)) (j := 5) rfl rfl) rfl ?_
       refine WL_r (Rd_assign rfl) rfl ?_
       refine WL_end hK30 ?_
       refine WC_cond rfl (fun hc6 => ?_) (fun hc6 => ?_)
       ·try simp only [dz, ne_eq] at hc6
        refine WC_seq fun K31 hK31 => ?_
        refine WC_drawA mix (fun i => ([2, 1, 2, 1, 2, 2, 2, 1, 2, 2, 2, 2, 2, 2, 2, 2, 1, 2, 2, 2, 2, 2, 2, 2] : List Nat).getD i 0) ?_
        refine WJ_tp 0 rfl (Rd_move rfl) rfl (hp _ _) ?_
        refine WJ_tp 2 rfl (Rd_move rfl) rfl (hp _ _) ?_
        refine WJ_all (rs := [1]) (by kernel_rfl) rfl ?_
        refine WI_one ?_
        refine WI_ac rfl (Ac_call cf87 rfl (hs := pWhole_ct (pb := r.pb) (m := r.m) (n := r.n) (w := (wdM r.n)) (Kn := r.K) (hs := hsk) (hn1 := h1) (hw1 := hw1))) rfl rfl rfl rfl ?_
        rintro _ _ ⟨⟨⟩, rfl, hA⟩
        simp only [List.cons_append, List.nil_append] at hA
        replace hA := hA.symm
        subst hA
        refine ⟨(fun _ => subA), ?_⟩
        refine WJ_all (rs := [3]) (by kernel_rfl) rfl ?_
        refine WI_one ?_
        refine WI_ac rfl (Ac_call cf156 rfl (hs := dWhole_ct (qb := r.qb) (gi := r.gi) (ci := r.ci) (gd := r.gd) (cd := r.cd) (n := r.n) (w := (wdM r.n)) (Kn := r.K) (hs := hsk) (hw1 := hw1))) rfl rfl rfl rfl ?_
        rintro _ _ ⟨⟨⟩, rfl, hA⟩
        simp only [List.cons_append, List.nil_append] at hA
        replace hA := hA.symm
        subst hA
        refine ⟨(fun _ => subA), ?_⟩
        refine WJ_tp 4 rfl (Rd_isT (Rd_beq rfl rfl ud4) (by simp)) rfl (hp _ _) ?_
        refine WJ_tp 5 rfl (Rd_move rfl) rfl (hp _ _) ?_
        refine WJ_tp 6 rfl (Rd_move rfl) rfl (hp _ _) ?_
        refine WJ_tp 8 rfl (Rd_move rfl) rfl (hp _ _) ?_
        refine WJ_tp 9 rfl (Rd_nilCheck rfl) rfl (hp _ _) ?_
        refine WJ_tp 10 rfl (Rd_fieldAddr rfl fo136_0) rfl (hp _ _) ?_
        refine WJ_tk 11 (Rd_load rfl tk3 (v := .int .i64 ((r.n : Nat) : Int))) hp ?_ rfl (by kernel_rfl) rfl rfl rfl
        refine WJ_all (rs := [7]) (by kernel_rfl) rfl ?_
        refine WI_one ?_
        refine WI_ac rfl (Ac_call cf86 rfl (hs := pLeaves_ct (pb := r.pb) (m := r.m) (n := r.n) (w := (wdM r.n)) (Kn := r.K) )) rfl rfl rfl rfl ?_
        rintro _ _ ⟨⟨⟩, rfl, hA⟩
        simp only [List.cons_append, List.nil_append] at hA
        replace hA := hA.symm
        subst hA
        refine ⟨(fun _ => subA), ?_⟩
        refine WJ_tp 12 rfl (Rd_isT (Rd_eqlN rfl rfl) (decide_eq_true rfl)) rfl (hp _ _) ?_
        refine WJ_tp 13 rfl (Rd_pickT rfl rfl) rfl (hp _ _) ?_
        refine WJ_tp 14 rfl (Rd_move rfl) rfl (hp _ _) ?_
        refine WJ_tp 15 rfl (Rd_move rfl) rfl (hp _ _) ?_
        refine WJ_tp 17 rfl (Rd_move rfl) rfl (hp _ _) ?_
        refine WJ_tp 18 rfl (Rd_nilCheck rfl) rfl (hp _ _) ?_
        refine WJ_tp 19 rfl (Rd_fieldAddr rfl fo136_1) rfl (hp _ _) ?_
        refine WJ_tk 20 (Rd_load rfl tk3 (v := .int .i64 (((wdM r.n) : Nat) : Int))) hp ?_ rfl (by kernel_rfl) rfl rfl rfl
        refine WJ_all (rs := [16]) (by kernel_rfl) rfl ?_
        refine WI_one ?_
        refine WI_ac rfl (Ac_call cf75 rfl (hs := pWidth_ct (pb := r.pb) (m := r.m) (n := r.n) (w := (wdM r.n)) (Kn := r.K) )) rfl rfl rfl rfl ?_
        rintro _ _ ⟨⟨⟩, rfl, hA⟩
        simp only [List.cons_append, List.nil_append] at hA
        replace hA := hA.symm
        subst hA
        refine ⟨(fun _ => subA), ?_⟩
        refine WJ_tp 21 rfl (Rd_isT (Rd_eqlN rfl rfl) (decide_eq_true rfl)) rfl (hp _ _) ?_
        refine WJ_tp 22 rfl (Rd_pickT rfl rfl) rfl (hp _ _) ?_
        refine WJ_tp 23 rfl (Rd_assign rfl) rfl (hp _ _) ?_
        refine WJ_done (by kernel_rfl) ?_
        refine Ps_next hK31 ?_
        refine WC_ret ?_
        refine Ps_imp (fun w h => sat_gv (B := [cl r.pb 161 [.int .i64 ((r.n : Nat) : Int), .int .i64 (((wdM r.n) : Nat) : Int), .map (some r.m)], mpI r.m (kv r.K), cl r.qb 136 [.int .i64 ((r.n : Nat) : Int), .int .i64 (((wdM r.n) : Nat) : Int), sl (some r.gi) (2 * (wdM r.n)) r.ci, sl (some r.gd) (2 * (wdM r.n)) r.cd], arr (some r.gi) r.ci 1 4 eBool (isL r.K (wdM r.n)), arr (some r.gd) r.cd 32 42 fD (dgL r.K (wdM r.n))]) gvA h) ?_
        rw [show sep [cl r.pb 161 [.int .i64 ((r.n : Nat) : Int), .int .i64 (((wdM r.n) : Nat) : Int), .map (some r.m)], mpI r.m (kv r.K), cl r.qb 136 [.int .i64 ((r.n : Nat) : Int), .int .i64 (((wdM r.n) : Nat) : Int), sl (some r.gi) (2 * (wdM r.n)) r.ci, sl (some r.gd) (2 * (wdM r.n)) r.cd], arr (some r.gi) r.ci 1 4 eBool (isL r.K (wdM r.n)), arr (some r.gd) r.cd 32 42 fD (dgL r.K (wdM r.n))] = FPR r from rfl]
        refine Ps_shut FPR rs (x.on.toNat % 4) r (by rw [h4]; omega) ?_
        rw [set_self hri]
        exact hret.gfE ⟨((rs, s) : List PR × BKp), ⟨hG, hB.up (by omega)⟩⟩ (Rs1 rfl rfl) rfl
       ·try simp only [dz, ne_eq] at hc6
        refine WC_skip ?_
        refine Ps_next hK4 ?_
        refine WC_sr fun K32 hK32 => ?_
        refine WL_r (Rd_move rfl) rfl ?_
        refine WL_ac (Ac_call cf80 rfl (hs := pClone_ct (pb := r.pb) (m := r.m) (n := r.n) (w := (wdM r.n)) (Kn := r.K) (hn1 := h1))) rfl rfl rfl ?_
        rintro _ _ ⟨⟨ob, om⟩, rfl, hA⟩
        simp only [List.cons_append, List.nil_append] at hA
        replace hA := hA.symm
        subst hA
        refine WL_r (Rd_assign rfl) rfl ?_
        refine WL_end hK32 ?_
        refine WC_seq fun K33 hK33 => ?_
        refine WC_sr fun K34 hK34 => ?_
        refine WL_r (Rd_move rfl) rfl ?_
        refine WL_r (Rd_peq rfl rfl ud121) rfl ?_
        refine WL_end hK34 ?_
        refine WC_condF rfl ?_
        refine WC_skip ?_
        refine Ps_next hK33 ?_
        refine WC_seq fun K35 hK35 => ?_
        refine WC_drawA mix (fun i => ([2, 2, 2, 2, 2, 2, 2, 2, 0] : List Nat).getD i 0) ?_
        refine WJ_tp 0 rfl (Rd_move rfl) rfl (hp _ _) ?_
        refine WJ_tp 1 rfl (Rd_fieldAddr rfl fo156_1) rfl (hp _ _) ?_
        refine WJ_tk 2 (Rd_load rfl tk5 (v := .int .u8 (x.to.toNat : Int))) hp ?_ rfl (by kernel_rfl) rfl rfl rfl
        refine WJ_tp 3 rfl (Rd_rem' (r := (((x.to.toNat % 4) : Nat) : Int)) rfl rfl (by decide) (by rw [Int.tmod_eq_emod_of_nonneg (by omega)]; rfl)) rfl (hp _ _) ?_
        refine WJ_tp 4 rfl (Rd_move rfl) rfl (hp _ _) ?_
        refine WJ_tp 5 rfl (Rd_nilCheck rfl) rfl (hp _ _) ?_
        refine WJ_tp 6 rfl (Rd_fieldAddr rfl fo154_0) rfl (hp _ _) ?_
        refine WJ_tp 7 rfl (Rd_indexA (x.to.toNat % 4) rfl rfl ud151 sz121 rfl ht4) rfl (hp _ _) ?_
        refine WJ_all (rs := [8]) (by kernel_rfl) rfl ?_
        refine WI_one ?_
        refine WI_ac0 rfl (Ac_store1 (ys := (PLc rs s).set (x.to.toNat % 4) (pP ob)) rfl rfl sz121 (hl := by rw [PLc_len h4, Nat.blt_eq]; omega) (hr := by rw [Nat.zero_add, Nat.mul_one]; rfl)) rfl rfl rfl ?_
        rintro _ _ rfl
        refine ⟨(fun h => by cases h), ?_⟩
        refine WJ_done (by kernel_rfl) ?_
        refine Ps_next hK35 ?_
        refine WC_seq fun K36 hK36 => ?_
        refine WC_drawA mix (fun i => ([2, 2, 2, 2, 2, 1, 2, 2, 2, 0] : List Nat).getD i 0) ?_
        refine WJ_tp 0 rfl (Rd_move rfl) rfl (hp _ _) ?_
        refine WJ_tp 1 rfl (Rd_fieldAddr rfl fo156_1) rfl (hp _ _) ?_
        refine WJ_tk 2 (Rd_load rfl tk5 (v := .int .u8 (x.to.toNat : Int))) hp ?_ rfl (by kernel_rfl) rfl rfl rfl
        refine WJ_tp 3 rfl (Rd_rem' (r := (((x.to.toNat % 4) : Nat) : Int)) rfl rfl (by decide) (by rw [Int.tmod_eq_emod_of_nonneg (by omega)]; rfl)) rfl (hp _ _) ?_
        refine WJ_tp 4 rfl (Rd_move rfl) rfl (hp _ _) ?_
        refine WJ_tp 6 rfl (Rd_nilCheck rfl) rfl (hp _ _) ?_
        refine WJ_tp 7 rfl (Rd_fieldAddr rfl fo154_1) rfl (hp _ _) ?_
        refine WJ_all (rs := [5]) (by kernel_rfl) rfl ?_
        refine WI_one ?_
        refine WI_ac rfl (Ac_call cf144 rfl (hs := dClone_ct (qb := r.qb) (gi := r.gi) (ci := r.ci) (gd := r.gd) (cd := r.cd) (n := r.n) (w := (wdM r.n)) (Kn := r.K) (hw1 := hw1))) rfl rfl rfl rfl ?_
        rintro _ _ ⟨⟨ob2, og, oc, oe, of⟩, rfl, hA⟩
        simp only [List.cons_append, List.nil_append] at hA
        replace hA := hA.symm
        subst hA
        refine ⟨(fun _ => subA), ?_⟩
        refine WJ_tp 8 rfl (Rd_indexA (x.to.toNat % 4) rfl rfl ud152 sz129 rfl ht4) rfl (hp _ _) ?_
        refine WJ_all (rs := [9]) (by kernel_rfl) rfl ?_
        refine WI_one ?_
        refine WI_ac0 rfl (Ac_store1 (ys := ((PLc rs s).set (x.to.toNat % 4) (pP ob)).set (4 + (x.to.toNat % 4)) (pP ob2)) rfl rfl sz129 (hl := by rw [List.length_set, PLc_len h4, Nat.blt_eq]; omega) (hr := by rw [Nat.mul_one]; rfl)) rfl rfl rfl ?_
        rintro _ _ rfl
        refine ⟨(fun h => by cases h), ?_⟩
        refine WJ_done (by kernel_rfl) ?_
        refine Ps_next hK36 ?_
        refine WC_pk0 ?_
        refine WC_pull (arr (some r.gd) r.cd 32 42 fD (dgL r.K (wdM r.n))) ?_
        refine WC_pull (arr (some r.gi) r.ci 1 4 eBool (isL r.K (wdM r.n))) ?_
        refine WC_pull (cl r.qb 136 [.int .i64 ((r.n : Nat) : Int), .int .i64 (((wdM r.n) : Nat) : Int), sl (some r.gi) (2 * (wdM r.n)) r.ci, sl (some r.gd) (2 * (wdM r.n)) r.cd]) ?_
        refine WC_pull (mpI r.m (kv r.K)) ?_
        refine WC_pull (cl r.pb 161 [.int .i64 ((r.n : Nat) : Int), .int .i64 (((wdM r.n) : Nat) : Int), .map (some r.m)]) ?_
        rw [show sep [cl r.pb 161 [.int .i64 ((r.n : Nat) : Int), .int .i64 (((wdM r.n) : Nat) : Int), .map (some r.m)], mpI r.m (kv r.K), cl r.qb 136 [.int .i64 ((r.n : Nat) : Int), .int .i64 (((wdM r.n) : Nat) : Int), sl (some r.gi) (2 * (wdM r.n)) r.ci, sl (some r.gd) (2 * (wdM r.n)) r.cd], arr (some r.gi) r.ci 1 4 eBool (isL r.K (wdM r.n)), arr (some r.gd) r.cd 32 42 fD (dgL r.K (wdM r.n))] = FPR r from rfl]
        refine WC_shut FPR rs (x.on.toNat % 4) r (by rw [h4]; omega) ?_
        rw [set_self hri]
        obtain ⟨rj, hrj, _⟩ := hG.at (i := (x.to.toNat % 4)) ht4
        refine WC_open FPR rs (x.to.toNat % 4) (x := rj) hrj ?_
        refine WC_pk0 ?_
        refine WC_pull (arr (some oe) of 32 42 fD (dgL r.K (wdM r.n))) ?_
        refine WC_pull (arr (some og) oc 1 4 eBool (isL r.K (wdM r.n))) ?_
        refine WC_pull (cl ob2 136 [.int .i64 ((r.n : Nat) : Int), .int .i64 (((wdM r.n) : Nat) : Int), sl (some og) (2 * (wdM r.n)) oc, sl (some oe) (2 * (wdM r.n)) of]) ?_
        refine WC_pull (mpI om (kv r.K)) ?_
        refine WC_pull (cl ob 161 [.int .i64 ((r.n : Nat) : Int), .int .i64 (((wdM r.n) : Nat) : Int), .map (some om)]) ?_
        rw [show sep [cl ob 161 [.int .i64 ((r.n : Nat) : Int), .int .i64 (((wdM r.n) : Nat) : Int), .map (some om)], mpI om (kv r.K), cl ob2 136 [.int .i64 ((r.n : Nat) : Int), .int .i64 (((wdM r.n) : Nat) : Int), sl (some og) (2 * (wdM r.n)) oc, sl (some oe) (2 * (wdM r.n)) of], arr (some og) oc 1 4 eBool (isL r.K (wdM r.n)), arr (some oe) of 32 42 fD (dgL r.K (wdM r.n))] = FPR (⟨r.n, r.K, ob, om, ob2, og, oc, oe, of⟩ : PR) from rfl]
        refine WC_shut FPR rs (x.to.toNat % 4) (⟨r.n, r.K, ob, om, ob2, og, oc, oe, of⟩ : PR) (by rw [h4]; omega) ?_
        rw [PLc_new (r' := (⟨r.n, r.K, ob, om, ob2, og, oc, oe, of⟩ : PR)) h4 ht4]
        refine WC_sr fun K37 hK37 => ?_
        refine WL_r (Rd_assign rfl) rfl ?_
        refine WL_end hK37 ?_
        refine WC_ret ?_
        exact hret.gfE ⟨((rs.set (x.to.toNat % 4) (⟨r.n, r.K, ob, om, ob2, og, oc, oe, of⟩ : PR), s) : List PR × BKp), ⟨hG.set ⟨h1, h2, hsk, hr1⟩, hB.up (by omega)⟩⟩ (Rs1 rfl rfl) rfl
end Go.Proofs.Ytgkpbeikcpecbaa
