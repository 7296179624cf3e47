/-
  Contracts of functions that the claim reaches, or the logic and the plain laws that they rest on, or the row over them. (Conditions: none beyond the statement.)
-/
import Derived.Test.YtcookmkklcbbnaaHqCallD
set_option linter.all false
namespace Go.Proofs.Ytcookmkklcbbnaa
open Go.RowKit Go.SL Go.HpM Go.ShM 
set_option maxHeartbeats 1000000
set_option maxRecDepth 20000
set_option linter.all false
theorem cf32 : cfn Try.prog 32 = true := by kernel_rfl
theorem cf52 : cfn Try.prog 52 = true := by kernel_rfl
theorem cf53 : cfn Try.prog 53 = true := by kernel_rfl
theorem cf54 : cfn Try.prog 54 = true := by kernel_rfl
theorem cf55 : cfn Try.prog 55 = true := by kernel_rfl
theorem cf56 : cfn Try.prog 56 = true := by kernel_rfl
theorem cf57 : cfn Try.prog 57 = true := by kernel_rfl
theorem fo77_1 : fo Try.prog 77 1 = some (1, 3) := by kernel_rfl
theorem fo77_3 : fo Try.prog 77 3 = some (3, 3) := by kernel_rfl
theorem tk77 : tk Try.prog 77 = some (some 5) := by kernel_rfl
theorem ud4 : Try.prog.underlying 4 = some (.bool) := by kernel_rfl
theorem ask_ct {by_ : Int} {hb rb c : Nat} {p : HG} {q : HO} (hR : Rl (ltz by_) p.rows p.L p.made := by assumption) (hpm : p.made ≤ 50000000 := by omega) : Ct Try.prog 33 [.pointer (some ⟨hb, 0, none⟩), .pointer (some ⟨rb, 0, none⟩), .agg (eHO q).toArray] [hI_hpA (.func (.func 45) #[] (caO c).toArray) hb p.rows p.made, JO c by_, cl rb 73 [.int .i64 by_, sl p.a p.L.length p.cap, .int .i64 ((p.made : Nat) : Int)], arr p.a p.cap 2 99 eIt p.L] (fun g : {g : HG // Rl (ltz by_) g.rows g.L g.made ∧ g.made ≤ p.made + 1} => .bool true) (fun g => [hI_hpA (.func (.func 45) #[] (caO c).toArray) hb g.val.rows g.val.made, JO c by_, cl rb 73 [.int .i64 by_, sl g.val.a g.val.L.length g.val.cap, .int .i64 ((g.val.made : Nat) : Int)], arr g.val.a g.val.cap 2 99 eIt g.val.L]) := by
  refine Ct_body (n := 135) Try.func33 rfl rfl rfl fun F w0 Q hret hnorm hp => ?_
  change WC _ _ _ _ _ _ _ (_ :: _ :: _ :: _ :: F)
  have hpl := hR.len
  have hgl := hR.gd.len
  refine WC_sr fun K1 hK1 => ?_
  refine WL_ac (Ac_box (xs := eHO q) rfl rfl) rfl rfl rfl ?_
  rintro _ _ ⟨b5, rfl, rfl⟩
  refine WL_rd (Rd_assign rfl) rfl rfl rfl ?_
  refine WL_end hK1 ?_
  refine WC_seq fun K2 hK2 => ?_
  refine WC_sr fun K3 hK3 => ?_
  refine WL_rd (Rd_fieldAddr rfl fo77_1) rfl rfl rfl ?_
  refine WL_rd (Rd_load rfl tk3 (v := .int .i64 q.call)) rfl rfl rfl ?_
  refine WL_end hK3 ?_
  refine WC_block ?_
  refine WC_sr fun K4 hK4 => ?_
  refine WL_rd (Rd_eql rfl rfl) rfl rfl rfl ?_
  refine WL_rd (Rd_assign rfl) rfl rfl rfl ?_
  refine WL_end hK4 ?_
  refine WC_cond rfl (fun hc0 => ?_) (fun hc0 => ?_)
  · try simp only [decide_eq_true_eq, decide_eq_false_iff_not, Bool.not_eq_true', Bool.not_eq_false', Bool.not_eq_true, Bool.not_eq_false, Int.not_lt, Int.not_le, Nat.not_lt, Nat.not_le, Decidable.not_not, ne_eq] at hc0
    refine WC_sr fun K5 hK5 => ?_
    refine WL_rd (Rd_move rfl) rfl rfl rfl ?_
    refine WL_rd (Rd_fieldAddr rfl fo77_2) rfl rfl rfl ?_
    refine WL_rd (Rd_load rfl tk3 (v := .int .i64 q.th)) rfl rfl rfl ?_
    refine WL_ac (Ac_call cf25 rfl (hs := hI_push_hp hcfO (hlessO c by_) (b := hb) (s := ()) (rows := p.rows) (made := p.made) (x := q.th))) rfl rfl rfl ?_
    rintro _ _ ⟨⟨⟩, rfl, hA⟩
    simp only [List.cons_append, List.nil_append] at hA
    replace hA := hA.symm
    subst hA
    refine WL_rd (Rd_move rfl) rfl rfl rfl ?_
    refine WL_rd (Rd_ext0 rfl) rfl rfl rfl ?_
    refine WL_rd (Rd_ext1 rfl) rfl rfl rfl ?_
    refine WL_rd (Rd_assign rfl) rfl rfl rfl ?_
    refine WL_rd (Rd_assign rfl) rfl rfl rfl ?_
    refine WL_end hK5 ?_
    refine WC_sr fun K6 hK6 => ?_
    refine WL_rd (Rd_move rfl) rfl rfl rfl ?_
    refine WL_rd (Rd_eqlN (i := 0) (j := 0) rfl rfl) rfl rfl rfl ?_
    refine WL_rd (Rd_move rfl) rfl rfl rfl ?_
    refine WL_rd (Rd_move rfl) rfl rfl rfl ?_
    refine WL_rd (Rd_move rfl) rfl rfl rfl ?_
    refine WL_rd (Rd_fieldAddr rfl fo77_2) rfl rfl rfl ?_
    refine WL_rd (Rd_load rfl tk3 (v := .int .i64 q.th)) rfl rfl rfl ?_
    refine WL_ac (Ac_call cf47 rfl (hs := rPush_ct (b := rb) (by_ := by_) (rows := p.L) (made := p.made) (x := q.th))) rfl rfl rfl ?_
    rintro _ _ ⟨⟨a1, cap1⟩, rfl, hA⟩
    simp only [List.cons_append, List.nil_append] at hA
    replace hA := hA.symm
    subst hA
    refine WL_rd (Rd_isT (Rd_eqlN rfl rfl)) rfl rfl rfl ?_
    refine WL_rd (Rd_pickT rfl rfl) rfl rfl rfl ?_
    refine WL_rd (Rd_assign rfl) rfl rfl rfl ?_
    refine WL_end hK6 ?_
    refine WC_ret ?_
    exact hret.goE ⟨(⟨(pushM (pl (ltz by_)) () p.rows p.made q.th).1, p.L ++ [(p.made, q.th)], p.made + 1, a1, cap1⟩ : HG), hR.push (ltz_od by_) q.th, Nat.le_refl _⟩ (Rs1 rfl rfl) rfl
  · try simp only [decide_eq_true_eq, decide_eq_false_iff_not, Bool.not_eq_true', Bool.not_eq_false', Bool.not_eq_true, Bool.not_eq_false, Int.not_lt, Int.not_le, Nat.not_lt, Nat.not_le, Decidable.not_not, ne_eq] at hc0
    refine WC_sr fun K7 hK7 => ?_
    refine WL_rd (Rd_eql rfl rfl) rfl rfl rfl ?_
    refine WL_rd (Rd_assign rfl) rfl rfl rfl ?_
    refine WL_end hK7 ?_
    refine WC_cond rfl (fun hc1 => ?_) (fun hc1 => ?_)
    · try simp only [decide_eq_true_eq, decide_eq_false_iff_not, Bool.not_eq_true', Bool.not_eq_false', Bool.not_eq_true, Bool.not_eq_false, Int.not_lt, Int.not_le, Nat.not_lt, Nat.not_le, Decidable.not_not, ne_eq] at hc1
      refine WC_sr fun K8 hK8 => ?_
      refine WL_rd (Rd_move rfl) rfl rfl rfl ?_
      refine WL_ac (Ac_call cf26 rfl (hs := pPop_ct (b := hb) (c := c) (by_ := by_) (rows := p.rows) (made := p.made))) rfl rfl rfl ?_
      rintro _ _ ⟨⟨⟩, rfl, hA⟩
      simp only [List.cons_append, List.nil_append] at hA
      replace hA := hA.symm
      subst hA
      obtain ⟨e1, e2, e3⟩ := hR.pop (ltz_od by_)
      refine WL_rd (Rd_move rfl) rfl rfl rfl ?_
      refine WL_rd (Rd_ext0 rfl) rfl rfl rfl ?_
      refine WL_rd (Rd_ext1 rfl) rfl rfl rfl ?_
      refine WL_rd (Rd_assign rfl) rfl rfl rfl ?_
      refine WL_rd (Rd_assign rfl) rfl rfl rfl ?_
      refine WL_end hK8 ?_
      refine WC_sr fun K9 hK9 => ?_
      refine WL_rd (Rd_move rfl) rfl rfl rfl ?_
      refine WL_ac (Ac_call cf52 rfl (hs := rPop_ct (b := rb) (by_ := by_) (rows := p.L) (made := p.made))) rfl rfl rfl ?_
      rintro _ _ ⟨⟨a1, cap1⟩, rfl, hA⟩
      simp only [List.cons_append, List.nil_append] at hA
      replace hA := hA.symm
      subst hA
      rw [← e1, ← e2]
      refine WL_rd (Rd_move rfl) rfl rfl rfl ?_
      refine WL_rd (Rd_ext0 rfl) rfl rfl rfl ?_
      refine WL_rd (Rd_ext1 rfl) rfl rfl rfl ?_
      refine WL_rd (Rd_assign rfl) rfl rfl rfl ?_
      refine WL_rd (Rd_assign rfl) rfl rfl rfl ?_
      refine WL_end hK9 ?_
      refine WC_sr fun K10 hK10 => ?_
      refine WL_rd (Rd_move rfl) rfl rfl rfl ?_
      refine WL_rd (Rd_move rfl) rfl rfl rfl ?_
      refine WL_rd (Rd_isT (Rd_eql rfl rfl)) rfl rfl rfl ?_
      refine WL_rd (Rd_move rfl) rfl rfl rfl ?_
      refine WL_rd (Rd_move rfl) rfl rfl rfl ?_
      refine WL_rd (Rd_move rfl) rfl rfl rfl ?_
      refine WL_rd (Rd_isT (Rd_beq rfl rfl ud4) (by simp)) rfl rfl rfl ?_
      refine WL_rd (Rd_pickT rfl rfl) rfl rfl rfl ?_
      refine WL_rd (Rd_assign rfl) rfl rfl rfl ?_
      refine WL_end hK10 ?_
      refine WC_ret ?_
      exact hret.goE ⟨(⟨(takeM (pl (ltz by_)) () p.rows 0).1, lsL (ltz by_) p.L, p.made, a1, cap1⟩ : HG), e3, by dsimp only; omega⟩ (Rs1 rfl rfl) rfl
    · try simp only [decide_eq_true_eq, decide_eq_false_iff_not, Bool.not_eq_true', Bool.not_eq_false', Bool.not_eq_true, Bool.not_eq_false, Int.not_lt, Int.not_le, Nat.not_lt, Nat.not_le, Decidable.not_not, ne_eq] at hc1
      refine WC_sr fun K11 hK11 => ?_
      refine WL_rd (Rd_eql rfl rfl) rfl rfl rfl ?_
      refine WL_rd (Rd_assign rfl) rfl rfl rfl ?_
      refine WL_end hK11 ?_
      refine WC_cond rfl (fun hc2 => ?_) (fun hc2 => ?_)
      · try simp only [decide_eq_true_eq, decide_eq_false_iff_not, Bool.not_eq_true', Bool.not_eq_false', Bool.not_eq_true, Bool.not_eq_false, Int.not_lt, Int.not_le, Nat.not_lt, Nat.not_le, Decidable.not_not, ne_eq] at hc2
        refine WC_sr fun K12 hK12 => ?_
        refine WL_rd (Rd_move rfl) rfl rfl rfl ?_
        refine WL_ac (Ac_call cf39 rfl (hs := pPeek_ct (b := hb) (c := c) (by_ := by_) (rows := p.rows) (made := p.made))) rfl rfl rfl ?_
        rintro _ _ ⟨⟨⟩, rfl, hA⟩
        simp only [List.cons_append, List.nil_append] at hA
        replace hA := hA.symm
        subst hA
        obtain ⟨e1, e2, e3⟩ := hR.pop (ltz_od by_)
        refine WL_rd (Rd_move rfl) rfl rfl rfl ?_
        refine WL_rd (Rd_ext0 rfl) rfl rfl rfl ?_
        refine WL_rd (Rd_ext1 rfl) rfl rfl rfl ?_
        refine WL_rd (Rd_assign rfl) rfl rfl rfl ?_
        refine WL_rd (Rd_assign rfl) rfl rfl rfl ?_
        refine WL_end hK12 ?_
        refine WC_sr fun K13 hK13 => ?_
        refine WL_rd (Rd_move rfl) rfl rfl rfl ?_
        refine WL_ac (Ac_call cf53 rfl (hs := rPeek_ct (b := rb) (by_ := by_) (rows := p.L) (made := p.made))) rfl rfl rfl ?_
        rintro _ _ ⟨⟨⟩, rfl, hA⟩
        simp only [List.cons_append, List.nil_append] at hA
        replace hA := hA.symm
        subst hA
        rw [← e1, ← e2]
        refine WL_rd (Rd_move rfl) rfl rfl rfl ?_
        refine WL_rd (Rd_ext0 rfl) rfl rfl rfl ?_
        refine WL_rd (Rd_ext1 rfl) rfl rfl rfl ?_
        refine WL_rd (Rd_assign rfl) rfl rfl rfl ?_
        refine WL_rd (Rd_assign rfl) rfl rfl rfl ?_
        refine WL_end hK13 ?_
        refine WC_sr fun K14 hK14 => ?_
        refine WL_rd (Rd_move rfl) rfl rfl rfl ?_
        refine WL_rd (Rd_move rfl) rfl rfl rfl ?_
        refine WL_rd (Rd_isT (Rd_eql rfl rfl)) rfl rfl rfl ?_
        refine WL_rd (Rd_move rfl) rfl rfl rfl ?_
        refine WL_rd (Rd_move rfl) rfl rfl rfl ?_
        refine WL_rd (Rd_move rfl) rfl rfl rfl ?_
        refine WL_rd (Rd_isT (Rd_beq rfl rfl ud4) (by simp)) rfl rfl rfl ?_
        refine WL_rd (Rd_pickT rfl rfl) rfl rfl rfl ?_
        refine WL_rd (Rd_assign rfl) rfl rfl rfl ?_
        refine WL_end hK14 ?_
        refine WC_ret ?_
        exact hret.goE ⟨p, hR, by omega⟩ (Rs1 rfl rfl) rfl
      · try simp only [decide_eq_true_eq, decide_eq_false_iff_not, Bool.not_eq_true', Bool.not_eq_false', Bool.not_eq_true, Bool.not_eq_false, Int.not_lt, Int.not_le, Nat.not_lt, Nat.not_le, Decidable.not_not, ne_eq] at hc2
        refine WC_sr fun K15 hK15 => ?_
        refine WL_rd (Rd_eql rfl rfl) rfl rfl rfl ?_
        refine WL_rd (Rd_assign rfl) rfl rfl rfl ?_
        refine WL_end hK15 ?_
        refine WC_cond rfl (fun hc3 => ?_) (fun hc3 => ?_)
        · try simp only [decide_eq_true_eq, decide_eq_false_iff_not, Bool.not_eq_true', Bool.not_eq_false', Bool.not_eq_true, Bool.not_eq_false, Int.not_lt, Int.not_le, Nat.not_lt, Nat.not_le, Decidable.not_not, ne_eq] at hc3
          refine WC_sr fun K16 hK16 => ?_
          refine WL_rd (Rd_move rfl) rfl rfl rfl ?_
          refine WL_rd (Rd_fieldAddr rfl fo77_3) rfl rfl rfl ?_
          refine WL_rd (Rd_load rfl tk3 (v := .int .i64 q.tk)) rfl rfl rfl ?_
          refine WL_ac (Ac_call cf32 rfl (hs := pDrop_ct (b := hb) (c := c) (by_ := by_) (rows := p.rows) (made := p.made) (t := q.tk))) rfl rfl rfl ?_
          rintro _ _ ⟨⟨⟩, rfl, hA⟩
          simp only [List.cons_append, List.nil_append] at hA
          replace hA := hA.symm
          subst hA
          obtain ⟨e1, e2, e3⟩ := hR.drop (ltz_od by_) q.tk
          refine WL_rd (Rd_move rfl) rfl rfl rfl ?_
          refine WL_rd (Rd_ext0 rfl) rfl rfl rfl ?_
          refine WL_rd (Rd_ext1 rfl) rfl rfl rfl ?_
          refine WL_rd (Rd_assign rfl) rfl rfl rfl ?_
          refine WL_rd (Rd_assign rfl) rfl rfl rfl ?_
          refine WL_end hK16 ?_
          refine WC_sr fun K17 hK17 => ?_
          refine WL_rd (Rd_move rfl) rfl rfl rfl ?_
          refine WL_rd (Rd_fieldAddr rfl fo77_3) rfl rfl rfl ?_
          refine WL_rd (Rd_load rfl tk3 (v := .int .i64 q.tk)) rfl rfl rfl ?_
          refine WL_ac (Ac_call cf54 rfl (hs := rDrop_ct (b := rb) (by_ := by_) (rows := p.L) (made := p.made) (t := q.tk))) rfl rfl rfl ?_
          rintro _ _ ⟨⟨a1, cap1⟩, rfl, hA⟩
          simp only [List.cons_append, List.nil_append] at hA
          replace hA := hA.symm
          subst hA
          rw [← e1, ← e2]
          refine WL_rd (Rd_move rfl) rfl rfl rfl ?_
          refine WL_rd (Rd_ext0 rfl) rfl rfl rfl ?_
          refine WL_rd (Rd_ext1 rfl) rfl rfl rfl ?_
          refine WL_rd (Rd_assign rfl) rfl rfl rfl ?_
          refine WL_rd (Rd_assign rfl) rfl rfl rfl ?_
          refine WL_end hK17 ?_
          refine WC_sr fun K18 hK18 => ?_
          refine WL_rd (Rd_move rfl) rfl rfl rfl ?_
          refine WL_rd (Rd_move rfl) rfl rfl rfl ?_
          refine WL_rd (Rd_isT (Rd_eql rfl rfl)) rfl rfl rfl ?_
          refine WL_rd (Rd_move rfl) rfl rfl rfl ?_
          refine WL_rd (Rd_move rfl) rfl rfl rfl ?_
          refine WL_rd (Rd_move rfl) rfl rfl rfl ?_
          refine WL_rd (Rd_isT (Rd_eql rfl rfl)) rfl rfl rfl ?_
          refine WL_rd (Rd_pickT rfl rfl) rfl rfl rfl ?_
          refine WL_rd (Rd_assign rfl) rfl rfl rfl ?_
          refine WL_end hK18 ?_
          refine WC_ret ?_
          exact hret.goE ⟨(⟨drR (ltz by_) p.rows q.tk, drL p.L q.tk, p.made, a1, cap1⟩ : HG), e3, by dsimp only; omega⟩ (Rs1 rfl rfl) rfl
        · try simp only [decide_eq_true_eq, decide_eq_false_iff_not, Bool.not_eq_true', Bool.not_eq_false', Bool.not_eq_true, Bool.not_eq_false, Int.not_lt, Int.not_le, Nat.not_lt, Nat.not_le, Decidable.not_not, ne_eq] at hc3
          refine WC_sr fun K19 hK19 => ?_
          refine WL_rd (Rd_eql rfl rfl) rfl rfl rfl ?_
          refine WL_rd (Rd_assign rfl) rfl rfl rfl ?_
          refine WL_end hK19 ?_
          refine WC_cond rfl (fun hc4 => ?_) (fun hc4 => ?_)
          · try simp only [decide_eq_true_eq, decide_eq_false_iff_not, Bool.not_eq_true', Bool.not_eq_false', Bool.not_eq_true, Bool.not_eq_false, Int.not_lt, Int.not_le, Nat.not_lt, Nat.not_le, Decidable.not_not, ne_eq] at hc4
            have hdr := hR.drop (ltz_od by_) q.tk
            refine WC_seq fun K20 hK20 => ?_
            refine WC_draw mix [cl b5 77 (eHO q)] (fun i => ([2, 2, 2, 2, 2, 1, 2, 2, 2, 2, 2, 1, 2, 2] : List Nat).getD i 0) ?_
            refine WJ_takeP 0 rfl (by kernel_rfl) (Rd_move rfl) rfl rfl rfl (hp _ _) ?_
            refine WJ_takeP 1 rfl (by kernel_rfl) (Rd_fieldAddr rfl fo77_3) rfl rfl rfl (hp _ _) ?_
            refine WJ_tk 2 (Rd_load rfl tk3 (v := .int .i64 q.tk)) hp ?_ rfl (by kernel_rfl) rfl rfl rfl
            refine WJ_takeP 3 rfl (by kernel_rfl) (Rd_fieldAddr rfl fo77_2) rfl rfl rfl (hp _ _) ?_
            refine WJ_tk 4 (Rd_load rfl tk3 (v := .int .i64 q.th)) hp ?_ rfl (by kernel_rfl) rfl rfl rfl
            refine WJ_takeP 6 rfl (by kernel_rfl) (Rd_move rfl) rfl rfl rfl (hp _ _) ?_
            refine WJ_takeP 7 rfl (by kernel_rfl) (Rd_fieldAddr rfl fo77_3) rfl rfl rfl (hp _ _) ?_
            refine WJ_tk 8 (Rd_load rfl tk3 (v := .int .i64 q.tk)) hp ?_ rfl (by kernel_rfl) rfl rfl rfl
            refine WJ_takeP 9 rfl (by kernel_rfl) (Rd_fieldAddr rfl fo77_2) rfl rfl rfl (hp _ _) ?_
            refine WJ_tk 10 (Rd_load rfl tk3 (v := .int .i64 q.th)) hp ?_ rfl (by kernel_rfl) rfl rfl rfl
            refine WJ_all (rs := [5]) (by kernel_rfl) rfl ?_
            refine WI_one ?_
            refine WI_ac rfl (Ac_call cf55 rfl (hs := pTurn_ct (b := hb) (c := c) (by_ := by_) (rows := p.rows) (made := p.made) (t := q.tk) (z := q.th))) rfl rfl rfl rfl ?_
            rintro _ _ ⟨⟨⟩, rfl, hA⟩
            simp only [List.cons_append, List.nil_append] at hA
            replace hA := hA.symm
            subst hA
            refine ⟨(fun _ => (by repeat (first | with_reducible exact Sub.refl | with_reducible exact Sub.nil | with_reducible refine Sub.cons (by repeat (first | with_reducible exact Ext.here | with_reducible apply Ext.there)) ?_ | with_reducible refine Sub.tail ?_))), ?_⟩
            refine WJ_all (rs := [11]) (by kernel_rfl) rfl ?_
            refine WI_one ?_
            refine WI_ac rfl (Ac_call cf56 rfl (hs := rTurn_ct (b := rb) (by_ := by_) (rows := p.L) (made := p.made) (t := q.tk) (z := q.th))) rfl rfl rfl rfl ?_
            rintro _ _ ⟨⟨⟩, rfl, hA⟩
            simp only [List.cons_append, List.nil_append] at hA
            replace hA := hA.symm
            subst hA
            rw [← hdr.2.1]
            refine ⟨(fun _ => (by repeat (first | with_reducible exact Sub.refl | with_reducible exact Sub.nil | with_reducible refine Sub.cons (by repeat (first | with_reducible exact Ext.here | with_reducible apply Ext.there)) ?_ | with_reducible refine Sub.tail ?_))), ?_⟩
            refine WJ_takeP 12 rfl (by kernel_rfl) (Rd_isT (Rd_eql rfl rfl)) rfl rfl rfl (hp _ _) ?_
            refine WJ_takeP 13 rfl (by kernel_rfl) (Rd_assign rfl) rfl rfl rfl (hp _ _) ?_
            refine WJ_done (by kernel_rfl) ?_
            refine Ps_next hK20 ?_
            refine WC_ret ?_
            exact hret.goE ⟨(⟨tuR (ltz by_) p.rows q.tk q.th, tuL p.L q.tk q.th, p.made, p.a, p.cap⟩ : HG), hR.turnT (ltz_od by_) q.tk q.th, by dsimp only; omega⟩ (Rs1 rfl rfl) rfl
          · try simp only [decide_eq_true_eq, decide_eq_false_iff_not, Bool.not_eq_true', Bool.not_eq_false', Bool.not_eq_true, Bool.not_eq_false, Int.not_lt, Int.not_le, Nat.not_lt, Nat.not_le, Decidable.not_not, ne_eq] at hc4
            refine WC_sr fun K21 hK21 => ?_
            refine WL_rd (Rd_eql rfl rfl) rfl rfl rfl ?_
            refine WL_rd (Rd_assign rfl) rfl rfl rfl ?_
            refine WL_end hK21 ?_
            refine WC_cond rfl (fun hc5 => ?_) (fun hc5 => ?_)
            · try simp only [decide_eq_true_eq, decide_eq_false_iff_not, Bool.not_eq_true', Bool.not_eq_false', Bool.not_eq_true, Bool.not_eq_false, Int.not_lt, Int.not_le, Nat.not_lt, Nat.not_le, Decidable.not_not, ne_eq] at hc5
              refine WC_seq fun K22 hK22 => ?_
              refine WC_drawA mix (fun i => ([2, 1, 2, 2, 2, 2, 2, 2, 2] : List Nat).getD i 0) ?_
              refine WJ_takeP 0 rfl (by kernel_rfl) (Rd_move rfl) rfl rfl rfl (hp _ _) ?_
              refine WJ_takeP 2 rfl (by kernel_rfl) (Rd_move rfl) rfl rfl rfl (hp _ _) ?_
              refine WJ_takeP 3 rfl (by kernel_rfl) (Rd_nilCheck rfl) rfl rfl rfl (hp _ _) ?_
              refine WJ_takeP 4 rfl (by kernel_rfl) (Rd_fieldAddr rfl fo73_1) rfl rfl rfl (hp _ _) ?_
              refine WJ_tk 5 (Rd_load rfl tk71 (v := sl p.a p.L.length p.cap)) hp ?_ rfl (by kernel_rfl) rfl rfl rfl
              refine WJ_takeP 6 rfl (by kernel_rfl) (Rd_len rfl rfl ud71) rfl rfl rfl (hp _ _) ?_
              refine WJ_all (rs := [1]) (by kernel_rfl) rfl ?_
              refine WI_one ?_
              refine WI_ac rfl (Ac_call cf27 rfl (hs := hI_len_hp (b := hb) (lf := 45) (caps := caO c) (rows := p.rows) (made := p.made))) rfl rfl rfl rfl ?_
              rintro _ _ ⟨⟨⟩, rfl, hA⟩
              simp only [List.cons_append, List.nil_append] at hA
              replace hA := hA.symm
              subst hA
              rw [hpl]
              refine ⟨(fun _ => (by repeat (first | with_reducible exact Sub.refl | with_reducible exact Sub.nil | with_reducible refine Sub.cons (by repeat (first | with_reducible exact Ext.here | with_reducible apply Ext.there)) ?_ | with_reducible refine Sub.tail ?_))), ?_⟩
              refine WJ_takeP 7 rfl (by kernel_rfl) (Rd_isT (Rd_eqlN rfl rfl)) rfl rfl rfl (hp _ _) ?_
              refine WJ_takeP 8 rfl (by kernel_rfl) (Rd_assign rfl) rfl rfl rfl (hp _ _) ?_
              refine WJ_done (by kernel_rfl) ?_
              refine Ps_next hK22 ?_
              refine WC_ret ?_
              exact hret.goE ⟨p, hR, by omega⟩ (Rs1 rfl rfl) rfl
            · try simp only [decide_eq_true_eq, decide_eq_false_iff_not, Bool.not_eq_true', Bool.not_eq_false', Bool.not_eq_true, Bool.not_eq_false, Int.not_lt, Int.not_le, Nat.not_lt, Nat.not_le, Decidable.not_not, ne_eq] at hc5
              refine WC_skip ?_
              refine Ps_next hK2 ?_
              refine WC_sr fun K23 hK23 => ?_
              refine WL_rd (Rd_move rfl) rfl rfl rfl ?_
              refine WL_rd (Rd_move rfl) rfl rfl rfl ?_
              refine WL_rd (Rd_loadg (vs := eHO q) rfl tk77 (hi := rfl)) rfl rfl rfl ?_
              refine WL_ac (Ac_call cf57 rfl (hs := gone_ct (p := p) (q := q) (hb := hb) (rb := rb) (c := c) (by_ := by_))) rfl rfl rfl ?_
              rintro _ _ ⟨g, rfl, hA⟩
              simp only [List.cons_append, List.nil_append] at hA
              replace hA := hA.symm
              subst hA
              refine WL_rd (Rd_assign rfl) rfl rfl rfl ?_
              refine WL_end hK23 ?_
              refine WC_ret ?_
              exact hret.goE g (Rs1 rfl rfl) rfl

theorem emptied_ct {by_ : Int} {hb rb c : Nat} {p : HG} (hR : Rl (ltz by_) p.rows p.L p.made := by assumption) (hpm : p.made ≤ 50000000 := by omega) : Ct Try.prog 34 [.pointer (some ⟨hb, 0, none⟩), .pointer (some ⟨rb, 0, none⟩)] [hI_hpA (.func (.func 45) #[] (caO c).toArray) hb p.rows p.made, JO c by_, cl rb 73 [.int .i64 by_, sl p.a p.L.length p.cap, .int .i64 ((p.made : Nat) : Int)], arr p.a p.cap 2 99 eIt p.L] (fun g : {g : HG // Rl (ltz by_) g.rows g.L g.made ∧ g.made = p.made} => .bool true) (fun g => [hI_hpA (.func (.func 45) #[] (caO c).toArray) hb g.val.rows g.val.made, JO c by_, cl rb 73 [.int .i64 by_, sl g.val.a g.val.L.length g.val.cap, .int .i64 ((g.val.made : Nat) : Int)], arr g.val.a g.val.cap 2 99 eIt g.val.L]) := by
  refine Ct_body (n := 46) Try.func34 rfl rfl rfl fun F w0 Q hret hnorm hp => ?_
  change WC _ _ _ _ _ _ _ (_ :: _ :: _ :: _ :: F)
  refine WC_sr fun K1 hK1 => ?_
  refine WL_rd (Rd_assign rfl) rfl rfl rfl ?_
  refine WL_end hK1 ?_
  refine WC_seq fun K2 hK2 => ?_
  refine WC_sr fun K3 hK3 => ?_
  refine WL_rd (Rd_move rfl) rfl rfl rfl ?_
  refine WL_rd (Rd_nilCheck rfl) rfl rfl rfl ?_
  refine WL_rd (Rd_fieldAddr rfl fo73_2) rfl rfl rfl ?_
  refine WL_rd (Rd_load rfl tk3) rfl rfl rfl ?_
  refine WL_rd (Rd_assign rfl) rfl rfl rfl ?_
  refine WL_end hK3 ?_
  refine WC_block ?_
  refine WC_loopK (σ := Nat × HG) (fun ⟨k, s⟩ => [(5, .int .i64 ((p.made : Int) - (k : Int)))]) (fun ⟨k, s⟩ => [hI_hpA (.func (.func 45) #[] (caO c).toArray) hb s.rows p.made, cl rb 73 [.int .i64 by_, sl s.a s.L.length s.cap, .int .i64 ((p.made : Nat) : Int)], arr s.a s.cap 2 99 eIt s.L]) (fun ⟨k, s⟩ => k ≤ p.made + 1 ∧ Rl (ltz by_) s.rows s.L p.made) (fun ⟨k, s⟩ => p.made + 1 - k) ⟨0, p⟩ [0, 1] (by repeat (first | exact Kep.nil | apply Kep.drop rfl | apply Kep.keep rfl)) (by (try dsimp only); repeat (first | with_reducible exact Gv.nil | (with_reducible apply Gv.cons; · (repeat (first | with_reducible exact Ext.here | with_reducible apply Ext.there))))) ?_ ?_ Sub.refl ?_
  · exact ⟨Nat.zero_le _, hR⟩
  · (try dsimp only); exact (Wk.cons (by first | rfl | (simp only [List.length_append, List.length_cons, List.length_nil, List.length_replicate, Nat.zero_add]; rfl) | (simp; done)) Wk.nil)
  · rintro ⟨k, s⟩ ⟨hk, hRs⟩ K4 hK4
    simp only [List.cons_append, List.nil_append]
    have hsl := hRs.len
    have hgl := hRs.gd.len
    refine WC_seq fun K5 hK5 => ?_
    refine WC_sr fun K6 hK6 => ?_
    refine WL_rd (Rd_move rfl) rfl rfl rfl ?_
    refine WL_rd (Rd_geq rfl rfl) rfl rfl rfl ?_
    refine WL_end hK6 ?_
    refine WC_cond rfl (fun hc0 => ?_) (fun hc0 => ?_)
    · try simp only [decide_eq_true_eq, decide_eq_false_iff_not, Bool.not_eq_true', Bool.not_eq_false', Bool.not_eq_true, Bool.not_eq_false, Int.not_lt, Int.not_le, Nat.not_lt, Nat.not_le, Decidable.not_not, ne_eq] at hc0
      refine WC_skip ?_
      refine Ps_next hK5 ?_
      refine WC_seq fun K7 hK7 => ?_
      refine WC_block ?_
      refine WC_sr fun K8 hK8 => ?_
      refine WL_rd (Rd_move rfl) rfl rfl rfl ?_
      refine WL_ac (Ac_call cf26 rfl (hs := pPop_ct (b := hb) (c := c) (by_ := by_) (rows := s.rows) (made := p.made))) rfl rfl rfl ?_
      rintro _ _ ⟨⟨⟩, rfl, hA⟩
      simp only [List.cons_append, List.nil_append] at hA
      replace hA := hA.symm
      subst hA
      obtain ⟨e1, e2, e3⟩ := hRs.pop (ltz_od by_)
      have hel := e3.len
      refine WL_rd (Rd_move rfl) rfl rfl rfl ?_
      refine WL_rd (Rd_ext0 rfl) rfl rfl rfl ?_
      refine WL_rd (Rd_ext1 rfl) rfl rfl rfl ?_
      refine WL_rd (Rd_assign rfl) rfl rfl rfl ?_
      refine WL_rd (Rd_assign rfl) rfl rfl rfl ?_
      refine WL_end hK8 ?_
      refine WC_sr fun K9 hK9 => ?_
      refine WL_rd (Rd_move rfl) rfl rfl rfl ?_
      refine WL_ac (Ac_call cf52 rfl (hs := rPop_ct (b := rb) (by_ := by_) (rows := s.L) (made := p.made))) rfl rfl rfl ?_
      rintro _ _ ⟨⟨a25, cap25⟩, rfl, hA⟩
      simp only [List.cons_append, List.nil_append] at hA
      replace hA := hA.symm
      subst hA
      rw [← e1, ← e2]
      refine WL_rd (Rd_move rfl) rfl rfl rfl ?_
      refine WL_rd (Rd_ext0 rfl) rfl rfl rfl ?_
      refine WL_rd (Rd_ext1 rfl) rfl rfl rfl ?_
      refine WL_rd (Rd_assign rfl) rfl rfl rfl ?_
      refine WL_rd (Rd_assign rfl) rfl rfl rfl ?_
      refine WL_end hK9 ?_
      refine WC_seq fun K10 hK10 => ?_
      refine WC_drawA mix (fun i => ([2, 2, 2, 2, 2, 2, 2, 2, 2, 2, 1, 2, 2, 2, 2, 2, 2, 2] : List Nat).getD i 0) ?_
      refine WJ_takeP 0 rfl (by kernel_rfl) (Rd_move rfl) rfl rfl rfl (hp _ _) ?_
      refine WJ_takeP 1 rfl (by kernel_rfl) (Rd_move rfl) rfl rfl rfl (hp _ _) ?_
      refine WJ_takeP 2 rfl (by kernel_rfl) (Rd_isF (Rd_neq rfl rfl)) rfl rfl rfl (hp _ _) ?_
      refine WJ_takeP 3 rfl (by kernel_rfl) (Rd_move rfl) rfl rfl rfl (hp _ _) ?_
      refine WJ_takeP 4 rfl (by kernel_rfl) (Rd_move rfl) rfl rfl rfl (hp _ _) ?_
      refine WJ_takeP 5 rfl (by kernel_rfl) (Rd_move rfl) rfl rfl rfl (hp _ _) ?_
      refine WJ_takeP 6 rfl (by kernel_rfl) (Rd_isF (Rd_bne rfl rfl ud4) (by simp)) rfl rfl rfl (hp _ _) ?_
      refine WJ_takeP 7 rfl (by kernel_rfl) (Rd_pickF rfl rfl) rfl rfl rfl (hp _ _) ?_
      refine WJ_takeP 8 rfl (by kernel_rfl) (Rd_move rfl) rfl rfl rfl (hp _ _) ?_
      refine WJ_takeP 9 rfl (by kernel_rfl) (Rd_move rfl) rfl rfl rfl (hp _ _) ?_
      refine WJ_takeP 11 rfl (by kernel_rfl) (Rd_move rfl) rfl rfl rfl (hp _ _) ?_
      refine WJ_takeP 12 rfl (by kernel_rfl) (Rd_nilCheck rfl) rfl rfl rfl (hp _ _) ?_
      refine WJ_takeP 13 rfl (by kernel_rfl) (Rd_fieldAddr rfl fo73_1) rfl rfl rfl (hp _ _) ?_
      refine WJ_tk 14 (Rd_load rfl tk71 (v := sl a25 (lsL (ltz by_) s.L).length cap25)) hp ?_ rfl (by kernel_rfl) rfl rfl rfl
      refine WJ_takeP 15 rfl (by kernel_rfl) (Rd_len rfl rfl ud71) rfl rfl rfl (hp _ _) ?_
      refine WJ_all (rs := [10]) (by kernel_rfl) rfl ?_
      refine WI_one ?_
      refine WI_ac rfl (Ac_call cf27 rfl (hs := hI_len_hp (b := hb) (lf := 45) (caps := caO c) (made := p.made))) rfl rfl rfl rfl ?_
      rintro _ _ ⟨⟨⟩, rfl, hA⟩
      simp only [List.cons_append, List.nil_append] at hA
      replace hA := hA.symm
      subst hA
      rw [hel]
      refine ⟨(fun _ => (by repeat (first | with_reducible exact Sub.refl | with_reducible exact Sub.nil | with_reducible refine Sub.cons (by repeat (first | with_reducible exact Ext.here | with_reducible apply Ext.there)) ?_ | with_reducible refine Sub.tail ?_))), ?_⟩
      refine WJ_takeP 16 rfl (by kernel_rfl) (Rd_isF (Rd_neqN rfl rfl)) rfl rfl rfl (hp _ _) ?_
      refine WJ_takeP 17 rfl (by kernel_rfl) (Rd_pickF rfl rfl) rfl rfl rfl (hp _ _) ?_
      refine WJ_done (by kernel_rfl) ?_
      refine Ps_next hK10 ?_
      refine WC_condF rfl ?_
      refine WC_skip ?_
      refine Ps_next hK7 ?_
      refine WC_region ?_
      refine WL_rd (Rd_move rfl) rfl rfl rfl ?_
      refine WL_rd (Rd_sub' (r := (p.made : Int) - ((k + 1 : Nat) : Int)) rfl rfl (wr64 (by omega) (by omega) (by omega))) rfl rfl rfl ?_
      refine WL_rd (Rd_assign rfl) rfl rfl rfl ?_
      refine WL_nil ?_
      refine Ps_wk (by (try simp only [List.cons_append, List.nil_append]); repeat (first | with_reducible exact Wk.nil | refine Wk.cons (by first | rfl | (simp only [List.length_append, List.length_cons, List.length_nil, List.length_replicate, Nat.zero_add]; rfl) | (simp; done)) ?_)) (by (try simp only [List.cons_append, List.nil_append]); repeat (first | with_reducible exact Sub.refl | with_reducible exact Sub.nil | with_reducible refine Sub.cons (by repeat (first | with_reducible exact Ext.here | with_reducible apply Ext.there)) ?_ | with_reducible refine Sub.tail ?_)) (hK4 ⟨k + 1, ⟨(takeM (pl (ltz by_)) () s.rows 0).1, lsL (ltz by_) s.L, p.made, a25, cap25⟩⟩ (⟨by (try dsimp only); omega, e3⟩) (by (try dsimp only); omega))
    · try simp only [decide_eq_true_eq, decide_eq_false_iff_not, Bool.not_eq_true', Bool.not_eq_false', Bool.not_eq_true, Bool.not_eq_false, Int.not_lt, Int.not_le, Nat.not_lt, Nat.not_le, Decidable.not_not, ne_eq] at hc0
      refine WC_exit ?_
      refine Ps_next hK2 ?_
      refine WC_sr fun K11 hK11 => ?_
      refine WL_rd (Rd_assign rfl) rfl rfl rfl ?_
      refine WL_end hK11 ?_
      refine WC_ret ?_
      exact hret.go ⟨⟨s.rows, s.L, p.made, s.a, s.cap⟩, hRs, rfl⟩ (Rs1 rfl rfl)
end Go.Proofs.Ytcookmkklcbbnaa
