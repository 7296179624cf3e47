/-
  Contracts of functions that the claim reaches, or the logic and the plain laws that they rest on, or the row over them. (Conditions: none beyond the statement.)
-/
import Derived.Test.YthkchjcodibaeaaZqC
set_option linter.all false
namespace Go.Proofs.Ythkchjcodibaeaa
open Go.RowKit Go.SL Go.ShM
set_option maxHeartbeats 1000000
set_option maxRecDepth 20000
set_option linter.all false
theorem cf32 : cfn Try.prog 32 = true := by kernel_rfl
theorem ud4 : Try.prog.underlying 4 = some (.bool) := by kernel_rfl
theorem joinP_mem {ps : List Pt} {p : Pt} (h : p ∈ ps) : p.l.length ≤ (joinP ps).length := by
  unfold joinP
  induction ps with
  | nil => cases h
  | cons q ps ih =>
    rw [List.flatMap_cons, List.length_append]
    rcases List.mem_cons.1 h with rfl | h
    · omega
    · have := ih h; omega
theorem lt64 {ps : List Pt} (h : (joinP ps).length ≤ 500000000000) : ∀ l ∈ ps.map (·.l), l.length < 18446744073709551616 := fun l hl => by
  obtain ⟨p, hp, rfl⟩ := List.mem_map.1 hl
  have := joinP_mem hp; omega

theorem TagApart_ct {X : Asn} {t u : B8} {v v' : Value} {ps qs : List Pt} {ao ao' : Option Addr} {cap cap' : Nat} (hS : Sv [X] v 1 fP ps ao cap := by assumption) (hS' : Sv [X] v' 1 fP qs ao' cap' := by assumption) (hP : ∀ p ∈ ps, RdP [X] p := by assumption) (hQ : ∀ p ∈ qs, RdP [X] p := by assumption) (hn : (joinP ps).length ≤ 100000000 := by omega) (hk : ps.length ≤ 100000000 := by omega) (hn' : (joinP qs).length ≤ 100000000 := by omega) (hk' : qs.length ≤ 100000000 := by omega) : Ct Try.prog 10 [.int .u8 ((t.toNat : Nat) : Int), .int .u8 ((u.toNat : Nat) : Int), v, v'] [X] (fun _ : Unit => .bool true) (fun _ => [X]) := by
  refine Ct_body (n := 78) Try.func10 rfl rfl rfl fun F w0 Q hret hnorm hp => ?_
  change WC _ _ _ _ _ _ _ (_ :: F)
  have htl := tagB_len t (ps.map (·.l))
  rw [← joinP_flat, List.length_map] at htl
  have hul := tagB_len u (qs.map (·.l))
  rw [← joinP_flat, List.length_map] at hul
  have hb1 : ∀ p ∈ ps, p.l.length ≤ 900000000000 := fun p h => by have := joinP_mem h; omega
  have hdt := dgM_len (tagB t (ps.map (·.l)))
  have hdu := dgM_len (tagB u (qs.map (·.l)))
  have htd := tagD_len t (ps.map (·.l))
  have hud := tagD_len u (qs.map (·.l))
  refine WC_sr fun K1 hK1 => ?_
  refine WL_rd (Rd_assign rfl) rfl rfl rfl ?_
  refine WL_end hK1 ?_
  refine WC_seq fun K2 hK2 => ?_
  refine WC_sr fun K3 hK3 => ?_
  refine WL_ac (Ac_call cf48 rfl (hs := tlives_ct)) rfl rfl rfl ?_
  rintro _ _ ⟨⟨⟩, rfl, hA⟩
  simp only [List.cons_append, List.nil_append] at hA
  replace hA := hA.symm
  subst hA
  refine WL_rd (Rd_not rfl) rfl rfl rfl ?_
  refine WL_end hK3 ?_
  refine WC_condF rfl ?_
  refine WC_skip ?_
  refine Ps_next hK2 ?_
  refine WC_sr fun K4 hK4 => ?_
  refine WL_rd (Rd_move rfl) rfl rfl rfl ?_
  refine WL_rd (Rd_move rfl) rfl rfl rfl ?_
  refine WL_ac (Ac_call cf49 rfl (hs := bytes_ct (X := X) (t := t) (ps := ps) (hS := hS) (hP := hP))) rfl rfl rfl ?_
  rintro _ _ ⟨⟨a23, cap23⟩, rfl, hA⟩
  simp only [List.cons_append, List.nil_append] at hA
  replace hA := hA.symm
  subst hA
  refine WL_rd (Rd_move rfl) rfl rfl rfl ?_
  refine WL_rd (Rd_ext0 rfl) rfl rfl rfl ?_
  refine WL_rd (Rd_ext1 rfl) rfl rfl rfl ?_
  refine WL_rd (Rd_assign rfl) rfl rfl rfl ?_
  refine WL_rd (Rd_assign rfl) rfl rfl rfl ?_
  refine WL_end hK4 ?_
  refine WC_sr fun K5 hK5 => ?_
  refine WL_rd (Rd_move rfl) rfl rfl rfl ?_
  refine WL_rd (Rd_move rfl) rfl rfl rfl ?_
  refine WL_ac (Ac_call cf49 rfl (hs := bytes_ct (X := X) (t := u) (ps := qs) (hS := hS') (hP := hQ))) rfl rfl rfl ?_
  rintro _ _ ⟨⟨a29, cap29⟩, rfl, hA⟩
  simp only [List.cons_append, List.nil_append] at hA
  replace hA := hA.symm
  subst hA
  refine WL_rd (Rd_move rfl) rfl rfl rfl ?_
  refine WL_rd (Rd_ext0 rfl) rfl rfl rfl ?_
  refine WL_rd (Rd_ext1 rfl) rfl rfl rfl ?_
  refine WL_rd (Rd_assign rfl) rfl rfl rfl ?_
  refine WL_rd (Rd_assign rfl) rfl rfl rfl ?_
  refine WL_end hK5 ?_
  refine WC_seq fun K6 hK6 => ?_
  refine WC_sr fun K7 hK7 => ?_
  refine WL_rd (Rd_move rfl) rfl rfl rfl ?_
  refine WL_rd (Rd_neqN (j := 0) rfl rfl) rfl rfl rfl ?_
  refine WL_rd (Rd_move rfl) rfl rfl rfl ?_
  refine WL_bool 34 rfl (fun hg8 => ?_) (fun hg8 => ?_)
  · try simp only [decide_eq_true_eq, decide_eq_false_iff_not, Bool.not_eq_true', Bool.not_eq_false', Bool.not_eq_true, Bool.not_eq_false, Int.not_lt, Int.not_le, Nat.not_lt, Nat.not_le, Decidable.not_not, ne_eq] at hg8
    refine WL_skip rfl rfl rfl ?_
    refine WL_skip rfl rfl rfl ?_
    refine WL_rd (Rd_pickT rfl rfl) rfl rfl rfl ?_
    refine WL_end hK7 ?_
    refine WC_condT rfl ?_
    refine WC_sr fun K9 hK9 => ?_
    refine WL_rd (Rd_assign rfl) rfl rfl rfl ?_
    refine WL_end hK9 ?_
    refine WC_ret ?_
    exact hret.go () (Rs1 rfl rfl)
  · try simp only [decide_eq_true_eq, decide_eq_false_iff_not, Bool.not_eq_true', Bool.not_eq_false', Bool.not_eq_true, Bool.not_eq_false, Int.not_lt, Int.not_le, Nat.not_lt, Nat.not_le, Decidable.not_not, ne_eq] at hg8
    refine WL_rd (Rd_move rfl) rfl rfl rfl ?_
    refine WL_rd (Rd_neqN (j := 0) rfl rfl) rfl rfl rfl ?_
    refine WL_rd (Rd_pickF rfl rfl) rfl rfl rfl ?_
    refine WL_end hK7 ?_
    refine WC_cond rfl (fun hc1 => ?_) (fun hc1 => ?_)
    · try simp only [decide_eq_true_eq, decide_eq_false_iff_not, Bool.not_eq_true', Bool.not_eq_false', Bool.not_eq_true, Bool.not_eq_false, Int.not_lt, Int.not_le, Nat.not_lt, Nat.not_le, Decidable.not_not, ne_eq] at hc1
      refine WC_sr fun K10 hK10 => ?_
      refine WL_rd (Rd_assign rfl) rfl rfl rfl ?_
      refine WL_end hK10 ?_
      refine WC_ret ?_
      exact hret.go () (Rs1 rfl rfl)
    · try simp only [decide_eq_true_eq, decide_eq_false_iff_not, Bool.not_eq_true', Bool.not_eq_false', Bool.not_eq_true, Bool.not_eq_false, Int.not_lt, Int.not_le, Nat.not_lt, Nat.not_le, Decidable.not_not, ne_eq] at hc1
      refine WC_skip ?_
      refine Ps_next hK6 ?_
      refine WC_sr fun K11 hK11 => ?_
      refine WL_rd (Rd_move rfl) rfl rfl rfl ?_
      refine WL_rd (Rd_move rfl) rfl rfl rfl ?_
      refine WL_rd (Rd_eqlU rfl rfl) rfl rfl rfl ?_
      refine WL_rd (Rd_move rfl) rfl rfl rfl ?_
      refine WL_bool 41 rfl (fun hg12 => ?_) (fun hg12 => ?_)
      · try simp only [decide_eq_true_eq, decide_eq_false_iff_not, Bool.not_eq_true', Bool.not_eq_false', Bool.not_eq_true, Bool.not_eq_false, Int.not_lt, Int.not_le, Nat.not_lt, Nat.not_le, Decidable.not_not, ne_eq] at hg12
        refine WL_rd (Rd_move rfl) rfl rfl rfl ?_
        refine WL_rd (Rd_move rfl) rfl rfl rfl ?_
        refine WL_ac (Ac_call cf32 rfl (hs := sameL_ct (X := X) (ps := ps) (qs := qs) (hS := hS) (hS' := hS') (hP := hP) (hQ := hQ))) rfl rfl rfl ?_
        rintro _ _ ⟨⟨⟩, rfl, hA⟩
        simp only [List.cons_append, List.nil_append] at hA
        replace hA := hA.symm
        subst hA
        refine WL_rd (Rd_pickT rfl rfl) rfl rfl rfl ?_
        refine WL_rd (Rd_assign rfl) rfl rfl rfl ?_
        refine WL_end hK11 ?_
        refine WC_seq fun K13 hK13 => ?_
        refine WC_sr fun K14 hK14 => ?_
        refine WL_rd (Rd_move rfl) rfl rfl rfl ?_
        refine WL_rd (Rd_move rfl) rfl rfl rfl ?_
        refine WL_fact (fun w h => arr_facts (a := a23) (cap := cap23) (e := 1) (T := 5) (f := eU .u8 (w := 8)) (l := (tagB t (ps.map (·.l)))) (by repeat (first | with_reducible exact Has.here | with_reducible refine Has.there ?_)) h) (fun hSaf => ?_)
        have hSa : Sv [arr a23 cap23 1 5 (eU .u8) (tagB t (ps.map (·.l)))] (sl a23 (tagB t (ps.map (·.l))).length cap23) 1 (eU .u8 (w := 8)) (tagB t (ps.map (·.l))) (a23.map fun g => ⟨g, 0, none⟩) cap23 := Sv_own' (encU .u8 (w := 8)) hSaf.1 hSaf.2
        refine WL_fact (fun w h => arr_facts (a := a29) (cap := cap29) (e := 1) (T := 5) (f := eU .u8 (w := 8)) (l := (tagB u (qs.map (·.l)))) (by repeat (first | with_reducible exact Has.here | with_reducible refine Has.there ?_)) h) (fun hSbf => ?_)
        have hSb : Sv [arr a29 cap29 1 5 (eU .u8) (tagB u (qs.map (·.l)))] (sl a29 (tagB u (qs.map (·.l))).length cap29) 1 (eU .u8 (w := 8)) (tagB u (qs.map (·.l))) (a29.map fun g => ⟨g, 0, none⟩) cap29 := Sv_own' (encU .u8 (w := 8)) hSbf.1 hSbf.2
        refine WL_ac (Ac_call cf50 rfl (hs := Ct.un0 (Xs := [arr a23 cap23 1 5 (eU .u8) (tagB t (ps.map (·.l))), arr a29 cap29 1 5 (eU .u8) (tagB u (qs.map (·.l)))]) (same_ct (X := sep [arr a23 cap23 1 5 (eU .u8) (tagB t (ps.map (·.l))), arr a29 cap29 1 5 (eU .u8) (tagB u (qs.map (·.l)))]) (l := (tagB t (ps.map (·.l)))) (l' := (tagB u (qs.map (·.l)))) (hS := hSa.pk (by repeat (first | with_reducible exact Has.here | with_reducible refine Has.there ?_))) (hS' := hSb.pk (by repeat (first | with_reducible exact Has.here | with_reducible refine Has.there ?_)))))) rfl rfl rfl ?_
        rintro _ _ ⟨⟨⟩, rfl, hA⟩
        simp only [List.cons_append, List.nil_append] at hA
        replace hA := hA.symm
        subst hA
        refine WL_rd (Rd_move rfl) rfl rfl rfl ?_
        refine WL_rd (Rd_isF (Rd_bne rfl rfl ud4) (by first | (rw [dec_congr (tagB_inj (by omega) (by omega) (lt64 (by omega)) (lt64 (by omega)))]; simp; done) | (rw [dec_congr (tagB_inj (by omega) (by omega) (lt64 (by omega)) (lt64 (by omega)))]; simp_all; done))) rfl rfl rfl ?_
        refine WL_end hK14 ?_
        refine WC_condF rfl ?_
        refine WC_skip ?_
        refine Ps_next hK13 ?_
        refine WC_sr fun K15 hK15 => ?_
        refine WL_rd (Rd_move rfl) rfl rfl rfl ?_
        refine WL_rd (Rd_move rfl) rfl rfl rfl ?_
        refine WL_ac (Ac_call cf51 rfl (hs := digest_ct (X := X) (t := t) (ps := ps) (hS := hS) (hP := hP))) rfl rfl rfl ?_
        rintro _ _ ⟨⟨⟩, rfl, hA⟩
        simp only [List.cons_append, List.nil_append] at hA
        replace hA := hA.symm
        subst hA
        refine WL_rd (Rd_move rfl) rfl rfl rfl ?_
        refine WL_rd (Rd_ext0 rfl) rfl rfl rfl ?_
        refine WL_rd (Rd_ext1 rfl) rfl rfl rfl ?_
        refine WL_ac (Ac_allocW (k := .u8) (w := 8) (m := 32) zr42) rfl rfl rfl ?_
        rintro _ _ ⟨b14, rfl, rfl⟩
        refine WL_ac0 (Ac_storeW rfl rfl sz42) rfl rfl ?_
        rintro _ _ rfl
        refine WL_rd (Rd_assign rfl) rfl rfl rfl ?_
        refine WL_end hK15 ?_
        refine WC_sr fun K16 hK16 => ?_
        refine WL_rd (Rd_move rfl) rfl rfl rfl ?_
        refine WL_rd (Rd_move rfl) rfl rfl rfl ?_
        refine WL_ac (Ac_call cf51 rfl (hs := digest_ct (X := X) (t := u) (ps := qs) (hS := hS') (hP := hQ))) rfl rfl rfl ?_
        rintro _ _ ⟨⟨⟩, rfl, hA⟩
        simp only [List.cons_append, List.nil_append] at hA
        replace hA := hA.symm
        subst hA
        refine WL_rd (Rd_move rfl) rfl rfl rfl ?_
        refine WL_rd (Rd_ext0 rfl) rfl rfl rfl ?_
        refine WL_rd (Rd_ext1 rfl) rfl rfl rfl ?_
        refine WL_ac (Ac_allocW (k := .u8) (w := 8) (m := 32) zr42) rfl rfl rfl ?_
        rintro _ _ ⟨b16, rfl, rfl⟩
        refine WL_ac0 (Ac_storeW rfl rfl sz42) rfl rfl ?_
        rintro _ _ rfl
        refine WL_rd (Rd_assign rfl) rfl rfl rfl ?_
        refine WL_end hK16 ?_
        refine WC_seq fun K17 hK17 => ?_
        refine WC_sr fun K18 hK18 => ?_
        refine WL_rd (Rd_move rfl) rfl rfl rfl ?_
        refine WL_rd (Rd_isF (Rd_neqN (j := 0) rfl rfl)) rfl rfl rfl ?_
        refine WL_rd (Rd_move rfl) rfl rfl rfl ?_
        refine WL_rd (Rd_move rfl) rfl rfl rfl ?_
        refine WL_rd (Rd_isF (Rd_neqN (j := 0) rfl rfl)) rfl rfl rfl ?_
        refine WL_rd (Rd_pickF rfl rfl) rfl rfl rfl ?_
        refine WL_end hK18 ?_
        refine WC_condF rfl ?_
        refine WC_skip ?_
        refine Ps_next hK17 ?_
        refine WC_seq fun K19 hK19 => ?_
        refine WC_drawA mix (fun i => ([2, 2, 2, 2, 1, 2, 1, 2, 2, 2] : List Nat).getD i 0) ?_
        refine WJ_tk 0 (Rd_loadW rfl tk42) hp ?_ rfl (by kernel_rfl) rfl rfl rfl
        refine WJ_tk 1 (Rd_loadW rfl tk42) hp ?_ rfl (by kernel_rfl) rfl rfl rfl
        refine WJ_takeP 2 rfl (by kernel_rfl) (Rd_eqW rfl rfl ais42) rfl rfl rfl (hp _ _) ?_
        refine WJ_takeP 3 rfl (by kernel_rfl) (Rd_move rfl) rfl rfl rfl (hp _ _) ?_
        refine WJ_takeP 5 rfl (by kernel_rfl) (Rd_move rfl) rfl rfl rfl (hp _ _) ?_
        refine WJ_all (rs := [4]) (by kernel_rfl) rfl ?_
        refine WI_one ?_
        refine WI_ac rfl (Ac_call cf43 rfl (hs := sumR_ct (X := arr a23 cap23 1 5 (eU .u8) (tagB t (ps.map (·.l)))) (l := (tagB t (ps.map (·.l)))) (hS := hSa))) rfl rfl rfl rfl ?_
        rintro _ _ ⟨⟨⟩, rfl, hA⟩
        simp only [List.cons_append, List.nil_append] at hA
        replace hA := hA.symm
        subst hA
        refine ⟨(fun _ => (by repeat (first | with_reducible exact Sub.refl | with_reducible exact Sub.nil | with_reducible refine Sub.cons (by repeat (first | with_reducible exact Ext.here | with_reducible apply Ext.there)) ?_ | with_reducible refine Sub.tail ?_))), ?_⟩
        refine WJ_all (rs := [6]) (by kernel_rfl) rfl ?_
        refine WI_one ?_
        refine WI_ac rfl (Ac_call cf43 rfl (hs := sumR_ct (X := arr a29 cap29 1 5 (eU .u8) (tagB u (qs.map (·.l)))) (l := (tagB u (qs.map (·.l)))) (hS := hSb))) rfl rfl rfl rfl ?_
        rintro _ _ ⟨⟨⟩, rfl, hA⟩
        simp only [List.cons_append, List.nil_append] at hA
        replace hA := hA.symm
        subst hA
        refine ⟨(fun _ => (by repeat (first | with_reducible exact Sub.refl | with_reducible exact Sub.nil | with_reducible refine Sub.cons (by repeat (first | with_reducible exact Ext.here | with_reducible apply Ext.there)) ?_ | with_reducible refine Sub.tail ?_))), ?_⟩
        refine WJ_takeP 7 rfl (by kernel_rfl) (Rd_eqW rfl rfl ais42) rfl rfl rfl (hp _ _) ?_
        refine WJ_takeP 8 rfl (by kernel_rfl) (Rd_isT (Rd_beq rfl rfl ud4) (by rw [tagD_ok (show tagE t (ps.map (·.l)) = 0 by omega), tagD_ok (show tagE u (qs.map (·.l)) = 0 by omega)]; simp)) rfl rfl rfl (hp _ _) ?_
        refine WJ_takeP 9 rfl (by kernel_rfl) (Rd_assign rfl) rfl rfl rfl (hp _ _) ?_
        refine WJ_done (by kernel_rfl) ?_
        refine Ps_next hK19 ?_
        refine WC_ret ?_
        exact hret.go () (Rs1 rfl rfl)
      · try simp only [decide_eq_true_eq, decide_eq_false_iff_not, Bool.not_eq_true', Bool.not_eq_false', Bool.not_eq_true, Bool.not_eq_false, Int.not_lt, Int.not_le, Nat.not_lt, Nat.not_le, Decidable.not_not, ne_eq] at hg12
        refine WL_skip rfl rfl rfl ?_
        refine WL_skip rfl rfl rfl ?_
        refine WL_skip rfl rfl rfl ?_
        refine WL_rd (Rd_pickF rfl rfl) rfl rfl rfl ?_
        refine WL_rd (Rd_assign rfl) rfl rfl rfl ?_
        refine WL_end hK11 ?_
        refine WC_seq fun K20 hK20 => ?_
        refine WC_sr fun K21 hK21 => ?_
        refine WL_rd (Rd_move rfl) rfl rfl rfl ?_
        refine WL_rd (Rd_move rfl) rfl rfl rfl ?_
        refine WL_fact (fun w h => arr_facts (a := a23) (cap := cap23) (e := 1) (T := 5) (f := eU .u8 (w := 8)) (l := (tagB t (ps.map (·.l)))) (by repeat (first | with_reducible exact Has.here | with_reducible refine Has.there ?_)) h) (fun hSaf => ?_)
        have hSa : Sv [arr a23 cap23 1 5 (eU .u8) (tagB t (ps.map (·.l)))] (sl a23 (tagB t (ps.map (·.l))).length cap23) 1 (eU .u8 (w := 8)) (tagB t (ps.map (·.l))) (a23.map fun g => ⟨g, 0, none⟩) cap23 := Sv_own' (encU .u8 (w := 8)) hSaf.1 hSaf.2
        refine WL_fact (fun w h => arr_facts (a := a29) (cap := cap29) (e := 1) (T := 5) (f := eU .u8 (w := 8)) (l := (tagB u (qs.map (·.l)))) (by repeat (first | with_reducible exact Has.here | with_reducible refine Has.there ?_)) h) (fun hSbf => ?_)
        have hSb : Sv [arr a29 cap29 1 5 (eU .u8) (tagB u (qs.map (·.l)))] (sl a29 (tagB u (qs.map (·.l))).length cap29) 1 (eU .u8 (w := 8)) (tagB u (qs.map (·.l))) (a29.map fun g => ⟨g, 0, none⟩) cap29 := Sv_own' (encU .u8 (w := 8)) hSbf.1 hSbf.2
        refine WL_ac (Ac_call cf50 rfl (hs := Ct.un0 (Xs := [arr a23 cap23 1 5 (eU .u8) (tagB t (ps.map (·.l))), arr a29 cap29 1 5 (eU .u8) (tagB u (qs.map (·.l)))]) (same_ct (X := sep [arr a23 cap23 1 5 (eU .u8) (tagB t (ps.map (·.l))), arr a29 cap29 1 5 (eU .u8) (tagB u (qs.map (·.l)))]) (l := (tagB t (ps.map (·.l)))) (l' := (tagB u (qs.map (·.l)))) (hS := hSa.pk (by repeat (first | with_reducible exact Has.here | with_reducible refine Has.there ?_))) (hS' := hSb.pk (by repeat (first | with_reducible exact Has.here | with_reducible refine Has.there ?_)))))) rfl rfl rfl ?_
        rintro _ _ ⟨⟨⟩, rfl, hA⟩
        simp only [List.cons_append, List.nil_append] at hA
        replace hA := hA.symm
        subst hA
        refine WL_rd (Rd_move rfl) rfl rfl rfl ?_
        refine WL_rd (Rd_isF (Rd_bne rfl rfl ud4) (by first | (rw [dec_congr (tagB_inj (by omega) (by omega) (lt64 (by omega)) (lt64 (by omega)))]; simp; done) | (rw [dec_congr (tagB_inj (by omega) (by omega) (lt64 (by omega)) (lt64 (by omega)))]; simp_all; done))) rfl rfl rfl ?_
        refine WL_end hK21 ?_
        refine WC_condF rfl ?_
        refine WC_skip ?_
        refine Ps_next hK20 ?_
        refine WC_sr fun K22 hK22 => ?_
        refine WL_rd (Rd_move rfl) rfl rfl rfl ?_
        refine WL_rd (Rd_move rfl) rfl rfl rfl ?_
        refine WL_ac (Ac_call cf51 rfl (hs := digest_ct (X := X) (t := t) (ps := ps) (hS := hS) (hP := hP))) rfl rfl rfl ?_
        rintro _ _ ⟨⟨⟩, rfl, hA⟩
        simp only [List.cons_append, List.nil_append] at hA
        replace hA := hA.symm
        subst hA
        refine WL_rd (Rd_move rfl) rfl rfl rfl ?_
        refine WL_rd (Rd_ext0 rfl) rfl rfl rfl ?_
        refine WL_rd (Rd_ext1 rfl) rfl rfl rfl ?_
        refine WL_ac (Ac_allocW (k := .u8) (w := 8) (m := 32) zr42) rfl rfl rfl ?_
        rintro _ _ ⟨b14, rfl, rfl⟩
        refine WL_ac0 (Ac_storeW rfl rfl sz42) rfl rfl ?_
        rintro _ _ rfl
        refine WL_rd (Rd_assign rfl) rfl rfl rfl ?_
        refine WL_end hK22 ?_
        refine WC_sr fun K23 hK23 => ?_
        refine WL_rd (Rd_move rfl) rfl rfl rfl ?_
        refine WL_rd (Rd_move rfl) rfl rfl rfl ?_
        refine WL_ac (Ac_call cf51 rfl (hs := digest_ct (X := X) (t := u) (ps := qs) (hS := hS') (hP := hQ))) rfl rfl rfl ?_
        rintro _ _ ⟨⟨⟩, rfl, hA⟩
        simp only [List.cons_append, List.nil_append] at hA
        replace hA := hA.symm
        subst hA
        refine WL_rd (Rd_move rfl) rfl rfl rfl ?_
        refine WL_rd (Rd_ext0 rfl) rfl rfl rfl ?_
        refine WL_rd (Rd_ext1 rfl) rfl rfl rfl ?_
        refine WL_ac (Ac_allocW (k := .u8) (w := 8) (m := 32) zr42) rfl rfl rfl ?_
        rintro _ _ ⟨b16, rfl, rfl⟩
        refine WL_ac0 (Ac_storeW rfl rfl sz42) rfl rfl ?_
        rintro _ _ rfl
        refine WL_rd (Rd_assign rfl) rfl rfl rfl ?_
        refine WL_end hK23 ?_
        refine WC_seq fun K24 hK24 => ?_
        refine WC_sr fun K25 hK25 => ?_
        refine WL_rd (Rd_move rfl) rfl rfl rfl ?_
        refine WL_rd (Rd_isF (Rd_neqN (j := 0) rfl rfl)) rfl rfl rfl ?_
        refine WL_rd (Rd_move rfl) rfl rfl rfl ?_
        refine WL_rd (Rd_move rfl) rfl rfl rfl ?_
        refine WL_rd (Rd_isF (Rd_neqN (j := 0) rfl rfl)) rfl rfl rfl ?_
        refine WL_rd (Rd_pickF rfl rfl) rfl rfl rfl ?_
        refine WL_end hK25 ?_
        refine WC_condF rfl ?_
        refine WC_skip ?_
        refine Ps_next hK24 ?_
        refine WC_seq fun K26 hK26 => ?_
        refine WC_drawA mix (fun i => ([2, 2, 2, 2, 1, 2, 1, 2, 2, 2] : List Nat).getD i 0) ?_
        refine WJ_tk 0 (Rd_loadW rfl tk42) hp ?_ rfl (by kernel_rfl) rfl rfl rfl
        refine WJ_tk 1 (Rd_loadW rfl tk42) hp ?_ rfl (by kernel_rfl) rfl rfl rfl
        refine WJ_takeP 2 rfl (by kernel_rfl) (Rd_eqW rfl rfl ais42) rfl rfl rfl (hp _ _) ?_
        refine WJ_takeP 3 rfl (by kernel_rfl) (Rd_move rfl) rfl rfl rfl (hp _ _) ?_
        refine WJ_takeP 5 rfl (by kernel_rfl) (Rd_move rfl) rfl rfl rfl (hp _ _) ?_
        refine WJ_all (rs := [4]) (by kernel_rfl) rfl ?_
        refine WI_one ?_
        refine WI_ac rfl (Ac_call cf43 rfl (hs := sumR_ct (X := arr a23 cap23 1 5 (eU .u8) (tagB t (ps.map (·.l)))) (l := (tagB t (ps.map (·.l)))) (hS := hSa))) rfl rfl rfl rfl ?_
        rintro _ _ ⟨⟨⟩, rfl, hA⟩
        simp only [List.cons_append, List.nil_append] at hA
        replace hA := hA.symm
        subst hA
        refine ⟨(fun _ => (by repeat (first | with_reducible exact Sub.refl | with_reducible exact Sub.nil | with_reducible refine Sub.cons (by repeat (first | with_reducible exact Ext.here | with_reducible apply Ext.there)) ?_ | with_reducible refine Sub.tail ?_))), ?_⟩
        refine WJ_all (rs := [6]) (by kernel_rfl) rfl ?_
        refine WI_one ?_
        refine WI_ac rfl (Ac_call cf43 rfl (hs := sumR_ct (X := arr a29 cap29 1 5 (eU .u8) (tagB u (qs.map (·.l)))) (l := (tagB u (qs.map (·.l)))) (hS := hSb))) rfl rfl rfl rfl ?_
        rintro _ _ ⟨⟨⟩, rfl, hA⟩
        simp only [List.cons_append, List.nil_append] at hA
        replace hA := hA.symm
        subst hA
        refine ⟨(fun _ => (by repeat (first | with_reducible exact Sub.refl | with_reducible exact Sub.nil | with_reducible refine Sub.cons (by repeat (first | with_reducible exact Ext.here | with_reducible apply Ext.there)) ?_ | with_reducible refine Sub.tail ?_))), ?_⟩
        refine WJ_takeP 7 rfl (by kernel_rfl) (Rd_eqW rfl rfl ais42) rfl rfl rfl (hp _ _) ?_
        refine WJ_takeP 8 rfl (by kernel_rfl) (Rd_isT (Rd_beq rfl rfl ud4) (by rw [tagD_ok (show tagE t (ps.map (·.l)) = 0 by omega), tagD_ok (show tagE u (qs.map (·.l)) = 0 by omega)]; simp)) rfl rfl rfl (hp _ _) ?_
        refine WJ_takeP 9 rfl (by kernel_rfl) (Rd_assign rfl) rfl rfl rfl (hp _ _) ?_
        refine WJ_done (by kernel_rfl) ?_
        refine Ps_next hK26 ?_
        refine WC_ret ?_
        exact hret.go () (Rs1 rfl rfl)
end Go.Proofs.Ythkchjcodibaeaa
